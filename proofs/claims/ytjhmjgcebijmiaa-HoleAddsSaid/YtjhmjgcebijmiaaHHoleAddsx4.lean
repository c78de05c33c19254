/- The contracts of the functions that the law HoleAdds reaches: Go's code comes to what these Lean functions tell (written by a program of ours and the kit's, out of the translation). -/
import Derived.Test.YtjhmjgcebijmiaaHHoleAddsx0
import Derived.Test.YtjhmjgcebijmiaaHHoleAddsx3
namespace Go.Proofs.Ytjhmjgcebijmiaa.HHoleAdds
open Go.RowKit Go.Proofs.YtjhmjgcebijmiaaW.PrintWords Go.Proofs.YtjhmjgcebijmiaaW.PrintLast Go.Proofs.YtjhmjgcebijmiaaW.PrintMore
attribute [local go_sem] max2_int min2_int max_two min_two max_three min_three max_four min_four   -- for this text's walks alone
set_option linter.unusedVariables false
set_option linter.unusedSimpArgs false

/-! ### packthreadref_HoleAdd: function 31 -/
theorem hinfo3 : (Try.prog.info? 3).map (fun i => (i.zero, i.size, i.bytes)) = some (some (.int .i64 0), 1, 8) := by kernel_rfl
theorem blk_ltp {W : World} {g : Nat} {o : Obj} (h : W.heap[g]? = some o) : g < W.heap.size := (Array.getElem?_eq_some_iff.1 h).1
def at_ (n : Int) (l : List Int) : Nat := (l.takeWhile (fun x => decide (x < n))).length
theorem at_le (n : Int) (l : List Int) : at_ n l ≤ l.length := by
  unfold at_
  induction l with
  | nil => simp
  | cons x t ih => rw [List.takeWhile_cons]; split <;> simp <;> omega
theorem at_lt (n : Int) (l : List Int) (j : Nat) (h : j < at_ n l) : rd l (j : Int) < n := by
  unfold at_ at h
  unfold rd
  rw [Int.toNat_natCast]
  induction l generalizing j with
  | nil => simp at h
  | cons x t ih =>
    rw [List.takeWhile_cons] at h
    split at h
    · rename_i hx
      cases j with
      | zero => simpa using hx
      | succ j => simpa using ih j (by simpa using h)
    · simp at h
theorem at_end (n : Int) (l : List Int) (h : at_ n l < l.length) : ¬ rd l (at_ n l : Int) < n := by
  unfold at_ at h ⊢
  unfold rd
  rw [Int.toNat_natCast]
  induction l with
  | nil => simp at h
  | cons x t ih =>
    rw [List.takeWhile_cons] at h ⊢
    split
    · rename_i hx
      rw [if_pos hx] at h
      simpa using ih (by simpa using h)
    · rename_i hx
      simpa using hx
def ins (n : Int) (l : List Int) : List Int := if at_ n l < l.length ∧ rd l (at_ n l : Int) = n then l else l.take (at_ n l) ++ ([n] ++ l.drop (at_ n l))
theorem ins_length (n : Int) (l : List Int) : (ins n l).length ≤ l.length + 1 := by
  unfold ins
  split
  · omega
  · simp; have := at_le n l; omega
theorem own_slice (A : Option Addr) (n m c : Nat) : (Value.slice A n c).ownBlock = (Value.slice A m c).ownBlock := by cases A <;> rfl
def put_T : Bool × List (List Nat × List Nat) := (true, [([], []), ([], []), ([0, 1], [0, 1]), ([], []), ([3], [3]), ([], []), ([], []), ([5, 6], [5, 6]), ([4, 7], [4, 7]), ([2, 8, 8], [2, 8]), ([9, 9, 0, 1, 2, 3, 4, 5, 6, 7, 8, 9], [9])])
def put_B : List Nat := [0, 0, 3, 0, 8, 0, 0, 96, 248, 511, 1023]
theorem put_tab : rtab .any (opsOf Try.f67 4) = put_T := by kernel_rfl
theorem put_bits : waitsOk put_T.2 put_B = true := by kernel_rfl
set_option maxHeartbeats 40000000 in
set_option maxRecDepth 100000 in
theorem put_calls (w0 w : World) (bb : Nat) (v : Value) (l : List Int) (n : Int) (P : Nat → Prop) (hB : Below w0.heap.size w0 w) (hbb : w.heap[bb]? = some (.cells #[v] 59 (0, 0))) (hbw : w0.heap.size ≤ bb) (hP : ∀ k, w.heap.size ≤ k → P k) (hPb : ¬ P bb) (ho : Kd.R (Kd.int .i64) 3 w w0.heap.size P v l) (hl : l.length < 1000) :
    Calls Try.prog 67 #[.int .i64 n, .pointer (some ⟨bb, 0, none⟩)] w fun e w' => e = .returned (.tuple #[]) ∧ ∃ v' : Value, w'.heap[bb]? = some (.cells #[v'] 59 (0, 0)) ∧ Kd.R (Kd.int .i64) 3 w' w0.heap.size P v' (ins n l) ∧ Below w0.heap.size w0 w' ∧ w.heap.size ≤ w'.heap.size ∧ ∀ k, k < w.heap.size → ¬ P k → k ≠ bb → w'.heap[k]? = w.heap[k]? := by
  have HB := Aside0.mk hB
  obtain ⟨A, cc, rfl⟩ := Kd.R_slice ho
  have HO := Aside0.mk ho
  have HBB := Aside0.mk hbb
  have hk : w.cell? ⟨bb, 0, none⟩ = some (.slice A l.length cc) := (blk_cell hbb 0).trans rfl
  clear hB ho hbb
  have HR := Aside0.mk (Kd.R_reads' HO.out)
  obtain ⟨i3, hi3, hz3⟩ := Option.map_eq_some_iff.1 hinfo3
  have hsz3 : i3.size = 1 := by simp only [Prod.mk.injEq] at hz3; exact hz3.2.1
  clear hz3
  obtain ⟨t, htl, hlt, hend, hins⟩ : ∃ t : Nat, t ≤ l.length ∧ (∀ j : Nat, j < t → rd l (j : Int) < n) ∧ (t < l.length → ¬ rd l (t : Int) < n) ∧ ins n l = if t < l.length ∧ rd l (t : Int) = n then l else l.take t ++ ([n] ++ l.drop t) := ⟨at_ n l, at_le n l, at_lt n l, at_end n l, rfl⟩
  have HI := Aside0.mk hins
  clear hins
  have HLT := Aside0.mk hlt
  have HEND := Aside0.mk hend
  clear hlt hend
  go_enter Try.func67, Try.ntmps67
  go_wp2
  go_loopw [3] (fun v3 wr => ∃ j : Nat, v3 = .int .i64 (j : Int) ∧ Aside0 (j ≤ t) ∧ wr = w) (fun v3 _ => l.length - (intOf v3).toNat)
  case atStart => exact ⟨0, rfl, ⟨Nat.zero_le _⟩, by first | trivial | rfl⟩
  case round =>
    obtain ⟨j, rfl, HJ, rfl⟩ := hrel
    by_cases hj : j < t
    · have hlt := HLT.out j hj
      have e1_ : decide ((j : Int) < (l.length : Int)) = true := decide_eq_true (by omega)
      have e2_ : decide (rd l (j : Int) < n) = true := decide_eq_true hlt
      have p1 : (0 : Int) ≤ (j : Int) := by omega
      have q1 : (j : Int) < (l.length : Int) := by omega
      obtain ⟨ad, rfl, hx⟩ := Kd.at_int HR.out.2.2 (j : Int) p1 q1
      rw [Int.toNat_natCast] at hx
      replace p1 := eq_true p1
      replace q1 := eq_true q1
      clear hlt
      go_wp2
      go_roundw
      case measure => simp only [intOf]; omega
      case rel => exact ⟨j + 1, rfl, ⟨by omega⟩, by first | trivial | rfl⟩
    obtain rfl : j = t := by have := HJ.out; omega
    by_cases ht : j < l.length
    · have hge := HEND.out ht
      have e1_ : decide ((j : Int) < (l.length : Int)) = true := decide_eq_true (by omega)
      have e2_ : decide (rd l (j : Int) < n) = false := decide_eq_false (by omega)
      have e3_ : ((j : Int) == (l.length : Int)) = false := beq_eq_false_iff_ne.2 (by omega)
      have p1 : (0 : Int) ≤ (j : Int) := by omega
      have q1 : (j : Int) < (l.length : Int) := by omega
      obtain ⟨ad, rfl, hx⟩ := Kd.at_int HR.out.2.2 (j : Int) p1 q1
      rw [Int.toNat_natCast] at hx
      replace p1 := eq_true p1
      replace q1 := eq_true q1
      clear hge
      by_cases hq : rd l (j : Int) = n
      · have HE := Aside0.mk (HI.out.trans (if_pos ⟨ht, hq⟩))
        have e4_ : (rd l (j : Int) != n) = false := bne_eq_false_iff_eq.2 hq
        clear hq
        go_wp2
        first | go_end0 | ((try simp only [Exit.inBlock, Exit.then]); refine bodyPost_ret (results_none rfl _ _ _) rfl ?_)
        exact ⟨rfl, _, HBB.out, by rw [HE.out]; exact HO.out, HB.out, Nat.le_refl _, fun _ _ _ _ => rfl⟩
      · have HE := Aside0.mk (HI.out.trans (if_neg (fun h => hq h.2)))
        have e4_ : (rd l (j : Int) != n) = true := bne_iff_ne.2 hq
        clear hq
        go_upto_region 4 with (fail)
        have hcutT := cut_to (P := Try.prog) 59 3 .i64 Try.underlying59 hi3 (some ad) l.length cc (j : Int) (by omega) (by omega) HR.out.2.1
        have hcutF := cut_from (P := Try.prog) 59 3 .i64 Try.underlying59 hi3 1 hsz3 (some ad) l.length cc (j : Int) (by omega) (by omega)
        have hCF := Kd.C_drop (m := j) (c := cc) HR.out.2.2 htl HR.out.2.1
        rw [show (Kd.int .i64).sz = 1 from rfl] at hCF
        rw [Int.toNat_natCast] at hcutT
        rw [Int.toNat_natCast] at hcutF
        rw [List.length_drop] at hCF
        have HCF := Aside0.mk hCF
        generalize (if cc = j then (some ad) else (some ad).map (·.add (j * 1))) = A2 at hcutF HCF
        clear hCF
        refine start_ (n := 11) (S := fun w'' => w''.cell? ⟨bb, 0, none⟩ = some (.slice (some ad) l.length cc)) (ds := [10]) #[false, false, false, false, false, false, false, false, false, false, false] (by kernel_rfl) rfl rfl hk (fun hHeld => ?_); refine with_tabW put_tab put_bits (fun HT_ HW_ => ?_)
        have HB1 := Aside0.mk (below_drew1 HB.out)
        have HO1 := Aside0.mk (Kd.R_drew HO.out)
        have HF1 := Aside0.mk (show Kd.C (Kd.int .i64) wr.drew A2 (l.length - j) (l.drop j) from Kd.C_below HCF.out (below_drew1 (Below.refl _ _)))
        have HK1 := Aside0.mk (below_drew1 (Below.refl wr.heap.size wr))
        have HV1 := Aside0.mk (show wr.drew.heap[bb]? = some (.cells #[.slice (some ad) l.length cc] 59 (0, 0)) from HBB.out)
        generalize wr.drew = w1 at HB1 HO1 HF1 HK1 HV1 hHeld ⊢
        refine pure_ (i := 1) (N := some 31) (v := ?_) (a' := ?_) #[false, true, false, false, false, false, false, false, false, false, false] rfl rfl (any_of HT_.out (by kernel_rfl)) (fun _ _ _ h => h) (Or.inl ⟨by rfl, ?_⟩) ?_ ?_
        rotate_left
        · intro w''
          go_simp
          with_reducible rfl
        rotate_left
        · simp only [Act.put, List.setIfInBounds_toArray, List.set_cons_zero, List.set_cons_succ, i64_w, i32_w]
          rfl
        refine pure_ (i := 3) (N := some 33) (v := ?_) (a' := ?_) #[false, true, false, true, false, false, false, false, false, false, false] rfl rfl (any_of HT_.out (by kernel_rfl)) (fun _ _ _ h => h) (Or.inl ⟨by rfl, ?_⟩) ?_ ?_
        rotate_left
        · intro w''
          go_simp
          with_reducible rfl
        rotate_left
        · simp only [Act.put, List.setIfInBounds_toArray, List.set_cons_zero, List.set_cons_succ, i64_w, i32_w]
          rfl
        refine pure_ (i := 6) (N := some 36) (v := ?_) (a' := ?_) #[false, true, false, true, false, false, true, false, false, false, false] rfl rfl (any_of HT_.out (by kernel_rfl)) (fun _ _ _ h => h) (Or.inl ⟨by rfl, ?_⟩) ?_ ?_
        rotate_left
        · intro w''
          go_simp
          with_reducible rfl
        rotate_left
        · simp only [Act.put, List.setIfInBounds_toArray, List.set_cons_zero, List.set_cons_succ, i64_w, i32_w]
          rfl
        refine take_ (i := 0) (N := some 30) (v := ?_) (a' := ?_) #[true, true, false, true, false, false, true, false, false, false, false] rfl rfl (take_ofW HT_.out HW_.out (by kernel_rfl)) (fun _ _ _ h => h) (Or.inl ⟨by rfl, ?_⟩) hHeld ?_ ?_
        rotate_left
        · intro w'' s0
          go_simp
          with_reducible rfl
        rotate_left
        · simp only [Act.put, List.setIfInBounds_toArray, List.set_cons_zero, List.set_cons_succ, i64_w, i32_w]
          rfl
        refine take_ (i := 5) (N := some 35) (v := ?_) (a' := ?_) #[true, true, false, true, false, true, true, false, false, false, false] rfl rfl (take_ofW HT_.out HW_.out (by kernel_rfl)) (fun _ _ _ h => h) (Or.inl ⟨by rfl, ?_⟩) hHeld ?_ ?_
        rotate_left
        · intro w'' s0
          go_simp
          with_reducible rfl
        rotate_left
        · simp only [Act.put, List.setIfInBounds_toArray, List.set_cons_zero, List.set_cons_succ, i64_w, i32_w]
          rfl
        refine pure_ (i := 2) (N := some 32) (v := ?_) (a' := ?_) #[true, true, true, true, false, true, true, false, false, false, false] rfl rfl (any_of HT_.out (by kernel_rfl)) (fun _ _ _ h => h) (Or.inl ⟨by rfl, ?_⟩) ?_ ?_
        rotate_left
        · intro w''
          go_simp
          with_reducible rfl
        rotate_left
        · simp only [Act.put, List.setIfInBounds_toArray, List.set_cons_zero, List.set_cons_succ, i64_w, i32_w]
          rfl
        refine pure_ (i := 7) (N := some 37) (v := ?_) (a' := ?_) #[true, true, true, true, false, true, true, true, false, false, false] rfl rfl (any_of HT_.out (by kernel_rfl)) (fun _ _ _ h => h) (Or.inl ⟨by rfl, ?_⟩) ?_ ?_
        rotate_left
        · intro w''
          go_simp
          with_reducible rfl
        rotate_left
        · simp only [Act.put, List.setIfInBounds_toArray, List.set_cons_zero, List.set_cons_succ, i64_w, i32_w]
          rfl
        refine one_ (i := 4) (N := some 34) #[true, true, true, true, true, true, true, true, false, false, false] rfl rfl (one_of HT_.out (by kernel_rfl)) (by decide) (fun K hK => ?_)
        refine Kd.R_lit_step (Kd.int .i64) (w0 := w0) w0.heap.size 3 (by rfl) (N := 34) rfl (xs := [n]) (inner := [.int .i64 n]) (ok := P) (okp := fun _ => False) ?hr (Reps.one (show Kd.M (Kd.int .i64) _ _ _ n [.int .i64 n] from rfl) (Reps.none _ _)) (fun _ h => h.elim) (hP _ HK1.out.size) HB1.out HB1.out.size (by simp) ?_
        (case hr => first | (go_simp; done) | (go_simp; rfl))
        intro v34 w2 ho hb hg hnew
        obtain ⟨b34, hown34, hb34⟩ := hnew
        have HL2 : Aside0 (Below w1.heap.size w1 w2) := ⟨⟨hg.os, hg.tape, hg.output, hg.size, fun k_ hk_ => hg.block k_ hk_ (by simp)⟩⟩
        have hS2 := cell_grown hg hHeld (by simp)
        have HO2 := Aside0.mk ho
        have HB2 := Aside0.mk hb
        have HN2 := Aside0.mk hb34
        obtain ⟨A34, c34, e34⟩ := Kd.R_slice ho
        subst e34
        have HW2 := Aside0.mk hown34
        clear ho hb hg hb34 hown34
        refine hK.out _ _ hS2 (fun hHeld => ?_)
        clear hK K
        refine norm_ (a' := ?_) ?_ ?_
        rotate_left
        · show Act.put _ (some 34) _ = _
          simp only [Act.put, List.setIfInBounds_toArray, List.set_cons_zero, List.set_cons_succ, i64_w, i32_w]
          rfl
        refine one_ (i := 8) (N := some 38) #[true, true, true, true, true, true, true, true, true, false, false] rfl rfl (one_of HT_.out (by kernel_rfl)) (by decide) (fun K hK => ?_)
        refine Kd.R_append_rows_step (Kd.int .i64) (w0 := w0) w0.heap.size (by rfl) (.tmp 34) (.tmp 37) 59 3 (.int .i64 0) 8 rfl Try.underlying59 hinfo3 rfl (by decide) (by omega) _ [n] (l.drop j) _ _ _ P (fun _ => False) rfl rfl ?aO ?aR (fun _ _ h => h) (fun _ h => h.elim) ?aF ?aB ?aS ?aL ?_
        (case aO => exact HO2.out)
        (case aR => exact Kd.C_below HF1.out HL2.out)
        (case aF => exact (fun k_ hk_ => hP k_ (Nat.le_trans HK1.out.size (Nat.le_trans HL2.out.size hk_))))
        (case aB => exact HB2.out)
        (case aS => exact HB2.out.size)
        (case aL => simp only [List.length_cons, List.length_nil]; omega)
        intro v38 w3 ho hb hg hat
        have hne3 : ∀ k_, k_ < w1.heap.size → some k_ ≠ (Value.slice A34 ([n] : List Int).length c34).ownBlock := fun k_ hk_ e_ => by have h1_ := HW2.out; have h2_ := HN2.out; rw [h1_] at e_; injection e_ with e_; omega
        have HL3 : Aside0 (Below w1.heap.size w1 w3) := ⟨⟨hg.os.trans HL2.out.os, hg.tape.trans HL2.out.tape, hg.output.trans HL2.out.output, Nat.le_trans HL2.out.size hg.size, fun k_ hk_ => (hg.block k_ (Nat.lt_of_lt_of_le hk_ HL2.out.size) (hne3 k_ hk_)).trans (HL2.out.block k_ hk_)⟩⟩
        have hS3 := cell_grown hg hHeld (hne3 bb (blk_ltp HV1.out))
        have HO3 := Aside0.mk ho
        have HB3 := Aside0.mk hb
        obtain ⟨A38, c38, e38⟩ := Kd.R_slice ho
        subst e38
        clear ho hb hg hat hne3
        refine hK.out _ _ hS3 (fun hHeld => ?_)
        clear hK K
        refine norm_ (a' := ?_) ?_ ?_
        rotate_left
        · show Act.put _ (some 38) _ = _
          simp only [Act.put, List.setIfInBounds_toArray, List.set_cons_zero, List.set_cons_succ, i64_w, i32_w]
          rfl
        refine one_ (i := 9) (N := some 39) #[true, true, true, true, true, true, true, true, true, true, false] rfl rfl (one_of HT_.out (by kernel_rfl)) (by decide) (fun K hK => ?_)
        refine Kd.R_append_rows_step (Kd.int .i64) (w0 := w0) w0.heap.size (by rfl) (.tmp 32) (.tmp 38) 59 3 (.int .i64 0) 8 rfl Try.underlying59 hinfo3 rfl (by decide) (by omega) _ (l.take j) ([n] ++ l.drop j) _ _ _ P (fun _ => False) rfl rfl ?aO ?aR (fun _ _ h => h) (fun _ h => h.elim) ?aF ?aB ?aS ?aL ?_
        (case aO => exact Kd.R_take (Kd.R_below HO1.out HL3.out) htl)
        (case aR => exact (Kd.R_reads' HO3.out).2.2)
        (case aF => exact (fun k_ hk_ => hP k_ (Nat.le_trans HK1.out.size (Nat.le_trans HL3.out.size hk_))))
        (case aB => exact HB3.out)
        (case aS => exact HB3.out.size)
        (case aL => simp only [List.length_append, List.length_drop, List.length_take, List.length_cons, List.length_nil]; omega)
        intro v39 w4 ho hb hg hat
        have hne4 : ∀ k_, ¬ P k_ → some k_ ≠ (Value.slice (some ad) j cc).ownBlock := fun k_ hk_ e_ => hk_ (HO1.out.1 _ ((own_slice (some ad) l.length j cc).trans e_.symm))
        have hS4 := cell_grown hg hHeld (hne4 bb hPb)
        have hV4 : w4.heap[bb]? = some (.cells #[.slice (some ad) l.length cc] 59 (0, 0)) := (hg.block _ (Nat.lt_of_lt_of_le (blk_ltp HV1.out) HL3.out.size) (hne4 bb hPb)).trans ((HL3.out.block _ (blk_ltp HV1.out)).trans HV1.out)
        have hf4 := blk_frozen hV4 0
        have HV4 := Aside0.mk hV4
        have HO4 := Aside0.mk ho
        have HB4 := Aside0.mk hb
        have HZ4 : Aside0 (wr.heap.size ≤ w4.heap.size) := ⟨Nat.le_trans HK1.out.size (Nat.le_trans HL3.out.size hg.size)⟩
        have HY4 : Aside0 (∀ k_, k_ < wr.heap.size → ¬ P k_ → w4.heap[k_]? = wr.heap[k_]?) := ⟨fun k_ hk_ hp_ => (hg.block k_ (Nat.lt_of_lt_of_le hk_ (Nat.le_trans HK1.out.size HL3.out.size)) (hne4 k_ hp_)).trans ((HL3.out.block _ (Nat.lt_of_lt_of_le hk_ HK1.out.size)).trans (HK1.out.block k_ hk_))⟩
        obtain ⟨A39, c39, e39⟩ := Kd.R_slice ho
        obtain ⟨ln39, hln39⟩ : ∃ x : Nat, (l.take j ++ ([n] ++ l.drop j)).length = x := ⟨_, rfl⟩
        rw [hln39] at e39
        subst e39
        clear ho hb hg hat hV4 hne4 hln39
        refine hK.out _ _ hS4 (fun hHeld => ?_)
        clear hK K
        refine norm_ (a' := ?_) ?_ ?_
        rotate_left
        · show Act.put _ (some 39) _ = _
          simp only [Act.put, List.setIfInBounds_toArray, List.set_cons_zero, List.set_cons_succ, i64_w, i32_w]
          rfl
        refine last_ (i := 10) (N := none) #[true, true, true, true, true, true, true, true, true, true, true] rfl rfl (one_of HT_.out (by kernel_rfl)) (by decide) (fun K hK => ?_)
        refine skip_ (w1 := ?_) (by rfl) rfl ?_ ?_
        rotate_left
        · go_simp
          rfl
        refine hK.out _ _ ?_
        clear hK K
        refine done_ (done_of HT_.out (by kernel_rfl)) ?_
        try go_wp2
        first | go_end0 | ((try simp only [Exit.inBlock, Exit.then]); refine bodyPost_ret (results_none rfl _ _ _) rfl ?_)
        refine ⟨rfl, _, by simpa using blk_set HV4.out 0 (.slice A39 ln39 c39), ?_, below_set HB4.out hbw, by simpa [World.setCell] using HZ4.out, ?_⟩
        · rw [HE.out]; exact Kd.R_far HO4.out (fun k_ hk_ e_ => hPb (by have : k_ = bb := e_; rw [← this]; exact hk_)) _
        · intro k_ hk_ hp_ hne_; rw [Below.heap_setCell _ _ _ _ (show k_ ≠ bb from hne_)]; exact HY4.out k_ hk_ hp_
    · have e1_ : decide ((j : Int) < (l.length : Int)) = false := decide_eq_false (by omega)
      have e3_ : ((j : Int) == (l.length : Int)) = true := beq_iff_eq.2 (by omega)
      have HE := Aside0.mk (HI.out.trans (if_neg (fun h => ht h.1)))
      go_upto_region 4 with (fail)
      have hcutT := cut_to (P := Try.prog) 59 3 .i64 Try.underlying59 hi3 A l.length cc (j : Int) (by omega) (by omega) HR.out.2.1
      have hcutF := cut_from (P := Try.prog) 59 3 .i64 Try.underlying59 hi3 1 hsz3 A l.length cc (j : Int) (by omega) (by omega)
      have hCF := Kd.C_drop (m := j) (c := cc) HR.out.2.2 htl HR.out.2.1
      rw [show (Kd.int .i64).sz = 1 from rfl] at hCF
      rw [Int.toNat_natCast] at hcutT
      rw [Int.toNat_natCast] at hcutF
      rw [List.length_drop] at hCF
      have HCF := Aside0.mk hCF
      generalize (if cc = j then A else A.map (·.add (j * 1))) = A2 at hcutF HCF
      clear hCF
      refine start_ (n := 11) (S := fun w'' => w''.cell? ⟨bb, 0, none⟩ = some (.slice A l.length cc)) (ds := [10]) #[false, false, false, false, false, false, false, false, false, false, false] (by kernel_rfl) rfl rfl hk (fun hHeld => ?_); refine with_tabW put_tab put_bits (fun HT_ HW_ => ?_)
      have HB1 := Aside0.mk (below_drew1 HB.out)
      have HO1 := Aside0.mk (Kd.R_drew HO.out)
      have HF1 := Aside0.mk (show Kd.C (Kd.int .i64) wr.drew A2 (l.length - j) (l.drop j) from Kd.C_below HCF.out (below_drew1 (Below.refl _ _)))
      have HK1 := Aside0.mk (below_drew1 (Below.refl wr.heap.size wr))
      have HV1 := Aside0.mk (show wr.drew.heap[bb]? = some (.cells #[.slice A l.length cc] 59 (0, 0)) from HBB.out)
      generalize wr.drew = w1 at HB1 HO1 HF1 HK1 HV1 hHeld ⊢
      refine pure_ (i := 1) (N := some 31) (v := ?_) (a' := ?_) #[false, true, false, false, false, false, false, false, false, false, false] rfl rfl (any_of HT_.out (by kernel_rfl)) (fun _ _ _ h => h) (Or.inl ⟨by rfl, ?_⟩) ?_ ?_
      rotate_left
      · intro w''
        go_simp
        with_reducible rfl
      rotate_left
      · simp only [Act.put, List.setIfInBounds_toArray, List.set_cons_zero, List.set_cons_succ, i64_w, i32_w]
        rfl
      refine pure_ (i := 3) (N := some 33) (v := ?_) (a' := ?_) #[false, true, false, true, false, false, false, false, false, false, false] rfl rfl (any_of HT_.out (by kernel_rfl)) (fun _ _ _ h => h) (Or.inl ⟨by rfl, ?_⟩) ?_ ?_
      rotate_left
      · intro w''
        go_simp
        with_reducible rfl
      rotate_left
      · simp only [Act.put, List.setIfInBounds_toArray, List.set_cons_zero, List.set_cons_succ, i64_w, i32_w]
        rfl
      refine pure_ (i := 6) (N := some 36) (v := ?_) (a' := ?_) #[false, true, false, true, false, false, true, false, false, false, false] rfl rfl (any_of HT_.out (by kernel_rfl)) (fun _ _ _ h => h) (Or.inl ⟨by rfl, ?_⟩) ?_ ?_
      rotate_left
      · intro w''
        go_simp
        with_reducible rfl
      rotate_left
      · simp only [Act.put, List.setIfInBounds_toArray, List.set_cons_zero, List.set_cons_succ, i64_w, i32_w]
        rfl
      refine take_ (i := 0) (N := some 30) (v := ?_) (a' := ?_) #[true, true, false, true, false, false, true, false, false, false, false] rfl rfl (take_ofW HT_.out HW_.out (by kernel_rfl)) (fun _ _ _ h => h) (Or.inl ⟨by rfl, ?_⟩) hHeld ?_ ?_
      rotate_left
      · intro w'' s0
        go_simp
        with_reducible rfl
      rotate_left
      · simp only [Act.put, List.setIfInBounds_toArray, List.set_cons_zero, List.set_cons_succ, i64_w, i32_w]
        rfl
      refine take_ (i := 5) (N := some 35) (v := ?_) (a' := ?_) #[true, true, false, true, false, true, true, false, false, false, false] rfl rfl (take_ofW HT_.out HW_.out (by kernel_rfl)) (fun _ _ _ h => h) (Or.inl ⟨by rfl, ?_⟩) hHeld ?_ ?_
      rotate_left
      · intro w'' s0
        go_simp
        with_reducible rfl
      rotate_left
      · simp only [Act.put, List.setIfInBounds_toArray, List.set_cons_zero, List.set_cons_succ, i64_w, i32_w]
        rfl
      refine pure_ (i := 2) (N := some 32) (v := ?_) (a' := ?_) #[true, true, true, true, false, true, true, false, false, false, false] rfl rfl (any_of HT_.out (by kernel_rfl)) (fun _ _ _ h => h) (Or.inl ⟨by rfl, ?_⟩) ?_ ?_
      rotate_left
      · intro w''
        go_simp
        with_reducible rfl
      rotate_left
      · simp only [Act.put, List.setIfInBounds_toArray, List.set_cons_zero, List.set_cons_succ, i64_w, i32_w]
        rfl
      refine pure_ (i := 7) (N := some 37) (v := ?_) (a' := ?_) #[true, true, true, true, false, true, true, true, false, false, false] rfl rfl (any_of HT_.out (by kernel_rfl)) (fun _ _ _ h => h) (Or.inl ⟨by rfl, ?_⟩) ?_ ?_
      rotate_left
      · intro w''
        go_simp
        with_reducible rfl
      rotate_left
      · simp only [Act.put, List.setIfInBounds_toArray, List.set_cons_zero, List.set_cons_succ, i64_w, i32_w]
        rfl
      refine one_ (i := 4) (N := some 34) #[true, true, true, true, true, true, true, true, false, false, false] rfl rfl (one_of HT_.out (by kernel_rfl)) (by decide) (fun K hK => ?_)
      refine Kd.R_lit_step (Kd.int .i64) (w0 := w0) w0.heap.size 3 (by rfl) (N := 34) rfl (xs := [n]) (inner := [.int .i64 n]) (ok := P) (okp := fun _ => False) ?hr (Reps.one (show Kd.M (Kd.int .i64) _ _ _ n [.int .i64 n] from rfl) (Reps.none _ _)) (fun _ h => h.elim) (hP _ HK1.out.size) HB1.out HB1.out.size (by simp) ?_
      (case hr => first | (go_simp; done) | (go_simp; rfl))
      intro v34 w2 ho hb hg hnew
      obtain ⟨b34, hown34, hb34⟩ := hnew
      have HL2 : Aside0 (Below w1.heap.size w1 w2) := ⟨⟨hg.os, hg.tape, hg.output, hg.size, fun k_ hk_ => hg.block k_ hk_ (by simp)⟩⟩
      have hS2 := cell_grown hg hHeld (by simp)
      have HO2 := Aside0.mk ho
      have HB2 := Aside0.mk hb
      have HN2 := Aside0.mk hb34
      obtain ⟨A34, c34, e34⟩ := Kd.R_slice ho
      subst e34
      have HW2 := Aside0.mk hown34
      clear ho hb hg hb34 hown34
      refine hK.out _ _ hS2 (fun hHeld => ?_)
      clear hK K
      refine norm_ (a' := ?_) ?_ ?_
      rotate_left
      · show Act.put _ (some 34) _ = _
        simp only [Act.put, List.setIfInBounds_toArray, List.set_cons_zero, List.set_cons_succ, i64_w, i32_w]
        rfl
      refine one_ (i := 8) (N := some 38) #[true, true, true, true, true, true, true, true, true, false, false] rfl rfl (one_of HT_.out (by kernel_rfl)) (by decide) (fun K hK => ?_)
      refine Kd.R_append_rows_step (Kd.int .i64) (w0 := w0) w0.heap.size (by rfl) (.tmp 34) (.tmp 37) 59 3 (.int .i64 0) 8 rfl Try.underlying59 hinfo3 rfl (by decide) (by omega) _ [n] (l.drop j) _ _ _ P (fun _ => False) rfl rfl ?aO ?aR (fun _ _ h => h) (fun _ h => h.elim) ?aF ?aB ?aS ?aL ?_
      (case aO => exact HO2.out)
      (case aR => exact Kd.C_below HF1.out HL2.out)
      (case aF => exact (fun k_ hk_ => hP k_ (Nat.le_trans HK1.out.size (Nat.le_trans HL2.out.size hk_))))
      (case aB => exact HB2.out)
      (case aS => exact HB2.out.size)
      (case aL => simp only [List.length_cons, List.length_nil]; omega)
      intro v38 w3 ho hb hg hat
      have hne3 : ∀ k_, k_ < w1.heap.size → some k_ ≠ (Value.slice A34 ([n] : List Int).length c34).ownBlock := fun k_ hk_ e_ => by have h1_ := HW2.out; have h2_ := HN2.out; rw [h1_] at e_; injection e_ with e_; omega
      have HL3 : Aside0 (Below w1.heap.size w1 w3) := ⟨⟨hg.os.trans HL2.out.os, hg.tape.trans HL2.out.tape, hg.output.trans HL2.out.output, Nat.le_trans HL2.out.size hg.size, fun k_ hk_ => (hg.block k_ (Nat.lt_of_lt_of_le hk_ HL2.out.size) (hne3 k_ hk_)).trans (HL2.out.block k_ hk_)⟩⟩
      have hS3 := cell_grown hg hHeld (hne3 bb (blk_ltp HV1.out))
      have HO3 := Aside0.mk ho
      have HB3 := Aside0.mk hb
      obtain ⟨A38, c38, e38⟩ := Kd.R_slice ho
      subst e38
      clear ho hb hg hat hne3
      refine hK.out _ _ hS3 (fun hHeld => ?_)
      clear hK K
      refine norm_ (a' := ?_) ?_ ?_
      rotate_left
      · show Act.put _ (some 38) _ = _
        simp only [Act.put, List.setIfInBounds_toArray, List.set_cons_zero, List.set_cons_succ, i64_w, i32_w]
        rfl
      refine one_ (i := 9) (N := some 39) #[true, true, true, true, true, true, true, true, true, true, false] rfl rfl (one_of HT_.out (by kernel_rfl)) (by decide) (fun K hK => ?_)
      refine Kd.R_append_rows_step (Kd.int .i64) (w0 := w0) w0.heap.size (by rfl) (.tmp 32) (.tmp 38) 59 3 (.int .i64 0) 8 rfl Try.underlying59 hinfo3 rfl (by decide) (by omega) _ (l.take j) ([n] ++ l.drop j) _ _ _ P (fun _ => False) rfl rfl ?aO ?aR (fun _ _ h => h) (fun _ h => h.elim) ?aF ?aB ?aS ?aL ?_
      (case aO => exact Kd.R_take (Kd.R_below HO1.out HL3.out) htl)
      (case aR => exact (Kd.R_reads' HO3.out).2.2)
      (case aF => exact (fun k_ hk_ => hP k_ (Nat.le_trans HK1.out.size (Nat.le_trans HL3.out.size hk_))))
      (case aB => exact HB3.out)
      (case aS => exact HB3.out.size)
      (case aL => simp only [List.length_append, List.length_drop, List.length_take, List.length_cons, List.length_nil]; omega)
      intro v39 w4 ho hb hg hat
      have hne4 : ∀ k_, ¬ P k_ → some k_ ≠ (Value.slice A j cc).ownBlock := fun k_ hk_ e_ => hk_ (HO1.out.1 _ ((own_slice A l.length j cc).trans e_.symm))
      have hS4 := cell_grown hg hHeld (hne4 bb hPb)
      have hV4 : w4.heap[bb]? = some (.cells #[.slice A l.length cc] 59 (0, 0)) := (hg.block _ (Nat.lt_of_lt_of_le (blk_ltp HV1.out) HL3.out.size) (hne4 bb hPb)).trans ((HL3.out.block _ (blk_ltp HV1.out)).trans HV1.out)
      have hf4 := blk_frozen hV4 0
      have HV4 := Aside0.mk hV4
      have HO4 := Aside0.mk ho
      have HB4 := Aside0.mk hb
      have HZ4 : Aside0 (wr.heap.size ≤ w4.heap.size) := ⟨Nat.le_trans HK1.out.size (Nat.le_trans HL3.out.size hg.size)⟩
      have HY4 : Aside0 (∀ k_, k_ < wr.heap.size → ¬ P k_ → w4.heap[k_]? = wr.heap[k_]?) := ⟨fun k_ hk_ hp_ => (hg.block k_ (Nat.lt_of_lt_of_le hk_ (Nat.le_trans HK1.out.size HL3.out.size)) (hne4 k_ hp_)).trans ((HL3.out.block _ (Nat.lt_of_lt_of_le hk_ HK1.out.size)).trans (HK1.out.block k_ hk_))⟩
      obtain ⟨A39, c39, e39⟩ := Kd.R_slice ho
      obtain ⟨ln39, hln39⟩ : ∃ x : Nat, (l.take j ++ ([n] ++ l.drop j)).length = x := ⟨_, rfl⟩
      rw [hln39] at e39
      subst e39
      clear ho hb hg hat hV4 hne4 hln39
      refine hK.out _ _ hS4 (fun hHeld => ?_)
      clear hK K
      refine norm_ (a' := ?_) ?_ ?_
      rotate_left
      · show Act.put _ (some 39) _ = _
        simp only [Act.put, List.setIfInBounds_toArray, List.set_cons_zero, List.set_cons_succ, i64_w, i32_w]
        rfl
      refine last_ (i := 10) (N := none) #[true, true, true, true, true, true, true, true, true, true, true] rfl rfl (one_of HT_.out (by kernel_rfl)) (by decide) (fun K hK => ?_)
      refine skip_ (w1 := ?_) (by rfl) rfl ?_ ?_
      rotate_left
      · go_simp
        rfl
      refine hK.out _ _ ?_
      clear hK K
      refine done_ (done_of HT_.out (by kernel_rfl)) ?_
      try go_wp2
      first | go_end0 | ((try simp only [Exit.inBlock, Exit.then]); refine bodyPost_ret (results_none rfl _ _ _) rfl ?_)
      refine ⟨rfl, _, by simpa using blk_set HV4.out 0 (.slice A39 ln39 c39), ?_, below_set HB4.out hbw, by simpa [World.setCell] using HZ4.out, ?_⟩
      · rw [HE.out]; exact Kd.R_far HO4.out (fun k_ hk_ e_ => hPb (by have : k_ = bb := e_; rw [← this]; exact hk_)) _
      · intro k_ hk_ hp_ hne_; rw [Below.heap_setCell _ _ _ _ (show k_ ≠ bb from hne_)]; exact HY4.out k_ hk_ hp_
def placesOf (a0 : Int) (l : List S54) : List Int := l.foldl (fun p x => ins x.f1 (ins x.f0 p)) (ins a0 (ins 0 []))
theorem ins_pos (n : Int) (l : List Int) : 0 < (ins n l).length := by
  unfold ins
  split
  · omega
  · simp
    omega
theorem places_snoc (a0 : Int) (l : List S54) (x : S54) : placesOf a0 (l ++ [x]) = ins x.f1 (ins x.f0 (placesOf a0 l)) := by simp [placesOf]
theorem foldl_le (l : List S54) (p : List Int) : (l.foldl (fun p x => ins x.f1 (ins x.f0 p)) p).length ≤ p.length + 2 * l.length := by
  induction l generalizing p with
  | nil => simp
  | cons x t ih =>
    have h1 := ih (ins x.f1 (ins x.f0 p))
    have h2 := ins_length x.f1 (ins x.f0 p)
    have h3 := ins_length x.f0 p
    simp only [List.foldl_cons, List.length_cons]
    omega
theorem places_le (a0 : Int) (l : List S54) : (placesOf a0 l).length ≤ 2 + 2 * l.length := by
  have h1 := foldl_le l (ins a0 (ins 0 []))
  have h2 := ins_length a0 (ins 0 [])
  have h3 := ins_length 0 []
  simp at h3
  unfold placesOf
  omega
theorem foldl_pos (l : List S54) (p : List Int) (h : 0 < p.length) : 0 < (l.foldl (fun p x => ins x.f1 (ins x.f0 p)) p).length := by
  induction l generalizing p with
  | nil => simpa using h
  | cons x t ih => exact ih _ (ins_pos _ _)
theorem places_pos (a0 : Int) (l : List S54) : 0 < (placesOf a0 l).length := foldl_pos _ _ (ins_pos _ _)
def cameB (a0 : Int) (l : List S54) (n : Int) : Bool := decide (n < a0) || l.any (fun r => decide (r.f0 ≤ n) && decide (n < r.f1))
theorem came_l0 (l : List S54) (n : Int) (hl : l.length < 1000) : ∀ d k (i : Nat), l.length - i = d → i ≤ l.length → d < k → packthreadref_came.l0 k n l (l.length : Int) (i : Int) = some ((l.drop i).any (fun r => decide (r.f0 ≤ n) && decide (n < r.f1))) := by
  intro d
  induction d with
  | zero =>
    intro k i hd hi hk
    obtain ⟨k, rfl⟩ : ∃ m, k = m + 1 := ⟨k - 1, by omega⟩
    rw [packthreadref_came.l0, if_neg (by omega), List.drop_eq_nil_of_le (by omega)]
    rfl
  | succ d ih =>
    intro k i hd hi hk
    obtain ⟨k, rfl⟩ : ∃ m, k = m + 1 := ⟨k - 1, by omega⟩
    have hlt : i < l.length := by omega
    have hw : wrap64 ((i : Int) + 1) = ((i + 1 : Nat) : Int) := by unfold wrap64; omega
    have hr : rd_T54 l (i : Int) = l[i] := by unfold rd_T54; rw [Int.toNat_natCast, List.getD_eq_getElem?_getD, List.getElem?_eq_getElem hlt]; rfl
    have h := ih k (i + 1) (by omega) (by omega) (by omega)
    push_cast at h hw
    rw [packthreadref_came.l0, List.drop_eq_getElem_cons hlt, List.any_cons, ← hr]
    generalize rd_T54 l (i : Int) = x
    by_cases h1 : x.f0 ≤ n <;> by_cases h2 : n < x.f1 <;> simp [h1, h2, hlt, hw, h] <;> first | done | (try omega)
theorem came_is (a0 : Int) (l : List S54) (n : Int) (hl : l.length < 1000) : packthreadref_came.f 1001 a0 l n = some (cameB a0 l n) := by
  unfold packthreadref_came.f cameB
  by_cases h : n < a0
  · rw [if_pos h]; simp [h]
  · rw [if_neg h]
    have h0 := came_l0 l n hl l.length 1001 0 (by omega) (by omega) (by omega)
    rw [show ((0 : Nat) : Int) = 0 from rfl] at h0
    rw [h0]
    simp [h]
def outNext (c : Bool) (p q : Int) (o : List S54) : List S54 := if c = true then (if 0 < o.length ∧ (rd_T54 o ((o.length - 1 : Nat) : Int)).f1 = p then o.set (o.length - 1) ⟨(rd_T54 o ((o.length - 1 : Nat) : Int)).f0, q⟩ else o ++ [⟨p, q⟩]) else o
theorem outNext_no (p q : Int) (o : List S54) : outNext false p q o = o := by simp [outNext]
theorem wrap_small (i : Nat) (h : i < 1000000) : wrap64 ((i : Int) + 1) = ((i + 1 : Nat) : Int) := by unfold wrap64; push_cast; omega
theorem wrap_pred (m : Nat) (h : m < 1000000) : wrap64 (((m + 1 : Nat) : Int) - 1) = (m : Int) := by unfold wrap64; omega
theorem meas2 {i i1 n : Nat} (h : i + 1 = i1) (h1 : i1 < n) : n - (intOf (.int .i64 (i1 : Int))).toNat < n - (intOf (.int .i64 (i : Int))).toNat := by simp only [intOf]; omega
theorem outNext_new (p q : Int) (o : List S54) (h : ¬ (0 < o.length ∧ (rd_T54 o ((o.length - 1 : Nat) : Int)).f1 = p)) : outNext true p q o = o ++ [⟨p, q⟩] := by simp [outNext, h]
theorem outNext_old (p q : Int) (o : List S54) (m : Nat) (hm : o.length = m + 1) (h : (rd_T54 o (m : Int)).f1 = p) : outNext true p q o = o.set m ⟨(rd_T54 o (m : Int)).f0, q⟩ := by
  unfold outNext
  have e : o.length - 1 = m := by omega
  rw [if_pos rfl, e, if_pos ⟨by omega, h⟩]
def outs (a0 : Int) (all : List S54) (P : List Int) : Nat → List S54
  | 0 => []
  | i + 1 => outNext (cameB a0 all (rd P (i : Int))) (rd P (i : Int)) (rd P ((i + 1 : Nat) : Int)) (outs a0 all P i)
theorem outs_le (a0 : Int) (all : List S54) (P : List Int) : ∀ i, (outs a0 all P i).length ≤ i
  | 0 => by simp [outs]
  | i + 1 => by
    have := outs_le a0 all P i
    unfold outs outNext
    split
    · split
      · simp; omega
      · simp; omega
    · omega
def holeLast (o : List S54) : Int × List S54 := if 0 < o.length ∧ (rd_T54 o 0).f0 = 0 then ((rd_T54 o 0).f1, o.drop 1) else (0, o)
def packthreadref_HoleAdd.f (k : Nat) (a0 : Int) (l1 : List S54) (r0 r1 : Int) : Option (Int × List S54 × Int) := (packthreadref_HoleMay.f k a0 l1).bind fun m =>
  if m = true then
    (if r0 < 0 ∨ r1 < r0 ∨ 1048576 < r1 then some (0, [], 2) else
      (if 16 < (holeLast (outs a0 (l1 ++ [⟨r0, r1⟩]) (placesOf a0 (l1 ++ [⟨r0, r1⟩])) ((placesOf a0 (l1 ++ [⟨r0, r1⟩])).length - 1))).2.length then some (0, [], 9)
       else some ((holeLast (outs a0 (l1 ++ [⟨r0, r1⟩]) (placesOf a0 (l1 ++ [⟨r0, r1⟩])) ((placesOf a0 (l1 ++ [⟨r0, r1⟩])).length - 1))).1, (holeLast (outs a0 (l1 ++ [⟨r0, r1⟩]) (placesOf a0 (l1 ++ [⟨r0, r1⟩])) ((placesOf a0 (l1 ++ [⟨r0, r1⟩])).length - 1))).2, 0)))
  else some (0, [], 4)
theorem holeMay_le {k : Nat} {a0 : Int} {l : List S54} (h : packthreadref_HoleMay.f k a0 l = some true) : l.length ≤ 16 := by
  unfold packthreadref_HoleMay.f at h
  have hj : ∀ b, packthreadref_HoleMay.j0 k a0 l b = some true → b = false := by
    intro b hb
    cases b with
    | false => rfl
    | true =>
      cases k with
      | zero => simp [packthreadref_HoleMay.j0] at hb
      | succ k => simp [packthreadref_HoleMay.j0] at hb
  split at h
  · exact absurd (hj _ h) (by simp)
  · split at h
    · exact absurd (hj _ h) (by simp)
    · have := hj _ h
      simp at this
      omega
theorem put54 {W : World} {base : Nat} {ok : Nat → Prop} {g n cap : Nat} {o : List S54} {m : Nat} {lf lt : Int} (q : Int) (HO : k54.R 54 W base ok (.slice (some ⟨g, 0, none⟩) n cap) o) (hm : m < n) (h0 : W.cell? ⟨g, m * 2, none⟩ = some (.int .i64 lf)) (h1 : W.cell? ⟨g, m * 2 + 1, none⟩ = some (.int .i64 lt)) :
    k54.R 54 (W.setCell ⟨g, m * 2 + 1, none⟩ (.int .i64 q)) base ok (.slice (some ⟨g, 0, none⟩) n cap) (o.set m ⟨lf, q⟩) ∧ W.frozen? ⟨g, m * 2 + 1, none⟩ = false ∧ base ≤ g := by
  refine ⟨?_, ?_, Kd.R_base HO g (by simp [Value.ownBlock])⟩
  · have h := (Kd.R_seg (d := k54) HO (m : Int) (by omega) (by omega) (c := [.int .i64 lf, .int .i64 lt]) (seg := [.int .i64 q]) (j := 1) rfl (by
      intro j u hj
      rw [Int.toNat_natCast]
      match j, hj with
      | 0, hj => simp at hj; subst hj; exact h0
      | 1, hj => simp at hj; subst hj; exact h1
      | j + 2, hj => simp at hj) (Nat.le_refl 2) (x' := ⟨lf, q⟩) (okp := fun _ => False) (k54_mkM _ _ _ ⟨lf, q⟩) (fun _ h => h.elim)).1
    rw [Int.toNat_natCast] at h
    exact h
  · obtain ⟨_, _, _, _, h⟩ := Kd.R_elem (d := k54) HO z54 (m : Int) (by omega) (by omega)
    have h := h 1
    rw [Int.toNat_natCast] at h
    exact h
theorem hinfo3s : (Try.prog.info? 3).map (·.size) = some 1 := by kernel_rfl
theorem K54_M {w : World} {base : Nat} {ok : Nat → Prop} : ∀ (x : S54) cs, k54.K w x cs → k54.M w base ok x cs := fun x cs h => by rw [k54_open h]; exact k54_mkM _ _ _ _
def hadd.T5 : Bool × List (List Nat × List Nat) := (true, [([], []), ([0], [0]), ([], []), ([2], [2]), ([1, 3, 1], [1, 3]), ([4, 4, 0, 1, 2, 3, 4], [4])])
def hadd.B5 : List Nat := [0, 1, 0, 4, 15, 31]
theorem hadd.tab5 : rtab .any (opsOf Try.f31 5) = hadd.T5 := by kernel_rfl
theorem hadd.bits5 : waitsOk hadd.T5.2 hadd.B5 = true := by kernel_rfl
def hadd.T22 : Bool × List (List Nat × List Nat) := (true, [([], []), ([0], [0]), ([1], [1]), ([2], [2]), ([2], [2]), ([4, 2], [2, 4]), ([3, 5, 2], [2, 3, 5]), ([6, 2], [2, 6]), ([7, 2], [2, 7]), ([2], [2]), ([2], [2]), ([9, 10, 2], [2, 9, 10]), ([11, 2], [2, 11]), ([8, 12, 2], [2, 8, 12]), ([2, 13], [2, 13])])
def hadd.B22 : List Nat := [0, 1, 3, 7, 7, 23, 63, 127, 255, 7, 7, 1543, 3591, 8191, 16383]
theorem hadd.tab22 : rtab .any (opsOf Try.f31 22) = hadd.T22 := by kernel_rfl
theorem hadd.bits22 : waitsOk hadd.T22.2 hadd.B22 = true := by kernel_rfl
def hadd.T24 : Bool × List (List Nat × List Nat) := (true, [([], []), ([], []), ([], []), ([1, 2], [1, 2]), ([3], [3]), ([], []), ([], []), ([6], [6]), ([5, 7], [5, 7]), ([8], [8]), ([4, 9], [4, 9]), ([10], [10]), ([0, 11], [0, 11]), ([12, 12, 0, 1, 2, 3, 4, 5, 6, 7, 8, 9, 10, 11, 12], [0, 12])])
def hadd.B24 : List Nat := [0, 0, 0, 6, 14, 0, 0, 64, 224, 480, 1022, 2046, 4095, 8191]
theorem hadd.tab24 : rtab .any (opsOf Try.f31 24) = hadd.T24 := by kernel_rfl
theorem hadd.bits24 : waitsOk hadd.T24.2 hadd.B24 = true := by kernel_rfl
def HPost (w : World) (n : Int) (o : List S54) (er : Int) (e : Ending) (w' : World) : Prop := ∃ A c, e = .returned (.tuple #[.int .i64 n, .slice A o.length c, .int .i64 er]) ∧ o.length ≤ c ∧ Kd.C k54 w' A o.length o ∧ Below w.heap.size w w'
theorem HPost.mk {w : World} {n : Int} {o : List S54} {er : Int} {w' : World} (A : Option Addr) (c : Nat) (h1 : o.length ≤ c) (h2 : Kd.C k54 w' A o.length o) (h3 : Below w.heap.size w w') : HPost w n o er (.returned (.tuple #[.int .i64 n, .slice A o.length c, .int .i64 er])) w' := ⟨A, c, rfl, h1, h2, h3⟩
set_option maxHeartbeats 40000000 in
set_option maxRecDepth 100000 in
theorem packthreadref_HoleAdd.calls (k : Nat) (a0 : Int) (A1 : Option Addr) (c1 : Nat) (l1 : List S54) (r0 r1 : Int) (n : Int) (o : List S54) (er : Int) (w : World) (hr1 : Kd.C k54 w A1 l1.length l1) (hc1 : l1.length ≤ c1) (h : packthreadref_HoleAdd.f k a0 l1 r0 r1 = some (n, o, er)) :
    Calls Try.prog 31 #[.int .i64 a0, .slice A1 l1.length c1, .agg #[.int .i64 r0, .int .i64 r1]] w (HPost w n o er) := by
  have HR1 := Aside0.mk hr1
  have HC1 := Aside0.mk hc1
  clear hr1 hc1
  obtain ⟨m, hm, hh⟩ := Option.bind_eq_some_iff.1 h
  clear h
  have HM := Aside0.mk hm
  have HH := Aside0.mk hh
  clear hm hh
  cases m with
  | false =>
    have hHH := HH.out
    rw [if_neg (by simp)] at hHH
    simp only [Option.some.injEq, Prod.mk.injEq] at hHH
    obtain ⟨rfl, rfl, rfl⟩ := hHH
    go_enter Try.func31, Try.ntmps31
    go_wp2_with (first | ((with_reducible refine gate_callee (f := 66) rfl ?_); refine goesL_ (some 20) rfl rfl Try.func66 (by kernel_rfl) rfl #[.int .i64 a0, .slice A1 l1.length c1] rfl (by (try simp only [List.map_toArray, List.map_cons, List.map_nil]); first | done | rfl) ?_; refine (packthreadref_HoleMay.calls k a0 A1 c1 l1 _ _ (Kd.C_alloc HR1.out _) HC1.out HM.out).mono ?_; rintro e' w2 ⟨rfl, hb2⟩; refine ⟨_, rfl, ?_⟩; have HB2 := Aside0.mk (below_step (below_alloc (Below.refl _ _) _) hb2); clear hb2))
    first | go_ret3 | skip
    exact HPost.mk (o := []) none 0 (Nat.le_refl _) ⟨rfl, by simp, fun h => absurd h (Nat.lt_irrefl 0)⟩ HB2.out
  | true =>
    have hl16 := holeMay_le HM.out
    obtain ⟨bad, hbad⟩ : ∃ b : Bool, decide (r0 < 0 ∨ r1 < r0 ∨ 1048576 < r1) = b := ⟨_, rfl⟩
    cases bad with
    | true =>
      have hHH := HH.out
      rw [if_pos rfl, if_pos (of_decide_eq_true hbad)] at hHH
      simp only [Option.some.injEq, Prod.mk.injEq] at hHH
      obtain ⟨rfl, rfl, rfl⟩ := hHH
      have hz : ∃ s0 s1 s2 : Bool, decide (r0 < 0) = s0 ∧ decide (r1 < r0) = s1 ∧ decide (1048576 < r1) = s2 ∧ (s0 || s1 || s2) = true := ⟨_, _, _, rfl, rfl, rfl, by simpa [or_assoc] using hbad⟩
      clear hbad
      obtain ⟨s0, s1, s2, e0_, e1_, e2_, hs⟩ := hz
      go_enter Try.func31, Try.ntmps31
      go_upto_region 1 with (fail)
      obtain ⟨W1, hW1⟩ : ∃ W, w.alloc (Obj.cells #[.int .i64 r0, .int .i64 r1] 54) = W := ⟨_, rfl⟩
      rw [hW1]
      have HB1 : Aside0 (Below w.heap.size w W1) := ⟨by rw [← hW1]; exact below_alloc (Below.refl _ _) _⟩
      have HV1 : Aside0 (W1.heap[w.heap.size]? = some (.cells #[.int .i64 r0, .int .i64 r1] 54 (0, 0))) := ⟨by rw [← hW1]; exact heap_alloc_new w _⟩
      clear hW1
      go_upto_region 3 with (first | ((with_reducible refine gate_callee (f := 66) rfl ?_); refine goesL_ (some 20) rfl rfl Try.func66 (by kernel_rfl) rfl #[.int .i64 a0, .slice A1 l1.length c1] rfl (by (try simp only [List.map_toArray, List.map_cons, List.map_nil]); first | done | rfl) ?_; refine (packthreadref_HoleMay.calls k a0 A1 c1 l1 _ _ (Kd.C_below HR1.out HB1.out) HC1.out HM.out).mono ?_; rintro e' w2 ⟨rfl, hb2⟩; refine ⟨_, rfl, ?_⟩; have HB2 := Aside0.mk (below_step HB1.out hb2); have HV2 := Aside0.mk (blk_below HV1.out hb2); clear hb2))
      have hk0 : w2.cell? ⟨w.heap.size, 0, none⟩ = some (.int .i64 r0) := (blk_cell HV2.out 0).trans rfl
      have hk1 : w2.cell? ⟨w.heap.size, 1, none⟩ = some (.int .i64 r1) := (blk_cell HV2.out 1).trans rfl
      cases s0 <;> cases s1 <;> cases s2 <;> first | (exact absurd hs (by decide)) | skip
      all_goals
        clear hs
        go_wp2
        first | go_ret3 | skip
        exact HPost.mk (o := []) none 0 (Nat.le_refl _) ⟨rfl, by simp, fun h => absurd h (Nat.lt_irrefl 0)⟩ HB2.out
    | false =>
      have hz := of_decide_eq_false hbad
      have hHH := HH.out
      rw [if_pos rfl, if_neg hz] at hHH
      clear HH
      have HH := Aside0.mk hHH
      clear hHH
      have d0_ : decide (r0 < 0) = false := decide_eq_false (fun h => hz (.inl h))
      have d1_ : decide (r1 < r0) = false := decide_eq_false (fun h => hz (.inr (.inl h)))
      have d2_ : decide (1048576 < r1) = false := decide_eq_false (fun h => hz (.inr (.inr h)))
      clear hbad hz
      go_enter Try.func31, Try.ntmps31
      go_upto_region 1 with (fail)
      obtain ⟨W1, hW1⟩ : ∃ W, w.alloc (Obj.cells #[.int .i64 r0, .int .i64 r1] 54) = W := ⟨_, rfl⟩
      rw [hW1]
      have HB1 : Aside0 (Below w.heap.size w W1) := ⟨by rw [← hW1]; exact below_alloc (Below.refl _ _) _⟩
      have HV1 : Aside0 (W1.heap[w.heap.size]? = some (.cells #[.int .i64 r0, .int .i64 r1] 54 (0, 0))) := ⟨by rw [← hW1]; exact heap_alloc_new w _⟩
      clear hW1
      go_upto_region 3 with (first | ((with_reducible refine gate_callee (f := 66) rfl ?_); refine goesL_ (some 20) rfl rfl Try.func66 (by kernel_rfl) rfl #[.int .i64 a0, .slice A1 l1.length c1] rfl (by (try simp only [List.map_toArray, List.map_cons, List.map_nil]); first | done | rfl) ?_; refine (packthreadref_HoleMay.calls k a0 A1 c1 l1 _ _ (Kd.C_below HR1.out HB1.out) HC1.out HM.out).mono ?_; rintro e' w2 ⟨rfl, hb2⟩; refine ⟨_, rfl, ?_⟩; have HB2 := Aside0.mk (below_step HB1.out hb2); have HV2 := Aside0.mk (blk_below HV1.out hb2); clear hb2))
      have hk0 : w2.cell? ⟨w.heap.size, 0, none⟩ = some (.int .i64 r0) := (blk_cell HV2.out 0).trans rfl
      have hk1 : w2.cell? ⟨w.heap.size, 1, none⟩ = some (.int .i64 r1) := (blk_cell HV2.out 1).trans rfl
      go_upto_region 5 with (fail)
      refine start_ (n := 6) (S := fun w' => w'.cell? ⟨w.heap.size, 0, none⟩ = some (.int .i64 r0) ∧ w'.cell? ⟨w.heap.size, 1, none⟩ = some (.int .i64 r1)) (ds := []) #[false, false, false, false, false, false] (by kernel_rfl) rfl rfl ⟨hk0, hk1⟩ (fun hHeld => ?_)
      refine with_tabW hadd.tab5 hadd.bits5 (fun HT_ HW_ => ?_)
      have HB3 := Aside0.mk (below_drew1 HB2.out)
      have HV3 : Aside0 (w2.drew.heap[w.heap.size]? = some (.cells #[.int .i64 r0, .int .i64 r1] 54 (0, 0))) := ⟨HV2.out⟩
      generalize w2.drew = w3 at HB3 HV3 hHeld ⊢
      refine pure_ (i := 0) (N := some 37) (v := ?_) (a' := ?_) #[true, false, false, false, false, false] rfl rfl (any_of HT_.out (by kernel_rfl)) (fun _ _ _ h => h) (Or.inl ⟨by rfl, ?_⟩) ?_ ?_
      rotate_left
      · intro w'
        go_simp
        with_reducible rfl
      rotate_left
      · simp only [Act.put, List.setIfInBounds_toArray, List.set_cons_zero, List.set_cons_succ, i64_w, i32_w]
        rfl
      refine take_ (i := 2) (N := some 39) (v := ?_) (a' := ?_) #[true, false, true, false, false, false] rfl rfl (take_ofW HT_.out HW_.out (by kernel_rfl)) (fun _ _ _ h => h) (Or.inl ⟨by rfl, ?_⟩) hHeld ?_ ?_
      rotate_left
      · rintro w' ⟨s0, s1⟩
        go_simp
        with_reducible rfl
      rotate_left
      · simp only [Act.put, List.setIfInBounds_toArray, List.set_cons_zero, List.set_cons_succ, i64_w, i32_w]
        rfl
      refine join_ (σ := Value × Value) 2 #[true, true, true, true, false, false] (fun s => [(38, s.1), (40, s.2)]) (fun s w' => Kd.R k54 54 w' w.heap.size (fun _ => True) s.1 l1 ∧ Kd.R k54 54 w' w.heap.size (fun _ => True) s.2 [⟨r0, r1⟩] ∧ some w.heap.size ≠ s.1.ownBlock ∧ Below w.heap.size w w' ∧ w'.heap[w.heap.size]? = some (.cells #[.int .i64 r0, .int .i64 r1] 54 (0, 0))) ?_ ?_
      rotate_left
      · intro hCont
        refine two_ (i := 1) (j := 3) (Ni := some 38) (Nj := some 40) #[true, true, true, false, false, false] #[true, false, true, true, false, false] rfl rfl rfl rfl (two_of HT_.out (by kernel_rfl)) (by decide) (by decide) (fun K hK => ?_) (fun K hK => ?_)
        · skip
          refine Kd.R_append_rows_step k54 (w0 := w) w.heap.size (by rfl) (.const (.slice none 0 0)) (.tmp 37) 46 54 (.agg #[.int .i64 0, .int .i64 0]) 16 rfl Try.underlying46 info54 rfl (by decide) (by omega) _ [] l1 _ _ _ (fun _ => True) (fun _ => False) rfl rfl ?aO1 ?aR1 K54_M (fun _ h => h.elim) (fun _ _ => trivial) HB3.out HB3.out.size ?aL1 ?_
          (case aO1 => exact Kd.R_nil _ _ _ _ _)
          (case aR1 => exact Kd.C_below HR1.out HB3.out)
          (case aL1 => simp only [List.length_nil]; omega)
          intro v38 w4 ho hb hg hat
          rw [List.nil_append] at ho
          replace hg : w3.grownBy w4 none := hg
          replace hat : v38.ownBlock = none ∨ ∃ b, v38.ownBlock = some b ∧ w3.heap.size ≤ b := hat
          have HO38 := Aside0.mk ho
          have HP38 := Aside0.mk ho
          have HB4 := Aside0.mk hb
          have HV4 : Aside0 (w4.heap[w.heap.size]? = some (.cells #[.int .i64 r0, .int .i64 r1] 54 (0, 0))) := ⟨(hg.block _ (blk_ltp HV3.out) (by simp)).trans HV3.out⟩
          have hne38 : some w.heap.size ≠ v38.ownBlock := fun h_ => by rcases hat with h1 | ⟨b_, h1, h2⟩ <;> rw [h1] at h_ <;> first | (cases h_; done) | (injection h_ with h_; have := blk_ltp HV3.out; omega)
          clear ho hb hg hat
          refine hK.out _ _ ⟨(blk_cell HV4.out 0).trans rfl, (blk_cell HV4.out 1).trans rfl⟩ (fun hHeld => ?_)
          clear hK K
          refine norm_ (a' := ?_) ?_ ?_
          rotate_left
          · show Act.put _ (some 38) _ = _
            simp only [Act.put, List.setIfInBounds_toArray, List.set_cons_zero, List.set_cons_succ, i64_w, i32_w]
            rfl
          refine one_ (i := 3) (N := some 40) #[true, true, true, true, false, false] rfl rfl (one_of HT_.out (by kernel_rfl)) (by decide) (fun K hK => ?_)
          refine Kd.R_lit_step k54 (w0 := w) w.heap.size 54 (by rfl) (N := 40) rfl (xs := [⟨r0, r1⟩]) (inner := [.int .i64 r0, .int .i64 r1]) (ok := fun _ => True) (okp := fun _ => False) ?hr2 (Reps.c2 (k54_mkM _ _ _ ⟨r0, r1⟩) (Reps.none _ _)) (fun _ h => h.elim) trivial HB4.out HB4.out.size (by simp) ?_
          (case hr2 => first | (go_simp; done) | (go_simp; rfl))
          intro v40 w5 ho hb hg hnew
          have HO40 := Aside0.mk ho
          have HO38 := Aside0.mk (Kd.R_grown HP38.out hg (by simp))
          have HB5 := Aside0.mk hb
          have HV5 : Aside0 (w5.heap[w.heap.size]? = some (.cells #[.int .i64 r0, .int .i64 r1] 54 (0, 0))) := ⟨(hg.block _ (blk_ltp HV4.out) (by simp)).trans HV4.out⟩
          clear ho hb hg hnew
          refine hK.out _ _ ⟨(blk_cell HV5.out 0).trans rfl, (blk_cell HV5.out 1).trans rfl⟩ (fun hHeld => ?_)
          clear hK K
          refine norm_ (a' := ?_) ?_ ?_
          rotate_left
          · show Act.put _ (some 40) _ = _
            simp only [Act.put, List.setIfInBounds_toArray, List.set_cons_zero, List.set_cons_succ, i64_w, i32_w]
            rfl
          exact norm_ (by simp only [putAll, Act.put, List.setIfInBounds_toArray, List.set_cons_zero, List.set_cons_succ]) (hCont (v38, v40) _ ⟨HO38.out, HO40.out, hne38, HB5.out, HV5.out⟩)
        · skip
          refine Kd.R_lit_step k54 (w0 := w) w.heap.size 54 (by rfl) (N := 40) rfl (xs := [⟨r0, r1⟩]) (inner := [.int .i64 r0, .int .i64 r1]) (ok := fun _ => True) (okp := fun _ => False) ?hr3 (Reps.c2 (k54_mkM _ _ _ ⟨r0, r1⟩) (Reps.none _ _)) (fun _ h => h.elim) trivial HB3.out HB3.out.size (by simp) ?_
          (case hr3 => first | (go_simp; done) | (go_simp; rfl))
          intro v40 w4 ho hb hg hnew
          have HO40 := Aside0.mk ho
          have HP40 := Aside0.mk ho
          have HB4 := Aside0.mk hb
          have HV4 : Aside0 (w4.heap[w.heap.size]? = some (.cells #[.int .i64 r0, .int .i64 r1] 54 (0, 0))) := ⟨(hg.block _ (blk_ltp HV3.out) (by simp)).trans HV3.out⟩
          clear ho hb hg hnew
          refine hK.out _ _ ⟨(blk_cell HV4.out 0).trans rfl, (blk_cell HV4.out 1).trans rfl⟩ (fun hHeld => ?_)
          clear hK K
          refine norm_ (a' := ?_) ?_ ?_
          rotate_left
          · show Act.put _ (some 40) _ = _
            simp only [Act.put, List.setIfInBounds_toArray, List.set_cons_zero, List.set_cons_succ, i64_w, i32_w]
            rfl
          refine one_ (i := 1) (N := some 38) #[true, true, true, true, false, false] rfl rfl (one_of HT_.out (by kernel_rfl)) (by decide) (fun K hK => ?_)
          refine Kd.R_append_rows_step k54 (w0 := w) w.heap.size (by rfl) (.const (.slice none 0 0)) (.tmp 37) 46 54 (.agg #[.int .i64 0, .int .i64 0]) 16 rfl Try.underlying46 info54 rfl (by decide) (by omega) _ [] l1 _ _ _ (fun _ => True) (fun _ => False) rfl rfl ?aO4 ?aR4 K54_M (fun _ h => h.elim) (fun _ _ => trivial) HB4.out HB4.out.size ?aL4 ?_
          (case aO4 => exact Kd.R_nil _ _ _ _ _)
          (case aR4 => exact Kd.C_below HR1.out HB4.out)
          (case aL4 => simp only [List.length_nil]; omega)
          intro v38 w5 ho hb hg hat
          rw [List.nil_append] at ho
          replace hg : w4.grownBy w5 none := hg
          replace hat : v38.ownBlock = none ∨ ∃ b, v38.ownBlock = some b ∧ w4.heap.size ≤ b := hat
          have HO38 := Aside0.mk ho
          have HO40 := Aside0.mk (Kd.R_grown HP40.out hg (by simp))
          have HB5 := Aside0.mk hb
          have HV5 : Aside0 (w5.heap[w.heap.size]? = some (.cells #[.int .i64 r0, .int .i64 r1] 54 (0, 0))) := ⟨(hg.block _ (blk_ltp HV4.out) (by simp)).trans HV4.out⟩
          have hne38 : some w.heap.size ≠ v38.ownBlock := fun h_ => by rcases hat with h1 | ⟨b_, h1, h2⟩ <;> rw [h1] at h_ <;> first | (cases h_; done) | (injection h_ with h_; have := blk_ltp HV4.out; omega)
          clear ho hb hg hat
          refine hK.out _ _ ⟨(blk_cell HV5.out 0).trans rfl, (blk_cell HV5.out 1).trans rfl⟩ (fun hHeld => ?_)
          clear hK K
          refine norm_ (a' := ?_) ?_ ?_
          rotate_left
          · show Act.put _ (some 38) _ = _
            simp only [Act.put, List.setIfInBounds_toArray, List.set_cons_zero, List.set_cons_succ, i64_w, i32_w]
            rfl
          exact norm_ (by simp only [putAll, Act.put, List.setIfInBounds_toArray, List.set_cons_zero, List.set_cons_succ]) (hCont (v38, v40) _ ⟨HO38.out, HO40.out, hne38, HB5.out, HV5.out⟩)
      rintro ⟨v38, v40⟩ w5 ⟨ho38, ho40, hne38, hb5, hv5⟩
      have HO38 := Aside0.mk ho38
      have HB5 := Aside0.mk hb5
      have HV5 := Aside0.mk hv5
      obtain ⟨A40, c40, e40⟩ := Kd.R_slice ho40
      subst e40
      have HO40 := Aside0.mk ho40
      clear ho38 ho40 hb5 hv5
      have hHeld : w5.cell? ⟨w.heap.size, 0, none⟩ = some (.int .i64 r0) ∧ w5.cell? ⟨w.heap.size, 1, none⟩ = some (.int .i64 r1) := ⟨(blk_cell HV5.out 0).trans rfl, (blk_cell HV5.out 1).trans rfl⟩
      refine norm_ (a' := ?_) ?_ ?_
      rotate_left
      · simp only [putAll, Act.put, List.setIfInBounds_toArray, List.set_cons_zero, List.set_cons_succ]
        rfl
      refine one_ (i := 4) (N := some 41) #[true, true, true, true, true, false] rfl rfl (one_of HT_.out (by kernel_rfl)) (by decide) (fun K hK => ?_)
      refine Kd.R_append_rows_step k54 (w0 := w) w.heap.size (by rfl) (.tmp 38) (.tmp 40) 46 54 (.agg #[.int .i64 0, .int .i64 0]) 16 rfl Try.underlying46 info54 rfl (by decide) (by omega) _ l1 [⟨r0, r1⟩] _ _ _ (fun _ => True) (fun _ => False) rfl rfl HO38.out (Kd.R_reads' HO40.out).2.2 K54_M (fun _ h => h.elim) (fun _ _ => trivial) HB5.out HB5.out.size ?aL ?_
      (case aL => simp only [List.length_cons, List.length_nil]; omega)
      intro v41 w6 ho hb hg hat
      obtain ⟨A9, c9, e9⟩ := Kd.R_slice ho
      obtain ⟨all, hall⟩ : ∃ x, l1 ++ [(⟨r0, r1⟩ : S54)] = x := ⟨_, rfl⟩
      rw [hall] at ho e9
      have hall17 : all.length ≤ 17 := by rw [← hall]; simp; omega
      subst e9
      have HO9 := Aside0.mk ho
      have HB6 := Aside0.mk hb
      have HV6 : Aside0 (w6.heap[w.heap.size]? = some (.cells #[.int .i64 r0, .int .i64 r1] 54 (0, 0))) := ⟨(hg.block _ (blk_ltp HV5.out) hne38).trans HV5.out⟩
      rw [hall] at HH
      clear ho hb hg hat hall
      refine hK.out _ _ ⟨(blk_cell HV6.out 0).trans rfl, (blk_cell HV6.out 1).trans rfl⟩ (fun hHeld => ?_)
      clear hK K
      refine norm_ (a' := ?_) ?_ ?_
      rotate_left
      · show Act.put _ (some 41) _ = _
        simp only [Act.put, List.setIfInBounds_toArray, List.set_cons_zero, List.set_cons_succ, i64_w, i32_w]
        rfl
      refine pure_ (i := 5) (N := some 9) (v := ?_) (a' := ?_) #[true, true, true, true, true, true] rfl rfl (any_of HT_.out (by kernel_rfl)) (fun _ _ _ h => h) (Or.inl ⟨by rfl, ?_⟩) ?_ ?_
      rotate_left
      · intro w'
        go_simp
        with_reducible rfl
      rotate_left
      · simp only [Act.put, List.setIfInBounds_toArray, List.set_cons_zero, List.set_cons_succ, i64_w, i32_w]
        rfl
      refine done_ (done_of HT_.out (by kernel_rfl)) ?_
      go_upto_region 7 with (fail)
      obtain ⟨W7, hW7⟩ : ∃ W, w6.alloc (Obj.cells #[.slice none 0 0] 59) = W := ⟨_, rfl⟩
      rw [hW7]
      obtain ⟨bb, hbb⟩ : ∃ b, w6.heap.size = b := ⟨_, rfl⟩
      have HB7 : Aside0 (Below w.heap.size w W7) := ⟨by rw [← hW7]; exact below_alloc HB6.out _⟩
      have HV7 : Aside0 (W7.heap[bb]? = some (.cells #[.slice none 0 0] 59 (0, 0))) := ⟨by rw [← hW7, ← hbb]; exact heap_alloc_new w6 _⟩
      have HS7 : Aside0 (w6.heap.size < W7.heap.size) := ⟨by rw [← hW7]; simp⟩
      have HK7 : Aside0 (∀ k_, k_ < w6.heap.size → W7.heap[k_]? = w6.heap[k_]?) := ⟨fun k_ hk_ => by rw [← hW7]; exact (below_alloc (Below.refl w6.heap.size w6) _).block k_ hk_⟩
      have HO7 : Aside0 (Kd.R (Kd.int .i64) 3 W7 w.heap.size (fun k_ => w6.heap.size < k_) (.slice none 0 0) []) := ⟨Kd.R_nil _ _ _ _ _⟩
      have HBB := Aside0.mk hbb
      have hbbw : w.heap.size ≤ bb := by rw [← hbb]; exact HB6.out.size
      clear hW7
      rw [hbb]
      clear hbb
      go_upto_region 9 with (first | (go_at_call 67; refine (put_calls w _ bb _ _ 0 (fun k_ => w6.heap.size < k_) HB7.out HV7.out hbbw (fun k_ hk_ => Nat.lt_of_lt_of_le HS7.out hk_) (fun h_ => by have := HBB.out; omega) HO7.out (by simp)).mono ?_; rintro e' w8 ⟨rfl, v8, hv, ho, hb, hs, hk⟩; have HV8 := Aside0.mk hv; have HO8 := Aside0.mk ho; have HB8 := Aside0.mk hb; have HK8 : Aside0 (∀ k_, k_ < w6.heap.size → w8.heap[k_]? = w6.heap[k_]?) := ⟨fun k_ hk_ => (hk k_ (by have := HS7.out; omega) (fun h_ => by omega) (by have := HBB.out; omega)).trans (HK7.out k_ hk_)⟩; have HS8 : Aside0 (w6.heap.size < w8.heap.size) := ⟨Nat.lt_of_lt_of_le HS7.out hs⟩; clear hv ho hb hs hk))
      go_upto_region 10 with (first | (go_at_call 67; refine (put_calls w _ bb _ _ a0 (fun k_ => w6.heap.size < k_) HB8.out HV8.out hbbw (fun k_ hk_ => Nat.lt_of_lt_of_le HS8.out hk_) (fun h_ => by have := HBB.out; omega) HO8.out (by have := ins_length 0 []; simp at this; omega)).mono ?_; rintro e' w9 ⟨rfl, v9, hv, ho, hb, hs, hk⟩; have HV9 := Aside0.mk hv; have HO9p := Aside0.mk ho; have HB9 := Aside0.mk hb; have HK9 : Aside0 (∀ k_, k_ < w6.heap.size → w9.heap[k_]? = w6.heap[k_]?) := ⟨fun k_ hk_ => (hk k_ (by have := HS8.out; omega) (fun h_ => by omega) (by have := HBB.out; omega)).trans (HK8.out k_ hk_)⟩; have HS9 : Aside0 (w6.heap.size < w9.heap.size) := ⟨Nat.lt_of_lt_of_le HS8.out hs⟩; clear hv ho hb hs hk))
      have HL9 : Aside0 (Below w6.heap.size w6 w9) := ⟨⟨HB9.out.os.trans HB6.out.os.symm, HB9.out.tape.trans HB6.out.tape.symm, HB9.out.output.trans HB6.out.output.symm, Nat.le_of_lt HS9.out, HK9.out⟩⟩
      have HR9 := Aside0.mk (Kd.R_reads' HO9.out)
      go_wp2
      go_loopw [50] (fun v50 wr => ∃ (j : Nat) (v : Value), v50 = .int .i64 (j : Int) ∧ Aside0 (j ≤ all.length) ∧ Aside0 (wr.heap[bb]? = some (.cells #[v] 59 (0, 0))) ∧ Aside0 (Kd.R (Kd.int .i64) 3 wr w.heap.size (fun k_ => w6.heap.size < k_) v (placesOf a0 (all.take j))) ∧ Aside0 (Below w.heap.size w wr) ∧ Aside0 (Below w6.heap.size w6 wr) ∧ Aside0 (w6.heap.size < wr.heap.size)) (fun v50 _ => all.length - (intOf v50).toNat)
      case atStart => exact ⟨0, _, rfl, ⟨Nat.zero_le _⟩, HV9, ⟨by rw [List.take_zero]; exact HO9p.out⟩, HB9, HL9, HS9⟩
      case round =>
        obtain ⟨j, v, rfl, HJ, HVj, HOj, HBj, HLj, HSr⟩ := hrel
        by_cases hj : j < all.length
        · have e1_ : decide ((j : Int) < (all.length : Int)) = true := decide_eq_true (by omega)
          have p1 : (0 : Int) ≤ (j : Int) := by omega
          have q1 : (j : Int) < (all.length : Int) := by omega
          obtain ⟨ad, rfl, hx0, hx1⟩ := at_T54 (Kd.C_below HR9.out.2.2 HLj.out) (j : Int) p1 q1
          rw [Int.toNat_natCast] at hx0 hx1
          replace p1 := eq_true p1
          replace q1 := eq_true q1
          have hm : rd_T54 all (j : Int) = all[j] := by unfold rd_T54; rw [Int.toNat_natCast, List.getD_eq_getElem?_getD, List.getElem?_eq_getElem hj]; rfl
          have hpl : ins (rd_T54 all (j : Int)).f1 (ins (rd_T54 all (j : Int)).f0 (placesOf a0 (all.take j))) = placesOf a0 (all.take (j + 1)) := by rw [List.take_add_one, List.getElem?_eq_getElem hj, Option.toList_some, places_snoc, hm]
          have hlen : (placesOf a0 (all.take j)).length < 100 ∧ (ins (rd_T54 all (j : Int)).f0 (placesOf a0 (all.take j))).length < 200 := by
            have h1 := places_le a0 (all.take j)
            have h2 := ins_length (rd_T54 all (j : Int)).f0 (placesOf a0 (all.take j))
            have h3 : (all.take j).length ≤ j := List.length_take_le _ _
            omega
          have HPL := Aside0.mk hpl
          have HLEN := Aside0.mk hlen
          clear hpl hlen hm
          go_upto_region 13 with (fail)
          obtain ⟨W2, hW2⟩ : ∃ W, wr.alloc (Obj.cells #[Value.int .i64 (rd_T54 all (j : Int)).f0, Value.int .i64 (rd_T54 all (j : Int)).f1] 54) = W := ⟨_, rfl⟩
          rw [hW2]
          have hb2 : Below wr.heap.size wr W2 := by rw [← hW2]; exact below_alloc (Below.refl _ _) _
          have hct : W2.heap[wr.heap.size]? = some (.cells #[Value.int .i64 (rd_T54 all (j : Int)).f0, Value.int .i64 (rd_T54 all (j : Int)).f1] 54 (0, 0)) := by rw [← hW2]; exact heap_alloc_new wr _
          clear hW2
          have ht0 : W2.cell? ⟨wr.heap.size, 0, none⟩ = some (.int .i64 (rd_T54 all (j : Int)).f0) := (blk_cell hct 0).trans rfl
          have HT11 := Aside0.mk hct
          have HV11 := Aside0.mk (blk_below (g := bb) (o := .cells #[v] 59 (0, 0)) HVj.out hb2)
          have HB11 := Aside0.mk (below_then HBj.out HBj.out.size hb2)
          have HL11 := Aside0.mk (below_then HLj.out HLj.out.size hb2)
          have HO11 := Aside0.mk (Kd.R_below (Kd.R_mono (ok' := fun k_ => w6.heap.size < k_ ∧ k_ ≠ wr.heap.size) (Kd.R_bound HOj.out) (fun k_ hk_ => ⟨hk_.1, by have := hk_.2.2.1; omega⟩)) hb2)
          have hne9 : wr.heap.size ≠ bb := by have := blk_ltp HVj.out; omega
          clear hct hb2
          go_upto_region 14 with (first | (go_at_call 67; refine (put_calls w _ bb _ _ (rd_T54 all (j : Int)).f0 (fun k_ => w6.heap.size < k_ ∧ k_ ≠ wr.heap.size) HB11.out HV11.out hbbw (fun k_ hk_ => ⟨by have := HL11.out.size; have := blk_ltp HT11.out; have := HSr.out; omega, by have := blk_ltp HT11.out; omega⟩) (fun h_ => by have := HBB.out; have := h_.1; omega) HO11.out (by have := HLEN.out.1; omega)).mono ?_; rintro e' w12 ⟨rfl, v12, hv, ho, hb, hs, hk⟩; have HV12 := Aside0.mk hv; have HO12 := Aside0.mk ho; have HB12 := Aside0.mk hb; have HT12 : Aside0 (w12.heap[wr.heap.size]? = some (.cells #[Value.int .i64 (rd_T54 all (j : Int)).f0, Value.int .i64 (rd_T54 all (j : Int)).f1] 54 (0, 0))) := ⟨(hk _ (blk_ltp HT11.out) (fun h_ => h_.2 rfl) (by have := HBB.out; have := HSr.out; omega)).trans HT11.out⟩; have HL12 : Aside0 (Below w6.heap.size w6 w12) := ⟨⟨hb.os.trans HB6.out.os.symm, hb.tape.trans HB6.out.tape.symm, hb.output.trans HB6.out.output.symm, Nat.le_trans HL11.out.size hs, fun k_ hk_ => (hk k_ (by have := HL11.out.size; omega) (fun h_ => by have := h_.1; omega) (by have := HBB.out; omega)).trans (HL11.out.block k_ hk_)⟩⟩; clear hv ho hb hs hk))
          have ht1 : w12.cell? ⟨wr.heap.size, 1, none⟩ = some (.int .i64 (rd_T54 all (j : Int)).f1) := (blk_cell HT12.out 1).trans rfl
          go_wp2_with (first | (go_at_call 67; refine (put_calls w _ bb _ _ (rd_T54 all (j : Int)).f1 (fun k_ => w6.heap.size < k_ ∧ k_ ≠ wr.heap.size) HB12.out HV12.out hbbw (fun k_ hk_ => ⟨by have := HL12.out.size; have := blk_ltp HT12.out; have := HSr.out; omega, by have := blk_ltp HT12.out; omega⟩) (fun h_ => by have := HBB.out; have := h_.1; omega) HO12.out (by have := HLEN.out.2; omega)).mono ?_; rintro e' w13 ⟨rfl, v13, hv, ho, hb, hs, hk⟩; have HV13 := Aside0.mk hv; have HO13 := Aside0.mk ho; have HB13 := Aside0.mk hb; have HT13 : Aside0 (w13.heap[wr.heap.size]? = some (.cells #[Value.int .i64 (rd_T54 all (j : Int)).f0, Value.int .i64 (rd_T54 all (j : Int)).f1] 54 (0, 0))) := ⟨(hk _ (blk_ltp HT12.out) (fun h_ => h_.2 rfl) (by have := HBB.out; have := HSr.out; omega)).trans HT12.out⟩; have HL13 : Aside0 (Below w6.heap.size w6 w13) := ⟨⟨hb.os.trans HB6.out.os.symm, hb.tape.trans HB6.out.tape.symm, hb.output.trans HB6.out.output.symm, Nat.le_trans HL12.out.size hs, fun k_ hk_ => (hk k_ (by have := HL12.out.size; omega) (fun h_ => by have := h_.1; omega) (by have := HBB.out; omega)).trans (HL12.out.block k_ hk_)⟩⟩; clear hv ho hb hs hk))
          go_roundw
          case measure => simp only [intOf]; omega
          case rel => exact ⟨j + 1, v13, rfl, ⟨by omega⟩, HV13, ⟨by rw [← HPL.out]; exact Kd.R_mono HO13.out (fun _ hk_ => hk_.1)⟩, HB13, HL13, ⟨by have := blk_ltp HT13.out; have := HSr.out; omega⟩⟩
        · have e1_ : decide ((j : Int) < (all.length : Int)) = false := decide_eq_false (by omega)
          obtain rfl : j = all.length := by have := HJ.out; omega
          have HPP : Aside0 (Kd.R (Kd.int .i64) 3 wr w.heap.size (fun k_ => w6.heap.size < k_) v (placesOf a0 all)) := ⟨by have := HOj.out; rw [List.take_length] at this; exact this⟩
          have hpp := places_pos a0 all
          have hpl := places_le a0 all
          obtain ⟨pl, hpe⟩ : ∃ x, placesOf a0 all = x := ⟨_, rfl⟩
          rw [hpe] at HPP hpp hpl HH
          obtain ⟨gp, cp, rfl, hgb, hgl, cellsp, hclp⟩ := Kd.R_form HPP.out hpp
          have HRP := Aside0.mk (Kd.R_reads' HPP.out)
          have hkbb : wr.cell? ⟨bb, 0, none⟩ = some (.slice (some ⟨gp, 0, none⟩) pl.length cp) := (blk_cell HVj.out 0).trans rfl
          have HKB := Aside0.mk hkbb
          have HRA := Aside0.mk (Kd.C_below HR9.out.2.2 HLj.out)
          clear hclp hgb hgl
          obtain ⟨wl, rfl⟩ : ∃ wl : World, wl = wr := ⟨_, rfl⟩
          have HC9 := Aside0.mk HR9.out.2.1
          have hgp : gp < wl.heap.size := own_lt (Kd.R_own HPP.out).choose_spec gp rfl
          have hbbl : bb < wl.heap.size := blk_ltp HVj.out
          have hpl100 : pl.length < 100 := by omega
          have HPL := Aside0.mk (show pl.length < 100 ∧ 0 < pl.length from ⟨hpl100, hpp⟩)
          clear hpl hpp hpl100 hkbb hk0 hk1 e1_
          have HBl := Aside0.mk (Below.refl wl.heap.size wl)
          go_wp2
          go_loopw [14, 15] (fun v14 v15 wr => ∃ i : Nat, v15 = .int .i64 (i : Int) ∧ Aside0 (i + 1 ≤ pl.length) ∧ Aside0 (Kd.R k54 54 wr wl.heap.size (fun _ => True) v14 (outs a0 all pl i)) ∧ Aside0 (Below wl.heap.size wl wr)) (fun _ v15 _ => pl.length - (intOf v15).toNat)
          case atStart => exact ⟨0, rfl, ⟨HPL.out.2⟩, ⟨Kd.R_nil _ _ _ _ _⟩, HBl⟩
          case round =>
            obtain ⟨i, rfl, HJi, HOi, HBi⟩ := hrel
            have hgpr : gp < wr.heap.size := Nat.lt_of_lt_of_le hgp HBi.out.size
            have hbbr : bb < wr.heap.size := Nat.lt_of_lt_of_le hbbl HBi.out.size
            have HKi : Aside0 (wr.cell? ⟨bb, 0, none⟩ = some (.slice (some ⟨gp, 0, none⟩) pl.length cp)) := ⟨(Below.cell HBi.out (p := ⟨bb, 0, none⟩) hbbl).trans HKB.out⟩
            have hkbb := HKi.out
            obtain ⟨i1, hi1⟩ : ∃ i1 : Nat, i + 1 = i1 := ⟨_, rfl⟩
            have HWI : Aside0 (wrap64 ((i : Int) + 1) = (i1 : Int)) := ⟨by rw [← hi1]; exact wrap_small i (by have := HJi.out; have := HPL.out.1; omega)⟩
            have HI1 := Aside0.mk hi1
            by_cases hlt : i1 < pl.length
            · have e1_ : decide ((i1 : Int) < (pl.length : Int)) = true := decide_eq_true (by omega)
              obtain ⟨p, hp⟩ : ∃ p, rd pl (i : Int) = p := ⟨_, rfl⟩
              obtain ⟨q, hq⟩ : ∃ q, rd pl (i1 : Int) = q := ⟨_, rfl⟩
              obtain ⟨_, ea, hx⟩ := Kd.at_int HRP.out.2.2 (i : Int) (by omega) (by omega)
              cases ea
              obtain ⟨_, ea, hy⟩ := Kd.at_int HRP.out.2.2 (i1 : Int) (by omega) (by omega)
              cases ea
              rw [add_plain, Int.toNat_natCast, hp] at hx
              rw [add_plain, Int.toNat_natCast, hq] at hy
              have HX : Aside0 (wr.cell? ⟨gp, i, none⟩ = some (.int .i64 p)) := ⟨(Below.cell HBi.out (p := ⟨gp, i, none⟩) hgp).trans (by simpa using hx)⟩
              have HY : Aside0 (wr.cell? ⟨gp, i1, none⟩ = some (.int .i64 q)) := ⟨(Below.cell HBi.out (p := ⟨gp, i1, none⟩) hgp).trans (by simpa using hy)⟩
              clear hx hy
              have hx := HX.out
              have p1 : ((0 : Int) ≤ (i : Int)) = True := eq_true (by omega)
              have q1 : ((i : Int) < (pl.length : Int)) = True := eq_true (by omega)
              have p2 : ((0 : Int) ≤ (i1 : Int)) = True := eq_true (by omega)
              have q2 : ((i1 : Int) < (pl.length : Int)) = True := eq_true (by omega)
              obtain ⟨cm, hcm⟩ : ∃ c : Bool, cameB a0 all p = c := ⟨_, rfl⟩
              have HCM := Aside0.mk ((came_is a0 all p (by omega)).trans (congrArg some hcm))
              have HN : Aside0 (outs a0 all pl i1 = outNext cm p q (outs a0 all pl i)) := ⟨by rw [← hi1]; show outNext (cameB a0 all (rd pl (i : Int))) (rd pl (i : Int)) (rd pl ((i + 1 : Nat) : Int)) _ = _; rw [hi1, hp, hq, hcm]⟩
              have hol := outs_le a0 all pl i
              have hil : i < 100 := by have := HPL.out.1; omega
              have HIL := Aside0.mk hil
              obtain ⟨o', ho'⟩ : ∃ x, outs a0 all pl i = x := ⟨_, rfl⟩
              rw [ho'] at HOi HN hol
              have HOL := Aside0.mk hol
              have HLT := Aside0.mk hlt
              clear hi1 hp hq hcm ho' hlt hol hil
              have hwi := HWI.out
              cases cm with
              | false =>
                go_wp2_with (first | ((with_reducible refine gate_callee (f := 68) rfl ?_); refine goesL_ (some 76) rfl rfl Try.func68 (by kernel_rfl) rfl #[.int .i64 a0, .slice A9 all.length c9, .int .i64 p] rfl (by (try simp only [List.map_toArray, List.map_cons, List.map_nil]); first | done | rfl) ?_; refine (packthreadref_came.calls 1001 a0 A9 c9 all p false _ (Kd.C_below HRA.out HBi.out) HC9.out HCM.out).mono ?_; rintro e' w1 ⟨rfl, hb1⟩; refine ⟨_, rfl, ?_⟩; have HB1i := Aside0.mk (below_step HBi.out hb1); have HX1 := Aside0.mk (Below.cell hb1 (p := ⟨gp, i, none⟩) hgpr |>.trans HX.out); have HY1 := Aside0.mk (Below.cell hb1 (p := ⟨gp, i1, none⟩) hgpr |>.trans HY.out); have HK1 := Aside0.mk (Below.cell hb1 (p := ⟨bb, 0, none⟩) hbbr |>.trans HKi.out); have HO1 := Aside0.mk (Kd.R_below HOi.out hb1); have HM1 := Aside0.mk hb1; clear hb1))
                go_roundw
                case measure => rw [HWI.out]; exact meas2 HI1.out HLT.out
                case rel => exact ⟨i1, by rw [HWI.out], ⟨HLT.out⟩, ⟨by rw [HN.out, outNext_no]; exact HO1.out⟩, HB1i⟩
              | true =>
                obtain ⟨A14, c14, e14⟩ := Kd.R_slice HOi.out
                obtain ⟨L, hL⟩ : ∃ L : Nat, o'.length = L := ⟨_, rfl⟩
                rw [hL] at e14
                subst e14
                have HL := Aside0.mk hL
                clear hL
                have HN2 := Aside0.mk HN.out
                go_upto_region 22 with (first | ((with_reducible refine gate_callee (f := 68) rfl ?_); refine goesL_ (some 76) rfl rfl Try.func68 (by kernel_rfl) rfl #[.int .i64 a0, .slice A9 all.length c9, .int .i64 p] rfl (by (try simp only [List.map_toArray, List.map_cons, List.map_nil]); first | done | rfl) ?_; refine (packthreadref_came.calls 1001 a0 A9 c9 all p true _ (Kd.C_below HRA.out HBi.out) HC9.out HCM.out).mono ?_; rintro e' w1 ⟨rfl, hb1⟩; refine ⟨_, rfl, ?_⟩; have HB1i := Aside0.mk (below_step HBi.out hb1); have HX1 := Aside0.mk (Below.cell hb1 (p := ⟨gp, i, none⟩) hgpr |>.trans HX.out); have HY1 := Aside0.mk (Below.cell hb1 (p := ⟨gp, i1, none⟩) hgpr |>.trans HY.out); have HK1 := Aside0.mk (Below.cell hb1 (p := ⟨bb, 0, none⟩) hbbr |>.trans HKi.out); have HO1 := Aside0.mk (Kd.R_below HOi.out hb1); have HM1 := Aside0.mk hb1; clear hb1))
                clear hx hkbb
                by_cases hL0 : L = 0
                · have HNE : Aside0 (¬ (0 < o'.length ∧ (rd_T54 o' ((o'.length - 1 : Nat) : Int)).f1 = p)) := ⟨fun h_ => by have := HL.out; have := h_.1; omega⟩
                  have e2_ : decide (0 < (L : Int)) = false := decide_eq_false (by omega)
                  have e2n_ : decide (0 < L) = false := decide_eq_false (by omega)
                  clear hL0
                  refine start_ (n := 15) (S := fun w' => True) (ds := []) #[false, false, false, false, false, false, false, false, false, false, false, false, false, false, false] (by kernel_rfl) rfl rfl trivial (fun hHeld => ?_)
                  refine with_tabW hadd.tab22 hadd.bits22 (fun HT_ HW_ => ?_)
                  have HX3 : Aside0 (w1.drew.cell? ⟨gp, i, none⟩ = some (.int .i64 p)) := ⟨HX1.out⟩
                  have HY3 : Aside0 (w1.drew.cell? ⟨gp, i1, none⟩ = some (.int .i64 q)) := ⟨HY1.out⟩
                  have HK3 : Aside0 (w1.drew.cell? ⟨bb, 0, none⟩ = some (.slice (some ⟨gp, 0, none⟩) pl.length cp)) := ⟨HK1.out⟩
                  have HO3 := Aside0.mk (Kd.R_drew HO1.out)
                  have HB3i := Aside0.mk (below_drew1 HB1i.out)
                  generalize w1.drew = w3 at HX3 HY3 HK3 HO3 HB3i hHeld ⊢
                  refine pure_ (i := 0) (N := some 80) (v := ?_) (a' := ?_) #[true, false, false, false, false, false, false, false, false, false, false, false, false, false, false] rfl rfl (any_of HT_.out (by kernel_rfl)) (fun _ _ _ h => h) (Or.inl ⟨by rfl, ?_⟩) ?_ ?_
                  rotate_left
                  · intro w'
                    go_simp
                    with_reducible rfl
                  rotate_left
                  · simp only [Act.put, List.setIfInBounds_toArray, List.set_cons_zero, List.set_cons_succ, i64_w, i32_w]
                    rfl
                  refine pure_ (i := 1) (N := some 81) (v := ?_) (a' := ?_) #[true, true, false, false, false, false, false, false, false, false, false, false, false, false, false] rfl rfl (any_of HT_.out (by kernel_rfl)) (fun _ _ _ h => h) (Or.inl ⟨by rfl, ?_⟩) ?_ ?_
                  rotate_left
                  · intro w'
                    go_simp
                    with_reducible rfl
                  rotate_left
                  · simp only [Act.put, List.setIfInBounds_toArray, List.set_cons_zero, List.set_cons_succ, i64_w, i32_w]
                    rfl
                  refine pure_ (i := 2) (N := some 82) (v := ?_) (a' := ?_) #[true, true, true, false, false, false, false, false, false, false, false, false, false, false, false] rfl rfl (any_of HT_.out (by kernel_rfl)) (fun _ _ _ h => h) (Or.inl ⟨by rfl, ?_⟩) ?_ ?_
                  rotate_left
                  · intro w'
                    go_simp
                    with_reducible rfl
                  rotate_left
                  · simp only [Act.put, List.setIfInBounds_toArray, List.set_cons_zero, List.set_cons_succ, i64_w, i32_w]
                    rfl
                  refine pure_ (i := 3) (N := some 83) (v := undef) (a' := ?_) #[true, true, true, true, false, false, false, false, false, false, false, false, false, false, false] rfl rfl (any_of HT_.out (by kernel_rfl)) (fun _ _ _ h => h) (Or.inr ⟨by rfl, rfl⟩) ?_ ?_
                  rotate_left
                  · simp only [Act.put, List.setIfInBounds_toArray, List.set_cons_zero, List.set_cons_succ, i64_w, i32_w]
                    rfl
                  refine pure_ (i := 4) (N := some 84) (v := undef) (a' := ?_) #[true, true, true, true, true, false, false, false, false, false, false, false, false, false, false] rfl rfl (any_of HT_.out (by kernel_rfl)) (fun _ _ _ h => h) (Or.inr ⟨by rfl, rfl⟩) ?_ ?_
                  rotate_left
                  · simp only [Act.put, List.setIfInBounds_toArray, List.set_cons_zero, List.set_cons_succ, i64_w, i32_w]
                    rfl
                  refine pure_ (i := 5) (N := some 85) (v := undef) (a' := ?_) #[true, true, true, true, true, true, false, false, false, false, false, false, false, false, false] rfl rfl (any_of HT_.out (by kernel_rfl)) (fun _ _ _ h => h) (Or.inr ⟨by rfl, rfl⟩) ?_ ?_
                  rotate_left
                  · simp only [Act.put, List.setIfInBounds_toArray, List.set_cons_zero, List.set_cons_succ, i64_w, i32_w]
                    rfl
                  refine pure_ (i := 6) (N := some 86) (v := undef) (a' := ?_) #[true, true, true, true, true, true, true, false, false, false, false, false, false, false, false] rfl rfl (any_of HT_.out (by kernel_rfl)) (fun _ _ _ h => h) (Or.inr ⟨by rfl, rfl⟩) ?_ ?_
                  rotate_left
                  · simp only [Act.put, List.setIfInBounds_toArray, List.set_cons_zero, List.set_cons_succ, i64_w, i32_w]
                    rfl
                  refine pure_ (i := 7) (N := some 87) (v := undef) (a' := ?_) #[true, true, true, true, true, true, true, true, false, false, false, false, false, false, false] rfl rfl (any_of HT_.out (by kernel_rfl)) (fun _ _ _ h => h) (Or.inr ⟨by rfl, rfl⟩) ?_ ?_
                  rotate_left
                  · simp only [Act.put, List.setIfInBounds_toArray, List.set_cons_zero, List.set_cons_succ, i64_w, i32_w]
                    rfl
                  refine pure_ (i := 8) (N := some 88) (v := undef) (a' := ?_) #[true, true, true, true, true, true, true, true, true, false, false, false, false, false, false] rfl rfl (any_of HT_.out (by kernel_rfl)) (fun _ _ _ h => h) (Or.inr ⟨by rfl, rfl⟩) ?_ ?_
                  rotate_left
                  · simp only [Act.put, List.setIfInBounds_toArray, List.set_cons_zero, List.set_cons_succ, i64_w, i32_w]
                    rfl
                  refine pure_ (i := 9) (N := some 89) (v := undef) (a' := ?_) #[true, true, true, true, true, true, true, true, true, true, false, false, false, false, false] rfl rfl (any_of HT_.out (by kernel_rfl)) (fun _ _ _ h => h) (Or.inr ⟨by rfl, rfl⟩) ?_ ?_
                  rotate_left
                  · simp only [Act.put, List.setIfInBounds_toArray, List.set_cons_zero, List.set_cons_succ, i64_w, i32_w]
                    rfl
                  refine pure_ (i := 10) (N := some 90) (v := undef) (a' := ?_) #[true, true, true, true, true, true, true, true, true, true, true, false, false, false, false] rfl rfl (any_of HT_.out (by kernel_rfl)) (fun _ _ _ h => h) (Or.inr ⟨by rfl, rfl⟩) ?_ ?_
                  rotate_left
                  · simp only [Act.put, List.setIfInBounds_toArray, List.set_cons_zero, List.set_cons_succ, i64_w, i32_w]
                    rfl
                  refine pure_ (i := 11) (N := some 91) (v := undef) (a' := ?_) #[true, true, true, true, true, true, true, true, true, true, true, true, false, false, false] rfl rfl (any_of HT_.out (by kernel_rfl)) (fun _ _ _ h => h) (Or.inr ⟨by rfl, rfl⟩) ?_ ?_
                  rotate_left
                  · simp only [Act.put, List.setIfInBounds_toArray, List.set_cons_zero, List.set_cons_succ, i64_w, i32_w]
                    rfl
                  refine pure_ (i := 12) (N := some 92) (v := undef) (a' := ?_) #[true, true, true, true, true, true, true, true, true, true, true, true, true, false, false] rfl rfl (any_of HT_.out (by kernel_rfl)) (fun _ _ _ h => h) (Or.inr ⟨by rfl, rfl⟩) ?_ ?_
                  rotate_left
                  · simp only [Act.put, List.setIfInBounds_toArray, List.set_cons_zero, List.set_cons_succ, i64_w, i32_w]
                    rfl
                  refine pure_ (i := 13) (N := some 93) (v := undef) (a' := ?_) #[true, true, true, true, true, true, true, true, true, true, true, true, true, true, false] rfl rfl (any_of HT_.out (by kernel_rfl)) (fun _ _ _ h => h) (Or.inr ⟨by rfl, rfl⟩) ?_ ?_
                  rotate_left
                  · simp only [Act.put, List.setIfInBounds_toArray, List.set_cons_zero, List.set_cons_succ, i64_w, i32_w]
                    rfl
                  refine pure_ (i := 14) (N := some 94) (v := ?_) (a' := ?_) #[true, true, true, true, true, true, true, true, true, true, true, true, true, true, true] rfl rfl (any_of HT_.out (by kernel_rfl)) (fun _ _ _ h => h) (Or.inl ⟨by rfl, ?_⟩) ?_ ?_
                  rotate_left
                  · intro w'
                    go_simp
                    with_reducible rfl
                  rotate_left
                  · simp only [Act.put, List.setIfInBounds_toArray, List.set_cons_zero, List.set_cons_succ, i64_w, i32_w]
                    rfl
                  refine done_ (done_of HT_.out (by kernel_rfl)) ?_
                  go_upto_region 24 with (fail)
                  refine start_ (n := 14) (S := fun w' => w'.cell? ⟨bb, 0, none⟩ = some (.slice (some ⟨gp, 0, none⟩) pl.length cp) ∧ w'.cell? ⟨gp, i, none⟩ = some (.int .i64 p) ∧ w'.cell? ⟨gp, i1, none⟩ = some (.int .i64 q)) (ds := [12]) #[false, false, false, false, false, false, false, false, false, false, false, false, false, false] (by kernel_rfl) rfl rfl ⟨HK3.out, HX3.out, HY3.out⟩ (fun hHeld => ?_)
                  refine with_tabW hadd.tab24 hadd.bits24 (fun HT_ HW_ => ?_)
                  have HX4 : Aside0 (w3.drew.cell? ⟨gp, i, none⟩ = some (.int .i64 p)) := ⟨HX3.out⟩
                  have HY4 : Aside0 (w3.drew.cell? ⟨gp, i1, none⟩ = some (.int .i64 q)) := ⟨HY3.out⟩
                  have HK4 : Aside0 (w3.drew.cell? ⟨bb, 0, none⟩ = some (.slice (some ⟨gp, 0, none⟩) pl.length cp)) := ⟨HK3.out⟩
                  have HO4 := Aside0.mk (Kd.R_drew HO3.out)
                  have HB4 := Aside0.mk (below_drew1 HB3i.out)
                  generalize w3.drew = w4 at HX4 HY4 HK4 HO4 HB4 hHeld ⊢
                  refine pure_ (i := 0) (N := some 105) (v := ?_) (a' := ?_) #[true, false, false, false, false, false, false, false, false, false, false, false, false, false] rfl rfl (any_of HT_.out (by kernel_rfl)) (fun _ _ _ h => h) (Or.inl ⟨by rfl, ?_⟩) ?_ ?_
                  rotate_left
                  · intro w'
                    go_simp
                    with_reducible rfl
                  rotate_left
                  · simp only [Act.put, List.setIfInBounds_toArray, List.set_cons_zero, List.set_cons_succ, i64_w, i32_w, hwi]
                    rfl
                  refine pure_ (i := 2) (N := some 107) (v := ?_) (a' := ?_) #[true, false, true, false, false, false, false, false, false, false, false, false, false, false] rfl rfl (any_of HT_.out (by kernel_rfl)) (fun _ _ _ h => h) (Or.inl ⟨by rfl, ?_⟩) ?_ ?_
                  rotate_left
                  · intro w'
                    go_simp
                    with_reducible rfl
                  rotate_left
                  · simp only [Act.put, List.setIfInBounds_toArray, List.set_cons_zero, List.set_cons_succ, i64_w, i32_w, hwi]
                    rfl
                  refine pure_ (i := 6) (N := some 111) (v := ?_) (a' := ?_) #[true, false, true, false, false, false, true, false, false, false, false, false, false, false] rfl rfl (any_of HT_.out (by kernel_rfl)) (fun _ _ _ h => h) (Or.inl ⟨by rfl, ?_⟩) ?_ ?_
                  rotate_left
                  · intro w'
                    go_simp
                    with_reducible rfl
                  rotate_left
                  · simp only [Act.put, List.setIfInBounds_toArray, List.set_cons_zero, List.set_cons_succ, i64_w, i32_w, hwi]
                    rfl
                  refine pure_ (i := 7) (N := some 112) (v := ?_) (a' := ?_) #[true, false, true, false, false, false, true, true, false, false, false, false, false, false] rfl rfl (any_of HT_.out (by kernel_rfl)) (fun _ _ _ h => h) (Or.inl ⟨by rfl, ?_⟩) ?_ ?_
                  rotate_left
                  · intro w'
                    go_simp
                    with_reducible rfl
                  rotate_left
                  · simp only [Act.put, List.setIfInBounds_toArray, List.set_cons_zero, List.set_cons_succ, i64_w, i32_w, hwi]
                    rfl
                  refine take_ (i := 1) (N := some 106) (v := ?_) (a' := ?_) #[true, true, true, false, false, false, true, true, false, false, false, false, false, false] rfl rfl (take_ofW HT_.out HW_.out (by kernel_rfl)) (fun _ _ _ h => h) (Or.inl ⟨by rfl, ?_⟩) hHeld ?_ ?_
                  rotate_left
                  · rintro w' ⟨s0, s1, s2⟩
                    go_simp
                    with_reducible rfl
                  rotate_left
                  · simp only [Act.put, List.setIfInBounds_toArray, List.set_cons_zero, List.set_cons_succ, i64_w, i32_w, hwi]
                    rfl
                  refine pure_ (i := 3) (N := some 108) (v := ?_) (a' := ?_) #[true, true, true, true, false, false, true, true, false, false, false, false, false, false] rfl rfl (any_of HT_.out (by kernel_rfl)) (fun _ _ _ h => h) (Or.inl ⟨by rfl, ?_⟩) ?_ ?_
                  rotate_left
                  · intro w'
                    go_simp
                    with_reducible rfl
                  rotate_left
                  · simp only [Act.put, List.setIfInBounds_toArray, List.set_cons_zero, List.set_cons_succ, i64_w, i32_w, hwi]
                    rfl
                  refine take_ (i := 4) (N := some 109) (v := ?_) (a' := ?_) #[true, true, true, true, true, false, true, true, false, false, false, false, false, false] rfl rfl (take_ofW HT_.out HW_.out (by kernel_rfl)) (fun _ _ _ h => h) (Or.inl ⟨by rfl, ?_⟩) hHeld ?_ ?_
                  rotate_left
                  · rintro w' ⟨s0, s1, s2⟩
                    go_simp
                    with_reducible rfl
                  rotate_left
                  · simp only [Act.put, List.setIfInBounds_toArray, List.set_cons_zero, List.set_cons_succ, i64_w, i32_w, hwi]
                    rfl
                  refine take_ (i := 5) (N := some 110) (v := ?_) (a' := ?_) #[true, true, true, true, true, true, true, true, false, false, false, false, false, false] rfl rfl (take_ofW HT_.out HW_.out (by kernel_rfl)) (fun _ _ _ h => h) (Or.inl ⟨by rfl, ?_⟩) hHeld ?_ ?_
                  rotate_left
                  · rintro w' ⟨s0, s1, s2⟩
                    go_simp
                    with_reducible rfl
                  rotate_left
                  · simp only [Act.put, List.setIfInBounds_toArray, List.set_cons_zero, List.set_cons_succ, i64_w, i32_w, hwi]
                    rfl
                  refine pure_ (i := 8) (N := some 113) (v := ?_) (a' := ?_) #[true, true, true, true, true, true, true, true, true, false, false, false, false, false] rfl rfl (any_of HT_.out (by kernel_rfl)) (fun _ _ _ h => h) (Or.inl ⟨by rfl, ?_⟩) ?_ ?_
                  rotate_left
                  · intro w'
                    go_simp
                    with_reducible rfl
                  rotate_left
                  · simp only [Act.put, List.setIfInBounds_toArray, List.set_cons_zero, List.set_cons_succ, i64_w, i32_w, hwi]
                    rfl
                  refine take_ (i := 9) (N := some 114) (v := ?_) (a' := ?_) #[true, true, true, true, true, true, true, true, true, true, false, false, false, false] rfl rfl (take_ofW HT_.out HW_.out (by kernel_rfl)) (fun _ _ _ h => h) (Or.inl ⟨by rfl, ?_⟩) hHeld ?_ ?_
                  rotate_left
                  · rintro w' ⟨s0, s1, s2⟩
                    go_simp
                    with_reducible rfl
                  rotate_left
                  · simp only [Act.put, List.setIfInBounds_toArray, List.set_cons_zero, List.set_cons_succ, i64_w, i32_w, hwi]
                    rfl
                  refine pure_ (i := 10) (N := some 115) (v := ?_) (a' := ?_) #[true, true, true, true, true, true, true, true, true, true, true, false, false, false] rfl rfl (any_of HT_.out (by kernel_rfl)) (fun _ _ _ h => h) (Or.inl ⟨by rfl, ?_⟩) ?_ ?_
                  rotate_left
                  · intro w'
                    go_simp
                    with_reducible rfl
                  rotate_left
                  · simp only [Act.put, List.setIfInBounds_toArray, List.set_cons_zero, List.set_cons_succ, i64_w, i32_w, hwi]
                    rfl
                  refine one_ (i := 11) (N := some 116) #[true, true, true, true, true, true, true, true, true, true, true, true, false, false] rfl rfl (one_of HT_.out (by kernel_rfl)) (by decide) (fun K hK => ?_)
                  refine Kd.R_lit_step k54 (w0 := wl) wl.heap.size 54 (by rfl) (N := 116) rfl (xs := [⟨p, q⟩]) (inner := [.int .i64 p, .int .i64 q]) (ok := fun _ => True) (okp := fun _ => False) ?hr5 (Reps.c2 (k54_mkM _ _ _ ⟨p, q⟩) (Reps.none _ _)) (fun _ h => h.elim) trivial HB4.out HB4.out.size (by simp) ?_
                  (case hr5 => first | (go_simp; done) | (go_simp; rfl))
                  intro v116 w5 ho hb hg hnew
                  replace hg : w4.grownBy w5 none := hg
                  have hS0 := cell_grown hg HK4.out (by simp)
                  have hS1 := cell_grown hg HX4.out (by simp)
                  have hS2 := cell_grown hg HY4.out (by simp)
                  have HO5 := Aside0.mk (Kd.R_grown HO4.out hg (by simp))
                  have HB5 := Aside0.mk hb
                  obtain ⟨A116, c116, e116⟩ := Kd.R_slice ho
                  subst e116
                  have HO116 := Aside0.mk ho
                  clear ho hb hg hnew
                  refine hK.out _ _ ⟨hS0, hS1, hS2⟩ (fun hHeld => ?_)
                  clear hK K
                  refine norm_ (a' := ?_) ?_ ?_
                  rotate_left
                  · show Act.put _ (some 116) _ = _
                    simp only [Act.put, List.setIfInBounds_toArray, List.set_cons_zero, List.set_cons_succ, i64_w, i32_w, hwi]
                    rfl
                  refine last_ (i := 12) (N := some 117) #[true, true, true, true, true, true, true, true, true, true, true, true, true, false] rfl rfl (one_of HT_.out (by kernel_rfl)) (by decide) (fun K hK => ?_)
                  refine Kd.R_append_rows_step k54 (w0 := wl) wl.heap.size (by rfl) (.tmp 105) (.tmp 116) 46 54 (.agg #[.int .i64 0, .int .i64 0]) 16 rfl Try.underlying46 info54 rfl (by decide) (by omega) (.slice A14 L c14) o' [⟨p, q⟩] _ _ _ (fun _ => True) (fun _ => False) rfl rfl HO5.out (Kd.R_reads' HO116.out).2.2 K54_M (fun _ h => h.elim) (fun _ _ => trivial) HB5.out HB5.out.size ?aL5 ?_
                  (case aL5 => simp only [List.length_cons, List.length_nil]; have := HOL.out; have := HIL.out; omega)
                  intro v117 w6_ ho hb hg hat
                  have HO6 := Aside0.mk ho
                  have HBz := Aside0.mk hb
                  clear ho hb hg hat
                  refine hK.out _ _ ?_
                  clear hK K
                  refine norm_ (a' := ?_) ?_ ?_
                  rotate_left
                  · show Act.put _ (some 117) _ = _
                    simp only [Act.put, List.setIfInBounds_toArray, List.set_cons_zero, List.set_cons_succ, i64_w, i32_w, hwi]
                    rfl
                  refine pure_ (i := 13) (N := some 14) (v := ?_) (a' := ?_) #[true, true, true, true, true, true, true, true, true, true, true, true, true, true] rfl rfl (any_of HT_.out (by kernel_rfl)) (fun _ _ _ h => h) (Or.inl ⟨by rfl, ?_⟩) ?_ ?_
                  rotate_left
                  · intro w'
                    go_simp
                    with_reducible rfl
                  rotate_left
                  · simp only [Act.put, List.setIfInBounds_toArray, List.set_cons_zero, List.set_cons_succ, i64_w, i32_w, hwi]
                    rfl
                  refine done_ (done_of HT_.out (by kernel_rfl)) ?_
                  go_upto_region 19 with (fail)
                  go_wp2
                  go_roundw
                  case measure => rw [HWI.out]; exact meas2 HI1.out HLT.out
                  case rel => exact ⟨i1, by rw [HWI.out], ⟨HLT.out⟩, ⟨by rw [HN.out, outNext_new _ _ _ HNE.out]; exact HO6.out⟩, HBz⟩
                · obtain ⟨m, hm⟩ : ∃ m, L = m + 1 := ⟨L - 1, by omega⟩
                  have hoL := HL.out
                  obtain ⟨go_, capo, hv, hgb, hgl, cellso, hclo⟩ := Kd.R_form HO1.out (by omega)
                  injection hv with hA hn hc
                  subst hA hc
                  have HRO := Aside0.mk (Kd.R_reads' HO1.out)
                  obtain ⟨_, ea, hl0, hl1⟩ := at_T54 HRO.out.2.2 (m : Int) (by omega) (by omega)
                  cases ea
                  rw [add_plain, Int.toNat_natCast] at hl0 hl1
                  obtain ⟨lt, hlt2⟩ : ∃ x, (rd_T54 o' (m : Int)).f1 = x := ⟨_, rfl⟩
                  obtain ⟨lf, hlf⟩ : ∃ x, (rd_T54 o' (m : Int)).f0 = x := ⟨_, rfl⟩
                  rw [hlt2] at hl1
                  rw [hlf] at hl0
                  have HL0 : Aside0 (w1.cell? ⟨go_, m * 2, none⟩ = some (.int .i64 lf)) := ⟨by simpa using hl0⟩
                  have HL1 : Aside0 (w1.cell? ⟨go_, m * 2 + 1, none⟩ = some (.int .i64 lt)) := ⟨by simpa using hl1⟩
                  have e2_ : decide (0 < (L : Int)) = true := decide_eq_true (by omega)
                  have e2n_ : decide (0 < L) = true := decide_eq_true (by omega)
                  have p3 : ((0 : Int) ≤ (m : Int)) = True := eq_true (by omega)
                  have q3 : ((m : Int) < (L : Int)) = True := eq_true (by omega)
                  have HLM := Aside0.mk hm
                  have HWM : Aside0 (wrap64 ((L : Int) - 1) = (m : Int)) := ⟨by rw [hm]; exact wrap_pred m (by have := HOL.out; have := HIL.out; omega)⟩
                  have HLT2 := Aside0.mk hlt2
                  have HLF := Aside0.mk hlf
                  have HGB := Aside0.mk hgb
                  clear hl0 hl1 hlt2 hlf hm hoL hgb hgl hclo hn hL0
                  obtain ⟨b, hb⟩ : ∃ b : Bool, (lt == p) = b := ⟨_, rfl⟩
                  have HBQ := Aside0.mk hb
                  have hwm := HWM.out
                  refine start_ (n := 15) (S := fun w' => w'.cell? ⟨bb, 0, none⟩ = some (.slice (some ⟨gp, 0, none⟩) pl.length cp) ∧ w'.cell? ⟨gp, i, none⟩ = some (.int .i64 p) ∧ w'.cell? ⟨go_, m * 2 + 1, none⟩ = some (.int .i64 lt)) (ds := []) #[false, false, false, false, false, false, false, false, false, false, false, false, false, false, false] (by kernel_rfl) rfl rfl ⟨HK1.out, HX1.out, HL1.out⟩ (fun hHeld => ?_)
                  refine with_tabW hadd.tab22 hadd.bits22 (fun HT_ HW_ => ?_)
                  have HX3 : Aside0 (w1.drew.cell? ⟨gp, i, none⟩ = some (.int .i64 p)) := ⟨HX1.out⟩
                  have HY3 : Aside0 (w1.drew.cell? ⟨gp, i1, none⟩ = some (.int .i64 q)) := ⟨HY1.out⟩
                  have HK3 : Aside0 (w1.drew.cell? ⟨bb, 0, none⟩ = some (.slice (some ⟨gp, 0, none⟩) pl.length cp)) := ⟨HK1.out⟩
                  have HO3 := Aside0.mk (Kd.R_drew HO1.out)
                  have HB3i := Aside0.mk (below_drew1 HB1i.out)
                  have HL03 : Aside0 (w1.drew.cell? ⟨go_, m * 2, none⟩ = some (.int .i64 lf)) := ⟨HL0.out⟩
                  have HL13 : Aside0 (w1.drew.cell? ⟨go_, m * 2 + 1, none⟩ = some (.int .i64 lt)) := ⟨HL1.out⟩
                  generalize w1.drew = w3 at HX3 HY3 HK3 HO3 HB3i HL03 HL13 hHeld ⊢
                  refine pure_ (i := 0) (N := some 80) (v := ?_) (a' := ?_) #[true, false, false, false, false, false, false, false, false, false, false, false, false, false, false] rfl rfl (any_of HT_.out (by kernel_rfl)) (fun _ _ _ h => h) (Or.inl ⟨by rfl, ?_⟩) ?_ ?_
                  rotate_left
                  · intro w'
                    go_simp
                    with_reducible rfl
                  rotate_left
                  · simp only [Act.put, List.setIfInBounds_toArray, List.set_cons_zero, List.set_cons_succ, i64_w, i32_w, hwm]
                    rfl
                  refine pure_ (i := 1) (N := some 81) (v := ?_) (a' := ?_) #[true, true, false, false, false, false, false, false, false, false, false, false, false, false, false] rfl rfl (any_of HT_.out (by kernel_rfl)) (fun _ _ _ h => h) (Or.inl ⟨by rfl, ?_⟩) ?_ ?_
                  rotate_left
                  · intro w'
                    go_simp
                    with_reducible rfl
                  rotate_left
                  · simp only [Act.put, List.setIfInBounds_toArray, List.set_cons_zero, List.set_cons_succ, i64_w, i32_w, hwm]
                    rfl
                  refine pure_ (i := 2) (N := some 82) (v := ?_) (a' := ?_) #[true, true, true, false, false, false, false, false, false, false, false, false, false, false, false] rfl rfl (any_of HT_.out (by kernel_rfl)) (fun _ _ _ h => h) (Or.inl ⟨by rfl, ?_⟩) ?_ ?_
                  rotate_left
                  · intro w'
                    go_simp
                    with_reducible rfl
                  rotate_left
                  · simp only [Act.put, List.setIfInBounds_toArray, List.set_cons_zero, List.set_cons_succ, i64_w, i32_w, hwm]
                    rfl
                  refine pure_ (i := 3) (N := some 83) (v := ?_) (a' := ?_) #[true, true, true, true, false, false, false, false, false, false, false, false, false, false, false] rfl rfl (any_of HT_.out (by kernel_rfl)) (fun _ _ _ h => h) (Or.inl ⟨by rfl, ?_⟩) ?_ ?_
                  rotate_left
                  · intro w'
                    go_simp
                    with_reducible rfl
                  rotate_left
                  · simp only [Act.put, List.setIfInBounds_toArray, List.set_cons_zero, List.set_cons_succ, i64_w, i32_w, hwm]
                    rfl
                  refine pure_ (i := 4) (N := some 84) (v := ?_) (a' := ?_) #[true, true, true, true, true, false, false, false, false, false, false, false, false, false, false] rfl rfl (any_of HT_.out (by kernel_rfl)) (fun _ _ _ h => h) (Or.inl ⟨by rfl, ?_⟩) ?_ ?_
                  rotate_left
                  · intro w'
                    go_simp
                    with_reducible rfl
                  rotate_left
                  · simp only [Act.put, List.setIfInBounds_toArray, List.set_cons_zero, List.set_cons_succ, i64_w, i32_w, hwm]
                    rfl
                  refine pure_ (i := 5) (N := some 85) (v := ?_) (a' := ?_) #[true, true, true, true, true, true, false, false, false, false, false, false, false, false, false] rfl rfl (any_of HT_.out (by kernel_rfl)) (fun _ _ _ h => h) (Or.inl ⟨by rfl, ?_⟩) ?_ ?_
                  rotate_left
                  · intro w'
                    go_simp
                    with_reducible rfl
                  rotate_left
                  · simp only [Act.put, List.setIfInBounds_toArray, List.set_cons_zero, List.set_cons_succ, i64_w, i32_w, hwm]
                    rfl
                  refine pure_ (i := 6) (N := some 86) (v := ?_) (a' := ?_) #[true, true, true, true, true, true, true, false, false, false, false, false, false, false, false] rfl rfl (any_of HT_.out (by kernel_rfl)) (fun _ _ _ h => h) (Or.inl ⟨by rfl, ?_⟩) ?_ ?_
                  rotate_left
                  · intro w'
                    go_simp
                    with_reducible rfl
                  rotate_left
                  · simp only [Act.put, List.setIfInBounds_toArray, List.set_cons_zero, List.set_cons_succ, i64_w, i32_w, hwm]
                    rfl
                  refine pure_ (i := 7) (N := some 87) (v := ?_) (a' := ?_) #[true, true, true, true, true, true, true, true, false, false, false, false, false, false, false] rfl rfl (any_of HT_.out (by kernel_rfl)) (fun _ _ _ h => h) (Or.inl ⟨by rfl, ?_⟩) ?_ ?_
                  rotate_left
                  · intro w'
                    go_simp
                    with_reducible rfl
                  rotate_left
                  · simp only [Act.put, List.setIfInBounds_toArray, List.set_cons_zero, List.set_cons_succ, i64_w, i32_w, hwm]
                    rfl
                  refine pure_ (i := 10) (N := some 90) (v := ?_) (a' := ?_) #[true, true, true, true, true, true, true, true, false, false, true, false, false, false, false] rfl rfl (any_of HT_.out (by kernel_rfl)) (fun _ _ _ h => h) (Or.inl ⟨by rfl, ?_⟩) ?_ ?_
                  rotate_left
                  · intro w'
                    go_simp
                    with_reducible rfl
                  rotate_left
                  · simp only [Act.put, List.setIfInBounds_toArray, List.set_cons_zero, List.set_cons_succ, i64_w, i32_w, hwm]
                    rfl
                  refine take_ (i := 8) (N := some 88) (v := ?_) (a' := ?_) #[true, true, true, true, true, true, true, true, true, false, true, false, false, false, false] rfl rfl (take_ofW HT_.out HW_.out (by kernel_rfl)) (fun _ _ _ h => h) (Or.inl ⟨by rfl, ?_⟩) hHeld ?_ ?_
                  rotate_left
                  · rintro w' ⟨s0, s1, s2⟩
                    go_simp
                    with_reducible rfl
                  rotate_left
                  · simp only [Act.put, List.setIfInBounds_toArray, List.set_cons_zero, List.set_cons_succ, i64_w, i32_w, hwm]
                    rfl
                  refine take_ (i := 9) (N := some 89) (v := ?_) (a' := ?_) #[true, true, true, true, true, true, true, true, true, true, true, false, false, false, false] rfl rfl (take_ofW HT_.out HW_.out (by kernel_rfl)) (fun _ _ _ h => h) (Or.inl ⟨by rfl, ?_⟩) hHeld ?_ ?_
                  rotate_left
                  · rintro w' ⟨s0, s1, s2⟩
                    go_simp
                    with_reducible rfl
                  rotate_left
                  · simp only [Act.put, List.setIfInBounds_toArray, List.set_cons_zero, List.set_cons_succ, i64_w, i32_w, hwm]
                    rfl
                  refine pure_ (i := 11) (N := some 91) (v := ?_) (a' := ?_) #[true, true, true, true, true, true, true, true, true, true, true, true, false, false, false] rfl rfl (any_of HT_.out (by kernel_rfl)) (fun _ _ _ h => h) (Or.inl ⟨by rfl, ?_⟩) ?_ ?_
                  rotate_left
                  · intro w'
                    go_simp
                    with_reducible rfl
                  rotate_left
                  · simp only [Act.put, List.setIfInBounds_toArray, List.set_cons_zero, List.set_cons_succ, i64_w, i32_w, hwm]
                    rfl
                  refine take_ (i := 12) (N := some 92) (v := ?_) (a' := ?_) #[true, true, true, true, true, true, true, true, true, true, true, true, true, false, false] rfl rfl (take_ofW HT_.out HW_.out (by kernel_rfl)) (fun _ _ _ h => h) (Or.inl ⟨by rfl, ?_⟩) hHeld ?_ ?_
                  rotate_left
                  · rintro w' ⟨s0, s1, s2⟩
                    go_simp
                    with_reducible rfl
                  rotate_left
                  · simp only [Act.put, List.setIfInBounds_toArray, List.set_cons_zero, List.set_cons_succ, i64_w, i32_w, hwm]
                    rfl
                  refine pure_ (i := 13) (N := some 93) (v := ?_) (a' := ?_) #[true, true, true, true, true, true, true, true, true, true, true, true, true, true, false] rfl rfl (any_of HT_.out (by kernel_rfl)) (fun _ _ _ h => h) (Or.inl ⟨by rfl, ?_⟩) ?_ ?_
                  rotate_left
                  · intro w'
                    go_simp
                    with_reducible rfl
                  rotate_left
                  · simp only [Act.put, List.setIfInBounds_toArray, List.set_cons_zero, List.set_cons_succ, i64_w, i32_w, hwm]
                    rfl
                  refine pure_ (i := 14) (N := some 94) (v := ?_) (a' := ?_) #[true, true, true, true, true, true, true, true, true, true, true, true, true, true, true] rfl rfl (any_of HT_.out (by kernel_rfl)) (fun _ _ _ h => h) (Or.inl ⟨by rfl, ?_⟩) ?_ ?_
                  rotate_left
                  · intro w'
                    go_simp
                    with_reducible rfl
                  rotate_left
                  · simp only [Act.put, List.setIfInBounds_toArray, List.set_cons_zero, List.set_cons_succ, i64_w, i32_w, hwm]
                    rfl
                  refine done_ (done_of HT_.out (by kernel_rfl)) ?_
                  cases b with
                  | true =>
                    have hkb3 := HK3.out
                    have hy3 := HY3.out
                    obtain ⟨hR6, hfz, hbg⟩ := put54 q HO3.out (by simp at q3; omega) HL03.out HL13.out
                    have HO6 := Aside0.mk hR6
                    have HBG := Aside0.mk hbg
                    clear hR6 hbg
                    go_wp2
                    go_roundw
                    case measure => rw [HWI.out]; exact meas2 HI1.out HLT.out
                    case rel => exact ⟨i1, by rw [HWI.out], ⟨HLT.out⟩, ⟨by rw [HN.out, outNext_old p q o' m (HL.out.trans HLM.out) (HLT2.out.trans (by simpa using HBQ.out)), HLF.out]; exact HO6.out⟩, ⟨HB3i.out.setCell HBG.out _⟩⟩
                  | false =>
                    have HNE : Aside0 (¬ (0 < o'.length ∧ (rd_T54 o' ((o'.length - 1 : Nat) : Int)).f1 = p)) := ⟨fun h_ => by
                      have h1 := h_.2
                      have e : o'.length - 1 = m := by have := HL.out; have := HLM.out; omega
                      rw [e, HLT2.out] at h1
                      have h2 := HBQ.out
                      rw [h1] at h2
                      simp at h2⟩
                    go_upto_region 24 with (fail)
                    refine start_ (n := 14) (S := fun w' => w'.cell? ⟨bb, 0, none⟩ = some (.slice (some ⟨gp, 0, none⟩) pl.length cp) ∧ w'.cell? ⟨gp, i, none⟩ = some (.int .i64 p) ∧ w'.cell? ⟨gp, i1, none⟩ = some (.int .i64 q)) (ds := [12]) #[false, false, false, false, false, false, false, false, false, false, false, false, false, false] (by kernel_rfl) rfl rfl ⟨HK3.out, HX3.out, HY3.out⟩ (fun hHeld => ?_)
                    refine with_tabW hadd.tab24 hadd.bits24 (fun HT_ HW_ => ?_)
                    have HX4 : Aside0 (w3.drew.cell? ⟨gp, i, none⟩ = some (.int .i64 p)) := ⟨HX3.out⟩
                    have HY4 : Aside0 (w3.drew.cell? ⟨gp, i1, none⟩ = some (.int .i64 q)) := ⟨HY3.out⟩
                    have HK4 : Aside0 (w3.drew.cell? ⟨bb, 0, none⟩ = some (.slice (some ⟨gp, 0, none⟩) pl.length cp)) := ⟨HK3.out⟩
                    have HO4 := Aside0.mk (Kd.R_drew HO3.out)
                    have HB4 := Aside0.mk (below_drew1 HB3i.out)
                    generalize w3.drew = w4 at HX4 HY4 HK4 HO4 HB4 hHeld ⊢
                    refine pure_ (i := 0) (N := some 105) (v := ?_) (a' := ?_) #[true, false, false, false, false, false, false, false, false, false, false, false, false, false] rfl rfl (any_of HT_.out (by kernel_rfl)) (fun _ _ _ h => h) (Or.inl ⟨by rfl, ?_⟩) ?_ ?_
                    rotate_left
                    · intro w'
                      go_simp
                      with_reducible rfl
                    rotate_left
                    · simp only [Act.put, List.setIfInBounds_toArray, List.set_cons_zero, List.set_cons_succ, i64_w, i32_w, hwi]
                      rfl
                    refine pure_ (i := 2) (N := some 107) (v := ?_) (a' := ?_) #[true, false, true, false, false, false, false, false, false, false, false, false, false, false] rfl rfl (any_of HT_.out (by kernel_rfl)) (fun _ _ _ h => h) (Or.inl ⟨by rfl, ?_⟩) ?_ ?_
                    rotate_left
                    · intro w'
                      go_simp
                      with_reducible rfl
                    rotate_left
                    · simp only [Act.put, List.setIfInBounds_toArray, List.set_cons_zero, List.set_cons_succ, i64_w, i32_w, hwi]
                      rfl
                    refine pure_ (i := 6) (N := some 111) (v := ?_) (a' := ?_) #[true, false, true, false, false, false, true, false, false, false, false, false, false, false] rfl rfl (any_of HT_.out (by kernel_rfl)) (fun _ _ _ h => h) (Or.inl ⟨by rfl, ?_⟩) ?_ ?_
                    rotate_left
                    · intro w'
                      go_simp
                      with_reducible rfl
                    rotate_left
                    · simp only [Act.put, List.setIfInBounds_toArray, List.set_cons_zero, List.set_cons_succ, i64_w, i32_w, hwi]
                      rfl
                    refine pure_ (i := 7) (N := some 112) (v := ?_) (a' := ?_) #[true, false, true, false, false, false, true, true, false, false, false, false, false, false] rfl rfl (any_of HT_.out (by kernel_rfl)) (fun _ _ _ h => h) (Or.inl ⟨by rfl, ?_⟩) ?_ ?_
                    rotate_left
                    · intro w'
                      go_simp
                      with_reducible rfl
                    rotate_left
                    · simp only [Act.put, List.setIfInBounds_toArray, List.set_cons_zero, List.set_cons_succ, i64_w, i32_w, hwi]
                      rfl
                    refine take_ (i := 1) (N := some 106) (v := ?_) (a' := ?_) #[true, true, true, false, false, false, true, true, false, false, false, false, false, false] rfl rfl (take_ofW HT_.out HW_.out (by kernel_rfl)) (fun _ _ _ h => h) (Or.inl ⟨by rfl, ?_⟩) hHeld ?_ ?_
                    rotate_left
                    · rintro w' ⟨s0, s1, s2⟩
                      go_simp
                      with_reducible rfl
                    rotate_left
                    · simp only [Act.put, List.setIfInBounds_toArray, List.set_cons_zero, List.set_cons_succ, i64_w, i32_w, hwi]
                      rfl
                    refine pure_ (i := 3) (N := some 108) (v := ?_) (a' := ?_) #[true, true, true, true, false, false, true, true, false, false, false, false, false, false] rfl rfl (any_of HT_.out (by kernel_rfl)) (fun _ _ _ h => h) (Or.inl ⟨by rfl, ?_⟩) ?_ ?_
                    rotate_left
                    · intro w'
                      go_simp
                      with_reducible rfl
                    rotate_left
                    · simp only [Act.put, List.setIfInBounds_toArray, List.set_cons_zero, List.set_cons_succ, i64_w, i32_w, hwi]
                      rfl
                    refine take_ (i := 4) (N := some 109) (v := ?_) (a' := ?_) #[true, true, true, true, true, false, true, true, false, false, false, false, false, false] rfl rfl (take_ofW HT_.out HW_.out (by kernel_rfl)) (fun _ _ _ h => h) (Or.inl ⟨by rfl, ?_⟩) hHeld ?_ ?_
                    rotate_left
                    · rintro w' ⟨s0, s1, s2⟩
                      go_simp
                      with_reducible rfl
                    rotate_left
                    · simp only [Act.put, List.setIfInBounds_toArray, List.set_cons_zero, List.set_cons_succ, i64_w, i32_w, hwi]
                      rfl
                    refine take_ (i := 5) (N := some 110) (v := ?_) (a' := ?_) #[true, true, true, true, true, true, true, true, false, false, false, false, false, false] rfl rfl (take_ofW HT_.out HW_.out (by kernel_rfl)) (fun _ _ _ h => h) (Or.inl ⟨by rfl, ?_⟩) hHeld ?_ ?_
                    rotate_left
                    · rintro w' ⟨s0, s1, s2⟩
                      go_simp
                      with_reducible rfl
                    rotate_left
                    · simp only [Act.put, List.setIfInBounds_toArray, List.set_cons_zero, List.set_cons_succ, i64_w, i32_w, hwi]
                      rfl
                    refine pure_ (i := 8) (N := some 113) (v := ?_) (a' := ?_) #[true, true, true, true, true, true, true, true, true, false, false, false, false, false] rfl rfl (any_of HT_.out (by kernel_rfl)) (fun _ _ _ h => h) (Or.inl ⟨by rfl, ?_⟩) ?_ ?_
                    rotate_left
                    · intro w'
                      go_simp
                      with_reducible rfl
                    rotate_left
                    · simp only [Act.put, List.setIfInBounds_toArray, List.set_cons_zero, List.set_cons_succ, i64_w, i32_w, hwi]
                      rfl
                    refine take_ (i := 9) (N := some 114) (v := ?_) (a' := ?_) #[true, true, true, true, true, true, true, true, true, true, false, false, false, false] rfl rfl (take_ofW HT_.out HW_.out (by kernel_rfl)) (fun _ _ _ h => h) (Or.inl ⟨by rfl, ?_⟩) hHeld ?_ ?_
                    rotate_left
                    · rintro w' ⟨s0, s1, s2⟩
                      go_simp
                      with_reducible rfl
                    rotate_left
                    · simp only [Act.put, List.setIfInBounds_toArray, List.set_cons_zero, List.set_cons_succ, i64_w, i32_w, hwi]
                      rfl
                    refine pure_ (i := 10) (N := some 115) (v := ?_) (a' := ?_) #[true, true, true, true, true, true, true, true, true, true, true, false, false, false] rfl rfl (any_of HT_.out (by kernel_rfl)) (fun _ _ _ h => h) (Or.inl ⟨by rfl, ?_⟩) ?_ ?_
                    rotate_left
                    · intro w'
                      go_simp
                      with_reducible rfl
                    rotate_left
                    · simp only [Act.put, List.setIfInBounds_toArray, List.set_cons_zero, List.set_cons_succ, i64_w, i32_w, hwi]
                      rfl
                    refine one_ (i := 11) (N := some 116) #[true, true, true, true, true, true, true, true, true, true, true, true, false, false] rfl rfl (one_of HT_.out (by kernel_rfl)) (by decide) (fun K hK => ?_)
                    refine Kd.R_lit_step k54 (w0 := wl) wl.heap.size 54 (by rfl) (N := 116) rfl (xs := [⟨p, q⟩]) (inner := [.int .i64 p, .int .i64 q]) (ok := fun _ => True) (okp := fun _ => False) ?hr6 (Reps.c2 (k54_mkM _ _ _ ⟨p, q⟩) (Reps.none _ _)) (fun _ h => h.elim) trivial HB4.out HB4.out.size (by simp) ?_
                    (case hr6 => first | (go_simp; done) | (go_simp; rfl))
                    intro v116 w5 ho hb hg hnew
                    replace hg : w4.grownBy w5 none := hg
                    have hS0 := cell_grown hg HK4.out (by simp)
                    have hS1 := cell_grown hg HX4.out (by simp)
                    have hS2 := cell_grown hg HY4.out (by simp)
                    have HO5 := Aside0.mk (Kd.R_grown HO4.out hg (by simp))
                    have HB5 := Aside0.mk hb
                    obtain ⟨A116, c116, e116⟩ := Kd.R_slice ho
                    subst e116
                    have HO116 := Aside0.mk ho
                    clear ho hb hg hnew
                    refine hK.out _ _ ⟨hS0, hS1, hS2⟩ (fun hHeld => ?_)
                    clear hK K
                    refine norm_ (a' := ?_) ?_ ?_
                    rotate_left
                    · show Act.put _ (some 116) _ = _
                      simp only [Act.put, List.setIfInBounds_toArray, List.set_cons_zero, List.set_cons_succ, i64_w, i32_w, hwi]
                      rfl
                    refine last_ (i := 12) (N := some 117) #[true, true, true, true, true, true, true, true, true, true, true, true, true, false] rfl rfl (one_of HT_.out (by kernel_rfl)) (by decide) (fun K hK => ?_)
                    refine Kd.R_append_rows_step k54 (w0 := wl) wl.heap.size (by rfl) (.tmp 105) (.tmp 116) 46 54 (.agg #[.int .i64 0, .int .i64 0]) 16 rfl Try.underlying46 info54 rfl (by decide) (by omega) (.slice (some ⟨go_, 0, none⟩) L c14) o' [⟨p, q⟩] _ _ _ (fun _ => True) (fun _ => False) rfl rfl HO5.out (Kd.R_reads' HO116.out).2.2 K54_M (fun _ h => h.elim) (fun _ _ => trivial) HB5.out HB5.out.size ?aL6 ?_
                    (case aL6 => simp only [List.length_cons, List.length_nil]; have := HOL.out; have := HIL.out; omega)
                    intro v117 w6_ ho hb hg hat
                    have HO6 := Aside0.mk ho
                    have HBz := Aside0.mk hb
                    clear ho hb hg hat
                    refine hK.out _ _ ?_
                    clear hK K
                    refine norm_ (a' := ?_) ?_ ?_
                    rotate_left
                    · show Act.put _ (some 117) _ = _
                      simp only [Act.put, List.setIfInBounds_toArray, List.set_cons_zero, List.set_cons_succ, i64_w, i32_w, hwi]
                      rfl
                    refine pure_ (i := 13) (N := some 14) (v := ?_) (a' := ?_) #[true, true, true, true, true, true, true, true, true, true, true, true, true, true] rfl rfl (any_of HT_.out (by kernel_rfl)) (fun _ _ _ h => h) (Or.inl ⟨by rfl, ?_⟩) ?_ ?_
                    rotate_left
                    · intro w'
                      go_simp
                      with_reducible rfl
                    rotate_left
                    · simp only [Act.put, List.setIfInBounds_toArray, List.set_cons_zero, List.set_cons_succ, i64_w, i32_w, hwi]
                      rfl
                    refine done_ (done_of HT_.out (by kernel_rfl)) ?_
                    go_upto_region 19 with (fail)
                    go_wp2
                    go_roundw
                    case measure => rw [HWI.out]; exact meas2 HI1.out HLT.out
                    case rel => exact ⟨i1, by rw [HWI.out], ⟨HLT.out⟩, ⟨by rw [HN.out, outNext_new _ _ _ HNE.out]; exact HO6.out⟩, HBz⟩
            · have hHH := HH.out
              have hi3 : i = pl.length - 1 := by have h1 := HJi.out; have h2 := HI1.out; omega
              have HOz : Aside0 (Kd.R k54 54 wr wl.heap.size (fun _ => True) u14 (outs a0 all pl (pl.length - 1))) := ⟨by rw [← hi3]; exact HOi.out⟩
              clear hi3
              have hol := outs_le a0 all pl (pl.length - 1)
              have hpl := HPL.out.1
              have e1_ : decide ((i1 : Int) < (pl.length : Int)) = false := decide_eq_false (by omega)
              have e1n_ : decide (i1 < pl.length) = false := decide_eq_false hlt
              obtain ⟨oo, hoo⟩ : ∃ x, outs a0 all pl (pl.length - 1) = x := ⟨_, rfl⟩
              rw [hoo] at HOz hHH hol
              obtain ⟨L, hL⟩ : ∃ L : Nat, oo.length = L := ⟨_, rfl⟩
              obtain ⟨A14, c14, e14⟩ := Kd.R_slice HOz.out
              rw [hL] at e14 hol
              subst e14
              have hwi := HWI.out
              have hL100 : L ≤ 100 := by omega
              clear hol hpl hoo hlt
              have HR14 := Aside0.mk (Kd.R_reads' HOz.out)
              have HL := Aside0.mk hL
              clear hL
              by_cases hL0 : L = 0
              · have hle : holeLast oo = (0, oo) := by unfold holeLast; rw [if_neg (fun h => by have := h.1; have := HL.out; omega)]
                rw [hle, if_neg (by simp only; have := HL.out; omega)] at hHH
                simp only [Option.some.injEq, Prod.mk.injEq] at hHH
                obtain ⟨rfl, rfl, rfl⟩ := hHH
                have e2_ : decide (0 < (L : Int)) = false := decide_eq_false (by omega)
                have e2n_ : decide (0 < L) = false := decide_eq_false (by omega)
                have e9_ : decide ((16 : Int) < ((L : Nat) : Int)) = false := decide_eq_false (by omega)
                have e9n_ : decide (16 < L) = false := decide_eq_false (by omega)
                clear hL0 hle
                go_wp2
                first | go_ret3 | skip
                rw [← HL.out]
                exact HPost.mk (o := oo) A14 c14 (by have := HR14.out.2.1; have := HL.out; omega) HR14.out.2.2 (below_then HBj.out HBj.out.size HBi.out)
              · obtain ⟨go_, capo, hv, hgb, hgl, cellso, hclo⟩ := Kd.R_form HOz.out (by have := HL.out; omega)
                injection hv with hA hn hc
                subst hA hc
                obtain ⟨_, ea, hl0, hl1⟩ := at_T54 HR14.out.2.2 (0 : Int) (by omega) (by omega)
                cases ea
                rw [add_plain] at hl0 hl1
                have hc0 : wr.cell? ⟨go_, 0, none⟩ = some (.int .i64 (rd_T54 oo 0).f0) := by simpa using hl0
                have hc1 : wr.cell? ⟨go_, 1, none⟩ = some (.int .i64 (rd_T54 oo 0).f1) := by simpa using hl1
                have e2_ : decide (0 < (L : Int)) = true := decide_eq_true (by omega)
                have e2n_ : decide (0 < L) = true := decide_eq_true (by omega)
                have q0 : ((0 : Int) < (L : Int)) = True := eq_true (by omega)
                have q0n : (0 < L) = True := eq_true (by omega)
                have hLp : 1 ≤ L := by omega
                clear hl0 hl1 hgb hgl hclo hn hL0
                by_cases hz : (rd_T54 oo 0).f0 = 0
                · have hle : holeLast oo = ((rd_T54 oo 0).f1, oo.drop 1) := by unfold holeLast; rw [if_pos ⟨by have := HL.out; omega, hz⟩]
                  rw [hle] at hHH
                  simp only at hHH
                  rw [hz] at hc0
                  have hdl : (oo.drop 1).length = L - 1 := by rw [List.length_drop, HL.out]
                  obtain ⟨i54, hi54, hz54⟩ := Option.map_eq_some_iff.1 info54
                  have hsz54 : i54.size = 2 := by simp only [Prod.mk.injEq] at hz54; exact hz54.2.1
                  clear hz54 hz hle
                  have hcut := cut_from (P := Try.prog) 46 54 .i64 Try.underlying46 hi54 2 hsz54 (some ⟨go_, 0, none⟩) L c14 (1 : Int) (by omega) (by omega)
                  have hCF := Kd.C_drop (m := 1) (c := c14) HR14.out.2.2 (by have := HL.out; omega) (by have := HR14.out.2.1; have := HL.out; omega)
                  rw [show k54.sz = 2 from rfl] at hCF
                  rw [show (1 : Int).toNat = 1 from rfl] at hcut
                  have HCF := Aside0.mk hCF
                  generalize (if c14 = 1 then (some (⟨go_, 0, none⟩ : Addr)) else (some (⟨go_, 0, none⟩ : Addr)).map (·.add (1 * 2))) = A2 at hcut HCF
                  clear hCF
                  obtain ⟨L1, hL1⟩ : ∃ L1 : Nat, L - 1 = L1 := ⟨_, rfl⟩
                  obtain ⟨C1, hC1⟩ : ∃ C1 : Nat, c14 - 1 = C1 := ⟨_, rfl⟩
                  have HLC : Aside0 ((oo.drop 1).length ≤ C1) := ⟨by have := HR14.out.2.1; have := HL.out; omega⟩
                  rw [hL1, hC1] at hcut
                  rw [hL1] at hdl
                  have HDL := Aside0.mk hdl
                  have hL1b : L1 ≤ 100 := by omega
                  clear hL1 hC1
                  have hbd := hdl
                  clear hdl
                  by_cases hbig : 16 < (oo.drop 1).length
                  · rw [if_pos hbig] at hHH
                    simp only [Option.some.injEq, Prod.mk.injEq] at hHH
                    obtain ⟨rfl, rfl, rfl⟩ := hHH
                    have e9_ : decide ((16 : Int) < ((L1 : Nat) : Int)) = true := decide_eq_true (by omega)
                    have e9n_ : decide (16 < L1) = true := decide_eq_true (by omega)
                    clear hbd hbig
                    go_wp2
                    first | go_ret3 | skip
                    exact HPost.mk (o := []) none 0 (Nat.le_refl _) ⟨rfl, by simp, fun h => absurd h (Nat.lt_irrefl 0)⟩ (below_then HBj.out HBj.out.size HBi.out)
                  · rw [if_neg hbig] at hHH
                    simp only [Option.some.injEq, Prod.mk.injEq] at hHH
                    obtain ⟨rfl, rfl, rfl⟩ := hHH
                    have e9_ : decide ((16 : Int) < ((L1 : Nat) : Int)) = false := decide_eq_false (by omega)
                    have e9n_ : decide (16 < L1) = false := decide_eq_false (by omega)
                    clear hbd hbig
                    go_wp2
                    first | go_ret3 | skip
                    rw [← HDL.out]
                    exact HPost.mk (o := (oo.drop 1)) A2 C1 HLC.out HCF.out (below_then HBj.out HBj.out.size HBi.out)
                · have hle : holeLast oo = (0, oo) := by unfold holeLast; rw [if_neg (fun h => hz h.2)]
                  rw [hle] at hHH
                  simp only at hHH
                  have ez_ : ((rd_T54 oo 0).f0 == 0) = false := beq_eq_false_iff_ne.2 hz
                  have hbd := HL.out
                  clear hle hz
                  by_cases hbig : 16 < oo.length
                  · rw [if_pos hbig] at hHH
                    simp only [Option.some.injEq, Prod.mk.injEq] at hHH
                    obtain ⟨rfl, rfl, rfl⟩ := hHH
                    have e9_ : decide ((16 : Int) < ((L : Nat) : Int)) = true := decide_eq_true (by omega)
                    have e9n_ : decide (16 < L) = true := decide_eq_true (by omega)
                    clear hbd hbig
                    go_wp2
                    first | go_ret3 | skip
                    exact HPost.mk (o := []) none 0 (Nat.le_refl _) ⟨rfl, by simp, fun h => absurd h (Nat.lt_irrefl 0)⟩ (below_then HBj.out HBj.out.size HBi.out)
                  · rw [if_neg hbig] at hHH
                    simp only [Option.some.injEq, Prod.mk.injEq] at hHH
                    obtain ⟨rfl, rfl, rfl⟩ := hHH
                    have e9_ : decide ((16 : Int) < ((L : Nat) : Int)) = false := decide_eq_false (by omega)
                    have e9n_ : decide (16 < L) = false := decide_eq_false (by omega)
                    clear hbd hbig
                    go_wp2
                    first | go_ret3 | skip
                    rw [← HL.out]
                    exact HPost.mk (o := oo) (some ⟨go_, 0, none⟩) c14 (by have := HR14.out.2.1; have := HL.out; omega) HR14.out.2.2 (below_then HBj.out HBj.out.size HBi.out)

end Go.Proofs.Ytjhmjgcebijmiaa.HHoleAdds
