/- Messages: begun, parts. -/
import Derived.Test.YtkghoodhgihokaaXMsgA
namespace Go.Proofs.Ytkghoodhgihokaa.Msg
open Go.RowKit Go.Lib Go.Proofs.YtkghoodhgihokaaW.PrintWords Go.Proofs.YtkghoodhgihokaaW.PrintLast Go.Proofs.YtkghoodhgihokaaW.PrintMore
set_option linter.unusedVariables false
set_option linter.unusedSimpArgs false
def begun.T1 : Bool × List (List Nat × List Nat) := (true, [([], []), ([0], [0]), ([1], [1]), ([2], [2]), ([], []), ([4], [4]), ([5], [5]), ([6, 3], [6]), ([3, 7], [3, 7]), ([8, 7, 0, 1, 2, 3, 4, 5, 6, 7, 8], [8])])
def begun.B1 : List Nat := [0, 1, 3, 7, 0, 16, 48, 127, 255, 511]
theorem begun.tab1 : rtab .any (opsOf Try.f41 1) = begun.T1 := by kernel_rfl
theorem begun.bits1 : waitsOk begun.T1.2 begun.B1 = true := by kernel_rfl
set_option maxHeartbeats 4000000 in
set_option maxRecDepth 100000 in
theorem begun_calls (b : Nat) (q : Rq) (w : World) : Calls Try.prog 41 #[.pointer (some ⟨b, 0, none⟩)] w fun e w' => ∃ v, e = .returned v ∧ kpv.R 78 w' w.heap.size (fun _ => True) v (begunV b q) ∧ Below w.heap.size w w' := by
  have HB := Aside0.mk (Below.refl w.heap.size w)
  go_enter Try.func41, Try.ntmps41
  go_upto_region 1 with fail
  refine start_ (n := 10) (S := fun w' => True) (ds := []) #[false, false, false, false, false, false, false, false, false, false] (by kernel_rfl) rfl rfl trivial (fun hHeld => ?_)
  refine with_tabW begun.tab1 begun.bits1 (fun HT_ HW_ => ?_)
  have HB := Aside0.mk (below_drew1 HB.out)
  generalize w.drew = wd at HB hHeld ⊢
  refine pure_ (i := 0) (N := some 3) (v := ?_) (a' := ?_) #[true, false, false, false, false, false, false, false, false, false] rfl rfl (any_of HT_.out (by kernel_rfl)) (fun _ _ _ h => h) (Or.inl ⟨by rfl, ?_⟩) ?_ ?_
  rotate_left
  · intro w'
    go_simp
    with_reducible rfl
  rotate_left
  · simp only [Act.put, List.setIfInBounds_toArray, List.set_cons_zero, List.set_cons_succ, i64_w, i32_w]
    rfl
  refine pure_ (i := 1) (N := some 4) (v := ?_) (a' := ?_) #[true, true, false, false, false, false, false, false, false, false] rfl rfl (any_of HT_.out (by kernel_rfl)) (fun _ _ _ h => h) (Or.inl ⟨by rfl, ?_⟩) ?_ ?_
  rotate_left
  · intro w'
    go_simp
    with_reducible rfl
  rotate_left
  · simp only [Act.put, List.setIfInBounds_toArray, List.set_cons_zero, List.set_cons_succ, i64_w, i32_w]
    rfl
  refine pure_ (i := 2) (N := some 5) (v := ?_) (a' := ?_) #[true, true, true, false, false, false, false, false, false, false] rfl rfl (any_of HT_.out (by kernel_rfl)) (fun _ _ _ h => h) (Or.inl ⟨by rfl, ?_⟩) ?_ ?_
  rotate_left
  · intro w'
    go_simp
    with_reducible rfl
  rotate_left
  · simp only [Act.put, List.setIfInBounds_toArray, List.set_cons_zero, List.set_cons_succ, i64_w, i32_w]
    rfl
  refine pure_ (i := 4) (N := some 7) (v := ?_) (a' := ?_) #[true, true, true, false, true, false, false, false, false, false] rfl rfl (any_of HT_.out (by kernel_rfl)) (fun _ _ _ h => h) (Or.inl ⟨by rfl, ?_⟩) ?_ ?_
  rotate_left
  · intro w'
    go_simp
    with_reducible rfl
  rotate_left
  · simp only [Act.put, List.setIfInBounds_toArray, List.set_cons_zero, List.set_cons_succ, i64_w, i32_w]
    rfl
  refine pure_ (i := 5) (N := some 8) (v := ?_) (a' := ?_) #[true, true, true, false, true, true, false, false, false, false] rfl rfl (any_of HT_.out (by kernel_rfl)) (fun _ _ _ h => h) (Or.inl ⟨by rfl, ?_⟩) ?_ ?_
  rotate_left
  · intro w'
    go_simp
    with_reducible rfl
  rotate_left
  · simp only [Act.put, List.setIfInBounds_toArray, List.set_cons_zero, List.set_cons_succ, i64_w, i32_w]
    rfl
  refine pure_ (i := 6) (N := some 9) (v := ?_) (a' := ?_) #[true, true, true, false, true, true, true, false, false, false] rfl rfl (any_of HT_.out (by kernel_rfl)) (fun _ _ _ h => h) (Or.inl ⟨by rfl, ?_⟩) ?_ ?_
  rotate_left
  · intro w'
    go_simp
    with_reducible rfl
  rotate_left
  · simp only [Act.put, List.setIfInBounds_toArray, List.set_cons_zero, List.set_cons_succ, i64_w, i32_w]
    rfl
  refine one_ (i := 3) (N := some 6) #[true, true, true, true, true, true, true, false, false, false] rfl rfl (one_of HT_.out (by kernel_rfl)) (by decide) (fun K hK => ?_)
  refine call_ 75 #[.int .i64 1, .pointer (some ⟨b, 0, none⟩)] (by rfl) rfl ?hr ?_
  (case hr => first | rfl | (go_simp; done) | (go_simp; rfl))
  refine (number_calls 1 b 0 _).mono ?_
  rintro e' w1 ⟨rfl, hb⟩
  refine ⟨_, rfl, ?_⟩
  have HB := Aside0.mk (HB.out.trans (hb.mono HB.out.size))
  clear hb
  refine hK.out _ _ trivial (fun hHeld => ?_)
  clear hK K
  refine norm_ (a' := ?_) ?_ ?_
  rotate_left
  · show Act.put _ (some 6) _ = _
    simp only [Act.put, List.setIfInBounds_toArray, List.set_cons_zero, List.set_cons_succ, i64_w, i32_w]
    rfl
  refine one_ (i := 7) (N := some 10) #[true, true, true, true, true, true, true, true, false, false] rfl rfl (one_of HT_.out (by kernel_rfl)) (by decide) (fun K hK => ?_)
  refine call_ 75 #[.int .i64 4, .pointer (some ⟨b, 1, none⟩)] (by rfl) rfl ?hr ?_
  (case hr => first | rfl | (go_simp; done) | (go_simp; rfl))
  refine (number_calls 4 b 1 _).mono ?_
  rintro e' w2 ⟨rfl, hb⟩
  refine ⟨_, rfl, ?_⟩
  have HB := Aside0.mk (HB.out.trans (hb.mono HB.out.size))
  clear hb
  refine hK.out _ _ trivial (fun hHeld => ?_)
  clear hK K
  refine norm_ (a' := ?_) ?_ ?_
  rotate_left
  · show Act.put _ (some 10) _ = _
    simp only [Act.put, List.setIfInBounds_toArray, List.set_cons_zero, List.set_cons_succ, i64_w, i32_w]
    rfl
  refine one_ (i := 8) (N := some 11) #[true, true, true, true, true, true, true, true, true, false] rfl rfl (one_of HT_.out (by kernel_rfl)) (by decide) (fun K hK => ?_)
  refine value_ (w1 := ?_) (v := ?_) (by rfl) rfl ?_ ?_
  rotate_left 2
  · go_simp
    constructor
    · rfl
    · rfl
  have HR_ := Aside0.mk (kpv_lit (begunV b q) w2 w.heap.size HB.out.size (by simp [begunV]))
  have HB := Aside0.mk (HB.out.alloc HB.out.size (.cells (List.flatMap Pv.cells (begunV b q)).toArray 78))
  refine hK.out _ _ trivial (fun hHeld => ?_)
  clear hK K
  refine norm_ (a' := ?_) ?_ ?_
  rotate_left
  · show Act.put _ (some 11) _ = _
    simp only [Act.put, List.setIfInBounds_toArray, List.set_cons_zero, List.set_cons_succ, i64_w, i32_w]
    rfl
  refine pure_ (i := 9) (N := some 2) (v := ?_) (a' := ?_) #[true, true, true, true, true, true, true, true, true, true] rfl rfl (any_of HT_.out (by kernel_rfl)) (fun _ _ _ h => h) (Or.inl ⟨by rfl, ?_⟩) ?_ ?_
  rotate_left
  · intro w'
    go_simp
    with_reducible rfl
  rotate_left
  · simp only [Act.put, List.setIfInBounds_toArray, List.set_cons_zero, List.set_cons_succ, i64_w, i32_w]
    rfl
  refine done_ (done_of HT_.out (by kernel_rfl)) ?_
  go_wp2
  go_ret
  exact ⟨_, rfl, HR_.out, HB.out⟩
def parts1.T1 : Bool × List (List Nat × List Nat) := (true, [([], []), ([0], [0]), ([1], [1]), ([2], [2]), ([], []), ([4], [4]), ([5], [5]), ([6, 3], [6]), ([], []), ([], []), ([8, 3, 7, 0, 1, 2, 3, 8, 9], [3, 8]), ([9, 7, 10, 0, 1, 2, 3, 4, 5, 6, 7, 8, 9, 10], [7, 9])])
def parts1.B1 : List Nat := [0, 1, 3, 7, 0, 16, 48, 127, 0, 0, 1023, 2047]
theorem parts1.tab1 : rtab .any (opsOf Try.f42 1) = parts1.T1 := by kernel_rfl
theorem parts1.bits1 : waitsOk parts1.T1.2 parts1.B1 = true := by kernel_rfl
def parts4.T4 : Bool × List (List Nat × List Nat) := (true, [([], []), ([0], [0]), ([1], [1]), ([2], [2]), ([], []), ([4], [4]), ([5], [5]), ([6, 3], [6]), ([3, 7], [3, 7]), ([8, 7, 0, 1, 2, 3, 4, 5, 6, 7, 8], [8])])
def parts4.B4 : List Nat := [0, 1, 3, 7, 0, 16, 48, 127, 255, 511]
theorem parts4.tab4 : rtab .any (opsOf Try.f42 4) = parts4.T4 := by kernel_rfl
theorem parts4.bits4 : waitsOk parts4.T4.2 parts4.B4 = true := by kernel_rfl
def parts8.T8 : Bool × List (List Nat × List Nat) := (true, [([], []), ([], []), ([], []), ([2], [2]), ([3], [3]), ([4], [4]), ([0, 1, 5], [0, 1, 5]), ([6, 5, 0, 1, 2, 3, 4, 5, 6], [6])])
def parts8.B8 : List Nat := [0, 0, 0, 4, 12, 28, 63, 127]
theorem parts8.tab8 : rtab .any (opsOf Try.f42 8) = parts8.T8 := by kernel_rfl
theorem parts8.bits8 : waitsOk parts8.T8.2 parts8.B8 = true := by kernel_rfl
def parts10.T10 : Bool × List (List Nat × List Nat) := (true, [([], []), ([], []), ([], []), ([2], [2]), ([3], [3]), ([4], [4]), ([0, 1, 5], [0, 1, 5]), ([6, 5, 0, 1, 2, 3, 4, 5, 6], [6])])
def parts10.B10 : List Nat := [0, 0, 0, 4, 12, 28, 63, 127]
theorem parts10.tab10 : rtab .any (opsOf Try.f42 10) = parts10.T10 := by kernel_rfl
theorem parts10.bits10 : waitsOk parts10.T10.2 parts10.B10 = true := by kernel_rfl
def parts18.T18 : Bool × List (List Nat × List Nat) := (true, [([], []), ([0], [0]), ([1], [1]), ([2], [2]), ([], []), ([4], [4]), ([5], [5]), ([6, 3], [6]), ([3, 7], [3, 7]), ([8, 7, 0, 1, 2, 3, 4, 5, 6, 7, 8], [8])])
def parts18.B18 : List Nat := [0, 1, 3, 7, 0, 16, 48, 127, 255, 511]
theorem parts18.tab18 : rtab .any (opsOf Try.f42 18) = parts18.T18 := by kernel_rfl
theorem parts18.bits18 : waitsOk parts18.T18.2 parts18.B18 = true := by kernel_rfl
set_option maxHeartbeats 8000000 in
set_option maxRecDepth 100000 in
theorem parts_calls (b : Nat) (q : Rq) (w : World) (hk : w.cell? ⟨b, 0, none⟩ = some (.int .i64 q.kind)) : Calls Try.prog 42 #[.pointer (some ⟨b, 0, none⟩)] w fun e w' => ∃ v, e = .returned v ∧ kpv.R 78 w' w.heap.size (fun _ => True) v (partsV b q) ∧ Below w.heap.size w w' := by
  have HB := Aside0.mk (Below.refl w.heap.size w)
  have HK := Aside0.mk hk
  have HKB := Aside0.mk (World.block_lt_of_cell? w _ hk)
  clear hk
  go_enter Try.func42, Try.ntmps42
  go_upto_region 1 with fail
  refine start_ (n := 12) (S := fun w' => True) (ds := [10, 11]) #[false, false, false, false, false, false, false, false, false, false, false, false] (by kernel_rfl) rfl rfl trivial (fun hHeld => ?_)
  refine with_tabW parts1.tab1 parts1.bits1 (fun HT_ HW_ => ?_)
  have HB := Aside0.mk (below_drew1 HB.out)
  generalize w.drew = wd at HB hHeld ⊢
  refine pure_ (i := 0) (N := some 5) (v := ?_) (a' := ?_) #[true, false, false, false, false, false, false, false, false, false, false, false] rfl rfl (any_of HT_.out (by kernel_rfl)) (fun _ _ _ h => h) (Or.inl ⟨by rfl, ?_⟩) ?_ ?_
  rotate_left
  · intro w'
    go_simp
    with_reducible rfl
  rotate_left
  · simp only [Act.put, List.setIfInBounds_toArray, List.set_cons_zero, List.set_cons_succ, i64_w, i32_w]
    rfl
  refine pure_ (i := 1) (N := some 6) (v := ?_) (a' := ?_) #[true, true, false, false, false, false, false, false, false, false, false, false] rfl rfl (any_of HT_.out (by kernel_rfl)) (fun _ _ _ h => h) (Or.inl ⟨by rfl, ?_⟩) ?_ ?_
  rotate_left
  · intro w'
    go_simp
    with_reducible rfl
  rotate_left
  · simp only [Act.put, List.setIfInBounds_toArray, List.set_cons_zero, List.set_cons_succ, i64_w, i32_w]
    rfl
  refine pure_ (i := 2) (N := some 7) (v := ?_) (a' := ?_) #[true, true, true, false, false, false, false, false, false, false, false, false] rfl rfl (any_of HT_.out (by kernel_rfl)) (fun _ _ _ h => h) (Or.inl ⟨by rfl, ?_⟩) ?_ ?_
  rotate_left
  · intro w'
    go_simp
    with_reducible rfl
  rotate_left
  · simp only [Act.put, List.setIfInBounds_toArray, List.set_cons_zero, List.set_cons_succ, i64_w, i32_w]
    rfl
  refine pure_ (i := 4) (N := some 9) (v := ?_) (a' := ?_) #[true, true, true, false, true, false, false, false, false, false, false, false] rfl rfl (any_of HT_.out (by kernel_rfl)) (fun _ _ _ h => h) (Or.inl ⟨by rfl, ?_⟩) ?_ ?_
  rotate_left
  · intro w'
    go_simp
    with_reducible rfl
  rotate_left
  · simp only [Act.put, List.setIfInBounds_toArray, List.set_cons_zero, List.set_cons_succ, i64_w, i32_w]
    rfl
  refine pure_ (i := 5) (N := some 10) (v := ?_) (a' := ?_) #[true, true, true, false, true, true, false, false, false, false, false, false] rfl rfl (any_of HT_.out (by kernel_rfl)) (fun _ _ _ h => h) (Or.inl ⟨by rfl, ?_⟩) ?_ ?_
  rotate_left
  · intro w'
    go_simp
    with_reducible rfl
  rotate_left
  · simp only [Act.put, List.setIfInBounds_toArray, List.set_cons_zero, List.set_cons_succ, i64_w, i32_w]
    rfl
  refine pure_ (i := 6) (N := some 11) (v := ?_) (a' := ?_) #[true, true, true, false, true, true, true, false, false, false, false, false] rfl rfl (any_of HT_.out (by kernel_rfl)) (fun _ _ _ h => h) (Or.inl ⟨by rfl, ?_⟩) ?_ ?_
  rotate_left
  · intro w'
    go_simp
    with_reducible rfl
  rotate_left
  · simp only [Act.put, List.setIfInBounds_toArray, List.set_cons_zero, List.set_cons_succ, i64_w, i32_w]
    rfl
  refine join_ (σ := Nat × Nat) 2 #[true, true, true, true, true, true, true, true, true, true, false, false] (fun s => [(8, .agg #[.int .i64 4, .pointer (some ⟨b, 5, none⟩), .pointer none, .pointer none]), (12, .agg #[.int .i64 4, .pointer (some ⟨b, 6, none⟩), .pointer none, .pointer none]), (3, .pointer (some ⟨s.1, 0, none⟩)), (4, .pointer (some ⟨s.2, 0, none⟩))]) (fun s w' => w'.heap[s.1]? = some (.cells #[.int .i64 0, .pointer none, .pointer none, .pointer none] 78 (0, 0)) ∧ w'.heap[s.2]? = some (.cells #[.int .i64 0, .pointer none, .pointer none, .pointer none] 78 (0, 0)) ∧ s.1 ≠ s.2 ∧ w.heap.size ≤ s.1 ∧ w.heap.size ≤ s.2 ∧ Below w.heap.size w w') ?_ ?_
  rotate_left
  · intro hCont
    refine three_ (i := 3) (j := 8) (k := 9) (Ni := some 8) (Nj := some 3) (Nk := some 4) #[true, true, true, true, true, true, true, false, false, false, false, false] #[true, true, true, false, true, true, true, false, true, false, false, false] #[true, true, true, false, true, true, true, false, false, true, false, false] rfl rfl rfl rfl rfl rfl (three_of HT_.out (by kernel_rfl)) (by decide) (by decide) (by decide) (fun K hK => ?_) (fun K hK => ?_) (fun K hK => ?_)
    · skip
      refine call_ 75 #[.int .i64 4, .pointer (some ⟨b, 5, none⟩)] (by rfl) rfl ?hr ?_
      (case hr => first | rfl | (go_simp; done) | (go_simp; rfl))
      refine (number_calls 4 b 5 _).mono ?_
      rintro e' w1 ⟨rfl, hb⟩
      refine ⟨_, rfl, ?_⟩
      have HB := Aside0.mk (HB.out.trans (hb.mono HB.out.size))
      clear hb
      refine hK.out _ _ trivial (fun hHeld => ?_)
      clear hK K
      refine norm_ (a' := ?_) ?_ ?_
      rotate_left
      · show Act.put _ (some 8) _ = _
        simp only [Act.put, List.setIfInBounds_toArray, List.set_cons_zero, List.set_cons_succ, i64_w, i32_w]
        rfl
      refine three_ (i := 7) (j := 8) (k := 9) (Ni := some 12) (Nj := some 3) (Nk := some 4) #[true, true, true, true, true, true, true, true, false, false, false, false] #[true, true, true, true, true, true, true, false, true, false, false, false] #[true, true, true, true, true, true, true, false, false, true, false, false] rfl rfl rfl rfl rfl rfl (three_of HT_.out (by kernel_rfl)) (by decide) (by decide) (by decide) (fun K hK => ?_) (fun K hK => ?_) (fun K hK => ?_)
      · skip
        refine call_ 75 #[.int .i64 4, .pointer (some ⟨b, 6, none⟩)] (by rfl) rfl ?hr ?_
        (case hr => first | rfl | (go_simp; done) | (go_simp; rfl))
        refine (number_calls 4 b 6 _).mono ?_
        rintro e' w2 ⟨rfl, hb⟩
        refine ⟨_, rfl, ?_⟩
        have HB := Aside0.mk (HB.out.trans (hb.mono HB.out.size))
        clear hb
        refine hK.out _ _ trivial (fun hHeld => ?_)
        clear hK K
        refine norm_ (a' := ?_) ?_ ?_
        rotate_left
        · show Act.put _ (some 12) _ = _
          simp only [Act.put, List.setIfInBounds_toArray, List.set_cons_zero, List.set_cons_succ, i64_w, i32_w]
          rfl
        refine two_ (i := 8) (j := 9) (Ni := some 3) (Nj := some 4) #[true, true, true, true, true, true, true, true, true, false, false, false] #[true, true, true, true, true, true, true, true, false, true, false, false] rfl rfl rfl rfl (two_of HT_.out (by kernel_rfl)) (by decide) (by decide) (fun K hK => ?_) (fun K hK => ?_)
        · skip
          refine value_ (w1 := ?_) (v := ?_) (by rfl) rfl ?_ ?_
          rotate_left 2
          · go_simp
            constructor
            · rfl
            · rfl
          have hb := (Below.refl w2.heap.size w2).alloc (Nat.le_refl _) (.cells #[.int .i64 0, .pointer none, .pointer none, .pointer none] 78)
          have hn := heap_alloc_new w2 (.cells #[.int .i64 0, .pointer none, .pointer none, .pointer none] 78)
          have hle := HB.out.size
          have HB := Aside0.mk (HB.out.trans (hb.mono HB.out.size))
          obtain ⟨w3, hw_⟩ : ∃ W, w2.alloc (.cells #[.int .i64 0, .pointer none, .pointer none, .pointer none] 78) = W := ⟨_, rfl⟩
          obtain ⟨b8, hb_⟩ : ∃ x, w2.heap.size = x := ⟨_, rfl⟩
          rw [hw_] at HB hn ⊢
          rw [hb_] at hn hle ⊢
          have H8 := Aside0.mk hn
          have HL8 := Aside0.mk hle
          clear hb hn hw_ hb_ hle
          refine hK.out _ _ trivial (fun hHeld => ?_)
          clear hK K
          refine norm_ (a' := ?_) ?_ ?_
          rotate_left
          · show Act.put _ (some 3) _ = _
            simp only [Act.put, List.setIfInBounds_toArray, List.set_cons_zero, List.set_cons_succ, i64_w, i32_w]
            rfl
          refine one_ (i := 9) (N := some 4) #[true, true, true, true, true, true, true, true, true, true, false, false] rfl rfl (one_of HT_.out (by kernel_rfl)) (by decide) (fun K hK => ?_)
          refine value_ (w1 := ?_) (v := ?_) (by rfl) rfl ?_ ?_
          rotate_left 2
          · go_simp
            constructor
            · rfl
            · rfl
          have hb := (Below.refl w3.heap.size w3).alloc (Nat.le_refl _) (.cells #[.int .i64 0, .pointer none, .pointer none, .pointer none] 78)
          have hn := heap_alloc_new w3 (.cells #[.int .i64 0, .pointer none, .pointer none, .pointer none] 78)
          have hlt8 := blk_ltn H8.out
          have H8 := Aside0.mk ((hb.block _ (blk_ltn H8.out)).trans H8.out)
          have hle := HB.out.size
          have HB := Aside0.mk (HB.out.trans (hb.mono HB.out.size))
          obtain ⟨w4, hw_⟩ : ∃ W, w3.alloc (.cells #[.int .i64 0, .pointer none, .pointer none, .pointer none] 78) = W := ⟨_, rfl⟩
          obtain ⟨b9, hb_⟩ : ∃ x, w3.heap.size = x := ⟨_, rfl⟩
          rw [hw_] at HB hn H8 ⊢
          rw [hb_] at hn hle hlt8 ⊢
          have HN := Aside0.mk (show b8 ≠ b9 by omega)
          have H9 := Aside0.mk hn
          have HL9 := Aside0.mk hle
          clear hb hn hw_ hb_ hle hlt8
          refine hK.out _ _ trivial (fun hHeld => ?_)
          clear hK K
          refine norm_ (a' := ?_) ?_ ?_
          rotate_left
          · show Act.put _ (some 4) _ = _
            simp only [Act.put, List.setIfInBounds_toArray, List.set_cons_zero, List.set_cons_succ, i64_w, i32_w]
            rfl
          exact norm_ (by simp only [putAll, Act.put, List.setIfInBounds_toArray, List.set_cons_zero, List.set_cons_succ]) (hCont (b8, b9) _ ⟨H8.out, H9.out, HN.out, HL8.out, HL9.out, HB.out⟩)
        · skip
          refine value_ (w1 := ?_) (v := ?_) (by rfl) rfl ?_ ?_
          rotate_left 2
          · go_simp
            constructor
            · rfl
            · rfl
          have hb := (Below.refl w2.heap.size w2).alloc (Nat.le_refl _) (.cells #[.int .i64 0, .pointer none, .pointer none, .pointer none] 78)
          have hn := heap_alloc_new w2 (.cells #[.int .i64 0, .pointer none, .pointer none, .pointer none] 78)
          have hle := HB.out.size
          have HB := Aside0.mk (HB.out.trans (hb.mono HB.out.size))
          obtain ⟨w3, hw_⟩ : ∃ W, w2.alloc (.cells #[.int .i64 0, .pointer none, .pointer none, .pointer none] 78) = W := ⟨_, rfl⟩
          obtain ⟨b9, hb_⟩ : ∃ x, w2.heap.size = x := ⟨_, rfl⟩
          rw [hw_] at HB hn ⊢
          rw [hb_] at hn hle ⊢
          have H9 := Aside0.mk hn
          have HL9 := Aside0.mk hle
          clear hb hn hw_ hb_ hle
          refine hK.out _ _ trivial (fun hHeld => ?_)
          clear hK K
          refine norm_ (a' := ?_) ?_ ?_
          rotate_left
          · show Act.put _ (some 4) _ = _
            simp only [Act.put, List.setIfInBounds_toArray, List.set_cons_zero, List.set_cons_succ, i64_w, i32_w]
            rfl
          refine one_ (i := 8) (N := some 3) #[true, true, true, true, true, true, true, true, true, true, false, false] rfl rfl (one_of HT_.out (by kernel_rfl)) (by decide) (fun K hK => ?_)
          refine value_ (w1 := ?_) (v := ?_) (by rfl) rfl ?_ ?_
          rotate_left 2
          · go_simp
            constructor
            · rfl
            · rfl
          have hb := (Below.refl w3.heap.size w3).alloc (Nat.le_refl _) (.cells #[.int .i64 0, .pointer none, .pointer none, .pointer none] 78)
          have hn := heap_alloc_new w3 (.cells #[.int .i64 0, .pointer none, .pointer none, .pointer none] 78)
          have hlt9 := blk_ltn H9.out
          have H9 := Aside0.mk ((hb.block _ (blk_ltn H9.out)).trans H9.out)
          have hle := HB.out.size
          have HB := Aside0.mk (HB.out.trans (hb.mono HB.out.size))
          obtain ⟨w4, hw_⟩ : ∃ W, w3.alloc (.cells #[.int .i64 0, .pointer none, .pointer none, .pointer none] 78) = W := ⟨_, rfl⟩
          obtain ⟨b8, hb_⟩ : ∃ x, w3.heap.size = x := ⟨_, rfl⟩
          rw [hw_] at HB hn H9 ⊢
          rw [hb_] at hn hle hlt9 ⊢
          have HN := Aside0.mk (show b8 ≠ b9 by omega)
          have H8 := Aside0.mk hn
          have HL8 := Aside0.mk hle
          clear hb hn hw_ hb_ hle hlt9
          refine hK.out _ _ trivial (fun hHeld => ?_)
          clear hK K
          refine norm_ (a' := ?_) ?_ ?_
          rotate_left
          · show Act.put _ (some 3) _ = _
            simp only [Act.put, List.setIfInBounds_toArray, List.set_cons_zero, List.set_cons_succ, i64_w, i32_w]
            rfl
          exact norm_ (by simp only [putAll, Act.put, List.setIfInBounds_toArray, List.set_cons_zero, List.set_cons_succ]) (hCont (b8, b9) _ ⟨H8.out, H9.out, HN.out, HL8.out, HL9.out, HB.out⟩)
      · skip
        refine value_ (w1 := ?_) (v := ?_) (by rfl) rfl ?_ ?_
        rotate_left 2
        · go_simp
          constructor
          · rfl
          · rfl
        have hb := (Below.refl w1.heap.size w1).alloc (Nat.le_refl _) (.cells #[.int .i64 0, .pointer none, .pointer none, .pointer none] 78)
        have hn := heap_alloc_new w1 (.cells #[.int .i64 0, .pointer none, .pointer none, .pointer none] 78)
        have hle := HB.out.size
        have HB := Aside0.mk (HB.out.trans (hb.mono HB.out.size))
        obtain ⟨w2, hw_⟩ : ∃ W, w1.alloc (.cells #[.int .i64 0, .pointer none, .pointer none, .pointer none] 78) = W := ⟨_, rfl⟩
        obtain ⟨b8, hb_⟩ : ∃ x, w1.heap.size = x := ⟨_, rfl⟩
        rw [hw_] at HB hn ⊢
        rw [hb_] at hn hle ⊢
        have H8 := Aside0.mk hn
        have HL8 := Aside0.mk hle
        clear hb hn hw_ hb_ hle
        refine hK.out _ _ trivial (fun hHeld => ?_)
        clear hK K
        refine norm_ (a' := ?_) ?_ ?_
        rotate_left
        · show Act.put _ (some 3) _ = _
          simp only [Act.put, List.setIfInBounds_toArray, List.set_cons_zero, List.set_cons_succ, i64_w, i32_w]
          rfl
        refine two_ (i := 7) (j := 9) (Ni := some 12) (Nj := some 4) #[true, true, true, true, true, true, true, true, true, false, false, false] #[true, true, true, true, true, true, true, false, true, true, false, false] rfl rfl rfl rfl (two_of HT_.out (by kernel_rfl)) (by decide) (by decide) (fun K hK => ?_) (fun K hK => ?_)
        · skip
          refine call_ 75 #[.int .i64 4, .pointer (some ⟨b, 6, none⟩)] (by rfl) rfl ?hr ?_
          (case hr => first | rfl | (go_simp; done) | (go_simp; rfl))
          refine (number_calls 4 b 6 _).mono ?_
          rintro e' w3 ⟨rfl, hb⟩
          refine ⟨_, rfl, ?_⟩
          have HB := Aside0.mk (HB.out.trans (hb.mono HB.out.size))
          have H8 := Aside0.mk ((hb.block _ (blk_ltn H8.out)).trans H8.out)
          clear hb
          refine hK.out _ _ trivial (fun hHeld => ?_)
          clear hK K
          refine norm_ (a' := ?_) ?_ ?_
          rotate_left
          · show Act.put _ (some 12) _ = _
            simp only [Act.put, List.setIfInBounds_toArray, List.set_cons_zero, List.set_cons_succ, i64_w, i32_w]
            rfl
          refine one_ (i := 9) (N := some 4) #[true, true, true, true, true, true, true, true, true, true, false, false] rfl rfl (one_of HT_.out (by kernel_rfl)) (by decide) (fun K hK => ?_)
          refine value_ (w1 := ?_) (v := ?_) (by rfl) rfl ?_ ?_
          rotate_left 2
          · go_simp
            constructor
            · rfl
            · rfl
          have hb := (Below.refl w3.heap.size w3).alloc (Nat.le_refl _) (.cells #[.int .i64 0, .pointer none, .pointer none, .pointer none] 78)
          have hn := heap_alloc_new w3 (.cells #[.int .i64 0, .pointer none, .pointer none, .pointer none] 78)
          have hlt8 := blk_ltn H8.out
          have H8 := Aside0.mk ((hb.block _ (blk_ltn H8.out)).trans H8.out)
          have hle := HB.out.size
          have HB := Aside0.mk (HB.out.trans (hb.mono HB.out.size))
          obtain ⟨w4, hw_⟩ : ∃ W, w3.alloc (.cells #[.int .i64 0, .pointer none, .pointer none, .pointer none] 78) = W := ⟨_, rfl⟩
          obtain ⟨b9, hb_⟩ : ∃ x, w3.heap.size = x := ⟨_, rfl⟩
          rw [hw_] at HB hn H8 ⊢
          rw [hb_] at hn hle hlt8 ⊢
          have HN := Aside0.mk (show b8 ≠ b9 by omega)
          have H9 := Aside0.mk hn
          have HL9 := Aside0.mk hle
          clear hb hn hw_ hb_ hle hlt8
          refine hK.out _ _ trivial (fun hHeld => ?_)
          clear hK K
          refine norm_ (a' := ?_) ?_ ?_
          rotate_left
          · show Act.put _ (some 4) _ = _
            simp only [Act.put, List.setIfInBounds_toArray, List.set_cons_zero, List.set_cons_succ, i64_w, i32_w]
            rfl
          exact norm_ (by simp only [putAll, Act.put, List.setIfInBounds_toArray, List.set_cons_zero, List.set_cons_succ]) (hCont (b8, b9) _ ⟨H8.out, H9.out, HN.out, HL8.out, HL9.out, HB.out⟩)
        · skip
          refine value_ (w1 := ?_) (v := ?_) (by rfl) rfl ?_ ?_
          rotate_left 2
          · go_simp
            constructor
            · rfl
            · rfl
          have hb := (Below.refl w2.heap.size w2).alloc (Nat.le_refl _) (.cells #[.int .i64 0, .pointer none, .pointer none, .pointer none] 78)
          have hn := heap_alloc_new w2 (.cells #[.int .i64 0, .pointer none, .pointer none, .pointer none] 78)
          have hlt8 := blk_ltn H8.out
          have H8 := Aside0.mk ((hb.block _ (blk_ltn H8.out)).trans H8.out)
          have hle := HB.out.size
          have HB := Aside0.mk (HB.out.trans (hb.mono HB.out.size))
          obtain ⟨w3, hw_⟩ : ∃ W, w2.alloc (.cells #[.int .i64 0, .pointer none, .pointer none, .pointer none] 78) = W := ⟨_, rfl⟩
          obtain ⟨b9, hb_⟩ : ∃ x, w2.heap.size = x := ⟨_, rfl⟩
          rw [hw_] at HB hn H8 ⊢
          rw [hb_] at hn hle hlt8 ⊢
          have HN := Aside0.mk (show b8 ≠ b9 by omega)
          have H9 := Aside0.mk hn
          have HL9 := Aside0.mk hle
          clear hb hn hw_ hb_ hle hlt8
          refine hK.out _ _ trivial (fun hHeld => ?_)
          clear hK K
          refine norm_ (a' := ?_) ?_ ?_
          rotate_left
          · show Act.put _ (some 4) _ = _
            simp only [Act.put, List.setIfInBounds_toArray, List.set_cons_zero, List.set_cons_succ, i64_w, i32_w]
            rfl
          refine one_ (i := 7) (N := some 12) #[true, true, true, true, true, true, true, true, true, true, false, false] rfl rfl (one_of HT_.out (by kernel_rfl)) (by decide) (fun K hK => ?_)
          refine call_ 75 #[.int .i64 4, .pointer (some ⟨b, 6, none⟩)] (by rfl) rfl ?hr ?_
          (case hr => first | rfl | (go_simp; done) | (go_simp; rfl))
          refine (number_calls 4 b 6 _).mono ?_
          rintro e' w4 ⟨rfl, hb⟩
          refine ⟨_, rfl, ?_⟩
          have HB := Aside0.mk (HB.out.trans (hb.mono HB.out.size))
          have H8 := Aside0.mk ((hb.block _ (blk_ltn H8.out)).trans H8.out)
          have H9 := Aside0.mk ((hb.block _ (blk_ltn H9.out)).trans H9.out)
          clear hb
          refine hK.out _ _ trivial (fun hHeld => ?_)
          clear hK K
          refine norm_ (a' := ?_) ?_ ?_
          rotate_left
          · show Act.put _ (some 12) _ = _
            simp only [Act.put, List.setIfInBounds_toArray, List.set_cons_zero, List.set_cons_succ, i64_w, i32_w]
            rfl
          exact norm_ (by simp only [putAll, Act.put, List.setIfInBounds_toArray, List.set_cons_zero, List.set_cons_succ]) (hCont (b8, b9) _ ⟨H8.out, H9.out, HN.out, HL8.out, HL9.out, HB.out⟩)
      · skip
        refine value_ (w1 := ?_) (v := ?_) (by rfl) rfl ?_ ?_
        rotate_left 2
        · go_simp
          constructor
          · rfl
          · rfl
        have hb := (Below.refl w1.heap.size w1).alloc (Nat.le_refl _) (.cells #[.int .i64 0, .pointer none, .pointer none, .pointer none] 78)
        have hn := heap_alloc_new w1 (.cells #[.int .i64 0, .pointer none, .pointer none, .pointer none] 78)
        have hle := HB.out.size
        have HB := Aside0.mk (HB.out.trans (hb.mono HB.out.size))
        obtain ⟨w2, hw_⟩ : ∃ W, w1.alloc (.cells #[.int .i64 0, .pointer none, .pointer none, .pointer none] 78) = W := ⟨_, rfl⟩
        obtain ⟨b9, hb_⟩ : ∃ x, w1.heap.size = x := ⟨_, rfl⟩
        rw [hw_] at HB hn ⊢
        rw [hb_] at hn hle ⊢
        have H9 := Aside0.mk hn
        have HL9 := Aside0.mk hle
        clear hb hn hw_ hb_ hle
        refine hK.out _ _ trivial (fun hHeld => ?_)
        clear hK K
        refine norm_ (a' := ?_) ?_ ?_
        rotate_left
        · show Act.put _ (some 4) _ = _
          simp only [Act.put, List.setIfInBounds_toArray, List.set_cons_zero, List.set_cons_succ, i64_w, i32_w]
          rfl
        refine two_ (i := 7) (j := 8) (Ni := some 12) (Nj := some 3) #[true, true, true, true, true, true, true, true, false, true, false, false] #[true, true, true, true, true, true, true, false, true, true, false, false] rfl rfl rfl rfl (two_of HT_.out (by kernel_rfl)) (by decide) (by decide) (fun K hK => ?_) (fun K hK => ?_)
        · skip
          refine call_ 75 #[.int .i64 4, .pointer (some ⟨b, 6, none⟩)] (by rfl) rfl ?hr ?_
          (case hr => first | rfl | (go_simp; done) | (go_simp; rfl))
          refine (number_calls 4 b 6 _).mono ?_
          rintro e' w3 ⟨rfl, hb⟩
          refine ⟨_, rfl, ?_⟩
          have HB := Aside0.mk (HB.out.trans (hb.mono HB.out.size))
          have H9 := Aside0.mk ((hb.block _ (blk_ltn H9.out)).trans H9.out)
          clear hb
          refine hK.out _ _ trivial (fun hHeld => ?_)
          clear hK K
          refine norm_ (a' := ?_) ?_ ?_
          rotate_left
          · show Act.put _ (some 12) _ = _
            simp only [Act.put, List.setIfInBounds_toArray, List.set_cons_zero, List.set_cons_succ, i64_w, i32_w]
            rfl
          refine one_ (i := 8) (N := some 3) #[true, true, true, true, true, true, true, true, true, true, false, false] rfl rfl (one_of HT_.out (by kernel_rfl)) (by decide) (fun K hK => ?_)
          refine value_ (w1 := ?_) (v := ?_) (by rfl) rfl ?_ ?_
          rotate_left 2
          · go_simp
            constructor
            · rfl
            · rfl
          have hb := (Below.refl w3.heap.size w3).alloc (Nat.le_refl _) (.cells #[.int .i64 0, .pointer none, .pointer none, .pointer none] 78)
          have hn := heap_alloc_new w3 (.cells #[.int .i64 0, .pointer none, .pointer none, .pointer none] 78)
          have hlt9 := blk_ltn H9.out
          have H9 := Aside0.mk ((hb.block _ (blk_ltn H9.out)).trans H9.out)
          have hle := HB.out.size
          have HB := Aside0.mk (HB.out.trans (hb.mono HB.out.size))
          obtain ⟨w4, hw_⟩ : ∃ W, w3.alloc (.cells #[.int .i64 0, .pointer none, .pointer none, .pointer none] 78) = W := ⟨_, rfl⟩
          obtain ⟨b8, hb_⟩ : ∃ x, w3.heap.size = x := ⟨_, rfl⟩
          rw [hw_] at HB hn H9 ⊢
          rw [hb_] at hn hle hlt9 ⊢
          have HN := Aside0.mk (show b8 ≠ b9 by omega)
          have H8 := Aside0.mk hn
          have HL8 := Aside0.mk hle
          clear hb hn hw_ hb_ hle hlt9
          refine hK.out _ _ trivial (fun hHeld => ?_)
          clear hK K
          refine norm_ (a' := ?_) ?_ ?_
          rotate_left
          · show Act.put _ (some 3) _ = _
            simp only [Act.put, List.setIfInBounds_toArray, List.set_cons_zero, List.set_cons_succ, i64_w, i32_w]
            rfl
          exact norm_ (by simp only [putAll, Act.put, List.setIfInBounds_toArray, List.set_cons_zero, List.set_cons_succ]) (hCont (b8, b9) _ ⟨H8.out, H9.out, HN.out, HL8.out, HL9.out, HB.out⟩)
        · skip
          refine value_ (w1 := ?_) (v := ?_) (by rfl) rfl ?_ ?_
          rotate_left 2
          · go_simp
            constructor
            · rfl
            · rfl
          have hb := (Below.refl w2.heap.size w2).alloc (Nat.le_refl _) (.cells #[.int .i64 0, .pointer none, .pointer none, .pointer none] 78)
          have hn := heap_alloc_new w2 (.cells #[.int .i64 0, .pointer none, .pointer none, .pointer none] 78)
          have hlt9 := blk_ltn H9.out
          have H9 := Aside0.mk ((hb.block _ (blk_ltn H9.out)).trans H9.out)
          have hle := HB.out.size
          have HB := Aside0.mk (HB.out.trans (hb.mono HB.out.size))
          obtain ⟨w3, hw_⟩ : ∃ W, w2.alloc (.cells #[.int .i64 0, .pointer none, .pointer none, .pointer none] 78) = W := ⟨_, rfl⟩
          obtain ⟨b8, hb_⟩ : ∃ x, w2.heap.size = x := ⟨_, rfl⟩
          rw [hw_] at HB hn H9 ⊢
          rw [hb_] at hn hle hlt9 ⊢
          have HN := Aside0.mk (show b8 ≠ b9 by omega)
          have H8 := Aside0.mk hn
          have HL8 := Aside0.mk hle
          clear hb hn hw_ hb_ hle hlt9
          refine hK.out _ _ trivial (fun hHeld => ?_)
          clear hK K
          refine norm_ (a' := ?_) ?_ ?_
          rotate_left
          · show Act.put _ (some 3) _ = _
            simp only [Act.put, List.setIfInBounds_toArray, List.set_cons_zero, List.set_cons_succ, i64_w, i32_w]
            rfl
          refine one_ (i := 7) (N := some 12) #[true, true, true, true, true, true, true, true, true, true, false, false] rfl rfl (one_of HT_.out (by kernel_rfl)) (by decide) (fun K hK => ?_)
          refine call_ 75 #[.int .i64 4, .pointer (some ⟨b, 6, none⟩)] (by rfl) rfl ?hr ?_
          (case hr => first | rfl | (go_simp; done) | (go_simp; rfl))
          refine (number_calls 4 b 6 _).mono ?_
          rintro e' w4 ⟨rfl, hb⟩
          refine ⟨_, rfl, ?_⟩
          have HB := Aside0.mk (HB.out.trans (hb.mono HB.out.size))
          have H8 := Aside0.mk ((hb.block _ (blk_ltn H8.out)).trans H8.out)
          have H9 := Aside0.mk ((hb.block _ (blk_ltn H9.out)).trans H9.out)
          clear hb
          refine hK.out _ _ trivial (fun hHeld => ?_)
          clear hK K
          refine norm_ (a' := ?_) ?_ ?_
          rotate_left
          · show Act.put _ (some 12) _ = _
            simp only [Act.put, List.setIfInBounds_toArray, List.set_cons_zero, List.set_cons_succ, i64_w, i32_w]
            rfl
          exact norm_ (by simp only [putAll, Act.put, List.setIfInBounds_toArray, List.set_cons_zero, List.set_cons_succ]) (hCont (b8, b9) _ ⟨H8.out, H9.out, HN.out, HL8.out, HL9.out, HB.out⟩)
    · skip
      refine value_ (w1 := ?_) (v := ?_) (by rfl) rfl ?_ ?_
      rotate_left 2
      · go_simp
        constructor
        · rfl
        · rfl
      have hb := (Below.refl wd.heap.size wd).alloc (Nat.le_refl _) (.cells #[.int .i64 0, .pointer none, .pointer none, .pointer none] 78)
      have hn := heap_alloc_new wd (.cells #[.int .i64 0, .pointer none, .pointer none, .pointer none] 78)
      have hle := HB.out.size
      have HB := Aside0.mk (HB.out.trans (hb.mono HB.out.size))
      obtain ⟨w1, hw_⟩ : ∃ W, wd.alloc (.cells #[.int .i64 0, .pointer none, .pointer none, .pointer none] 78) = W := ⟨_, rfl⟩
      obtain ⟨b8, hb_⟩ : ∃ x, wd.heap.size = x := ⟨_, rfl⟩
      rw [hw_] at HB hn ⊢
      rw [hb_] at hn hle ⊢
      have H8 := Aside0.mk hn
      have HL8 := Aside0.mk hle
      clear hb hn hw_ hb_ hle
      refine hK.out _ _ trivial (fun hHeld => ?_)
      clear hK K
      refine norm_ (a' := ?_) ?_ ?_
      rotate_left
      · show Act.put _ (some 3) _ = _
        simp only [Act.put, List.setIfInBounds_toArray, List.set_cons_zero, List.set_cons_succ, i64_w, i32_w]
        rfl
      refine two_ (i := 3) (j := 9) (Ni := some 8) (Nj := some 4) #[true, true, true, true, true, true, true, false, true, false, false, false] #[true, true, true, false, true, true, true, false, true, true, false, false] rfl rfl rfl rfl (two_of HT_.out (by kernel_rfl)) (by decide) (by decide) (fun K hK => ?_) (fun K hK => ?_)
      · skip
        refine call_ 75 #[.int .i64 4, .pointer (some ⟨b, 5, none⟩)] (by rfl) rfl ?hr ?_
        (case hr => first | rfl | (go_simp; done) | (go_simp; rfl))
        refine (number_calls 4 b 5 _).mono ?_
        rintro e' w2 ⟨rfl, hb⟩
        refine ⟨_, rfl, ?_⟩
        have HB := Aside0.mk (HB.out.trans (hb.mono HB.out.size))
        have H8 := Aside0.mk ((hb.block _ (blk_ltn H8.out)).trans H8.out)
        clear hb
        refine hK.out _ _ trivial (fun hHeld => ?_)
        clear hK K
        refine norm_ (a' := ?_) ?_ ?_
        rotate_left
        · show Act.put _ (some 8) _ = _
          simp only [Act.put, List.setIfInBounds_toArray, List.set_cons_zero, List.set_cons_succ, i64_w, i32_w]
          rfl
        refine two_ (i := 7) (j := 9) (Ni := some 12) (Nj := some 4) #[true, true, true, true, true, true, true, true, true, false, false, false] #[true, true, true, true, true, true, true, false, true, true, false, false] rfl rfl rfl rfl (two_of HT_.out (by kernel_rfl)) (by decide) (by decide) (fun K hK => ?_) (fun K hK => ?_)
        · skip
          refine call_ 75 #[.int .i64 4, .pointer (some ⟨b, 6, none⟩)] (by rfl) rfl ?hr ?_
          (case hr => first | rfl | (go_simp; done) | (go_simp; rfl))
          refine (number_calls 4 b 6 _).mono ?_
          rintro e' w3 ⟨rfl, hb⟩
          refine ⟨_, rfl, ?_⟩
          have HB := Aside0.mk (HB.out.trans (hb.mono HB.out.size))
          have H8 := Aside0.mk ((hb.block _ (blk_ltn H8.out)).trans H8.out)
          clear hb
          refine hK.out _ _ trivial (fun hHeld => ?_)
          clear hK K
          refine norm_ (a' := ?_) ?_ ?_
          rotate_left
          · show Act.put _ (some 12) _ = _
            simp only [Act.put, List.setIfInBounds_toArray, List.set_cons_zero, List.set_cons_succ, i64_w, i32_w]
            rfl
          refine one_ (i := 9) (N := some 4) #[true, true, true, true, true, true, true, true, true, true, false, false] rfl rfl (one_of HT_.out (by kernel_rfl)) (by decide) (fun K hK => ?_)
          refine value_ (w1 := ?_) (v := ?_) (by rfl) rfl ?_ ?_
          rotate_left 2
          · go_simp
            constructor
            · rfl
            · rfl
          have hb := (Below.refl w3.heap.size w3).alloc (Nat.le_refl _) (.cells #[.int .i64 0, .pointer none, .pointer none, .pointer none] 78)
          have hn := heap_alloc_new w3 (.cells #[.int .i64 0, .pointer none, .pointer none, .pointer none] 78)
          have hlt8 := blk_ltn H8.out
          have H8 := Aside0.mk ((hb.block _ (blk_ltn H8.out)).trans H8.out)
          have hle := HB.out.size
          have HB := Aside0.mk (HB.out.trans (hb.mono HB.out.size))
          obtain ⟨w4, hw_⟩ : ∃ W, w3.alloc (.cells #[.int .i64 0, .pointer none, .pointer none, .pointer none] 78) = W := ⟨_, rfl⟩
          obtain ⟨b9, hb_⟩ : ∃ x, w3.heap.size = x := ⟨_, rfl⟩
          rw [hw_] at HB hn H8 ⊢
          rw [hb_] at hn hle hlt8 ⊢
          have HN := Aside0.mk (show b8 ≠ b9 by omega)
          have H9 := Aside0.mk hn
          have HL9 := Aside0.mk hle
          clear hb hn hw_ hb_ hle hlt8
          refine hK.out _ _ trivial (fun hHeld => ?_)
          clear hK K
          refine norm_ (a' := ?_) ?_ ?_
          rotate_left
          · show Act.put _ (some 4) _ = _
            simp only [Act.put, List.setIfInBounds_toArray, List.set_cons_zero, List.set_cons_succ, i64_w, i32_w]
            rfl
          exact norm_ (by simp only [putAll, Act.put, List.setIfInBounds_toArray, List.set_cons_zero, List.set_cons_succ]) (hCont (b8, b9) _ ⟨H8.out, H9.out, HN.out, HL8.out, HL9.out, HB.out⟩)
        · skip
          refine value_ (w1 := ?_) (v := ?_) (by rfl) rfl ?_ ?_
          rotate_left 2
          · go_simp
            constructor
            · rfl
            · rfl
          have hb := (Below.refl w2.heap.size w2).alloc (Nat.le_refl _) (.cells #[.int .i64 0, .pointer none, .pointer none, .pointer none] 78)
          have hn := heap_alloc_new w2 (.cells #[.int .i64 0, .pointer none, .pointer none, .pointer none] 78)
          have hlt8 := blk_ltn H8.out
          have H8 := Aside0.mk ((hb.block _ (blk_ltn H8.out)).trans H8.out)
          have hle := HB.out.size
          have HB := Aside0.mk (HB.out.trans (hb.mono HB.out.size))
          obtain ⟨w3, hw_⟩ : ∃ W, w2.alloc (.cells #[.int .i64 0, .pointer none, .pointer none, .pointer none] 78) = W := ⟨_, rfl⟩
          obtain ⟨b9, hb_⟩ : ∃ x, w2.heap.size = x := ⟨_, rfl⟩
          rw [hw_] at HB hn H8 ⊢
          rw [hb_] at hn hle hlt8 ⊢
          have HN := Aside0.mk (show b8 ≠ b9 by omega)
          have H9 := Aside0.mk hn
          have HL9 := Aside0.mk hle
          clear hb hn hw_ hb_ hle hlt8
          refine hK.out _ _ trivial (fun hHeld => ?_)
          clear hK K
          refine norm_ (a' := ?_) ?_ ?_
          rotate_left
          · show Act.put _ (some 4) _ = _
            simp only [Act.put, List.setIfInBounds_toArray, List.set_cons_zero, List.set_cons_succ, i64_w, i32_w]
            rfl
          refine one_ (i := 7) (N := some 12) #[true, true, true, true, true, true, true, true, true, true, false, false] rfl rfl (one_of HT_.out (by kernel_rfl)) (by decide) (fun K hK => ?_)
          refine call_ 75 #[.int .i64 4, .pointer (some ⟨b, 6, none⟩)] (by rfl) rfl ?hr ?_
          (case hr => first | rfl | (go_simp; done) | (go_simp; rfl))
          refine (number_calls 4 b 6 _).mono ?_
          rintro e' w4 ⟨rfl, hb⟩
          refine ⟨_, rfl, ?_⟩
          have HB := Aside0.mk (HB.out.trans (hb.mono HB.out.size))
          have H8 := Aside0.mk ((hb.block _ (blk_ltn H8.out)).trans H8.out)
          have H9 := Aside0.mk ((hb.block _ (blk_ltn H9.out)).trans H9.out)
          clear hb
          refine hK.out _ _ trivial (fun hHeld => ?_)
          clear hK K
          refine norm_ (a' := ?_) ?_ ?_
          rotate_left
          · show Act.put _ (some 12) _ = _
            simp only [Act.put, List.setIfInBounds_toArray, List.set_cons_zero, List.set_cons_succ, i64_w, i32_w]
            rfl
          exact norm_ (by simp only [putAll, Act.put, List.setIfInBounds_toArray, List.set_cons_zero, List.set_cons_succ]) (hCont (b8, b9) _ ⟨H8.out, H9.out, HN.out, HL8.out, HL9.out, HB.out⟩)
      · skip
        refine value_ (w1 := ?_) (v := ?_) (by rfl) rfl ?_ ?_
        rotate_left 2
        · go_simp
          constructor
          · rfl
          · rfl
        have hb := (Below.refl w1.heap.size w1).alloc (Nat.le_refl _) (.cells #[.int .i64 0, .pointer none, .pointer none, .pointer none] 78)
        have hn := heap_alloc_new w1 (.cells #[.int .i64 0, .pointer none, .pointer none, .pointer none] 78)
        have hlt8 := blk_ltn H8.out
        have H8 := Aside0.mk ((hb.block _ (blk_ltn H8.out)).trans H8.out)
        have hle := HB.out.size
        have HB := Aside0.mk (HB.out.trans (hb.mono HB.out.size))
        obtain ⟨w2, hw_⟩ : ∃ W, w1.alloc (.cells #[.int .i64 0, .pointer none, .pointer none, .pointer none] 78) = W := ⟨_, rfl⟩
        obtain ⟨b9, hb_⟩ : ∃ x, w1.heap.size = x := ⟨_, rfl⟩
        rw [hw_] at HB hn H8 ⊢
        rw [hb_] at hn hle hlt8 ⊢
        have HN := Aside0.mk (show b8 ≠ b9 by omega)
        have H9 := Aside0.mk hn
        have HL9 := Aside0.mk hle
        clear hb hn hw_ hb_ hle hlt8
        refine hK.out _ _ trivial (fun hHeld => ?_)
        clear hK K
        refine norm_ (a' := ?_) ?_ ?_
        rotate_left
        · show Act.put _ (some 4) _ = _
          simp only [Act.put, List.setIfInBounds_toArray, List.set_cons_zero, List.set_cons_succ, i64_w, i32_w]
          rfl
        refine one_ (i := 3) (N := some 8) #[true, true, true, true, true, true, true, false, true, true, false, false] rfl rfl (one_of HT_.out (by kernel_rfl)) (by decide) (fun K hK => ?_)
        refine call_ 75 #[.int .i64 4, .pointer (some ⟨b, 5, none⟩)] (by rfl) rfl ?hr ?_
        (case hr => first | rfl | (go_simp; done) | (go_simp; rfl))
        refine (number_calls 4 b 5 _).mono ?_
        rintro e' w3 ⟨rfl, hb⟩
        refine ⟨_, rfl, ?_⟩
        have HB := Aside0.mk (HB.out.trans (hb.mono HB.out.size))
        have H8 := Aside0.mk ((hb.block _ (blk_ltn H8.out)).trans H8.out)
        have H9 := Aside0.mk ((hb.block _ (blk_ltn H9.out)).trans H9.out)
        clear hb
        refine hK.out _ _ trivial (fun hHeld => ?_)
        clear hK K
        refine norm_ (a' := ?_) ?_ ?_
        rotate_left
        · show Act.put _ (some 8) _ = _
          simp only [Act.put, List.setIfInBounds_toArray, List.set_cons_zero, List.set_cons_succ, i64_w, i32_w]
          rfl
        refine one_ (i := 7) (N := some 12) #[true, true, true, true, true, true, true, true, true, true, false, false] rfl rfl (one_of HT_.out (by kernel_rfl)) (by decide) (fun K hK => ?_)
        refine call_ 75 #[.int .i64 4, .pointer (some ⟨b, 6, none⟩)] (by rfl) rfl ?hr ?_
        (case hr => first | rfl | (go_simp; done) | (go_simp; rfl))
        refine (number_calls 4 b 6 _).mono ?_
        rintro e' w4 ⟨rfl, hb⟩
        refine ⟨_, rfl, ?_⟩
        have HB := Aside0.mk (HB.out.trans (hb.mono HB.out.size))
        have H8 := Aside0.mk ((hb.block _ (blk_ltn H8.out)).trans H8.out)
        have H9 := Aside0.mk ((hb.block _ (blk_ltn H9.out)).trans H9.out)
        clear hb
        refine hK.out _ _ trivial (fun hHeld => ?_)
        clear hK K
        refine norm_ (a' := ?_) ?_ ?_
        rotate_left
        · show Act.put _ (some 12) _ = _
          simp only [Act.put, List.setIfInBounds_toArray, List.set_cons_zero, List.set_cons_succ, i64_w, i32_w]
          rfl
        exact norm_ (by simp only [putAll, Act.put, List.setIfInBounds_toArray, List.set_cons_zero, List.set_cons_succ]) (hCont (b8, b9) _ ⟨H8.out, H9.out, HN.out, HL8.out, HL9.out, HB.out⟩)
    · skip
      refine value_ (w1 := ?_) (v := ?_) (by rfl) rfl ?_ ?_
      rotate_left 2
      · go_simp
        constructor
        · rfl
        · rfl
      have hb := (Below.refl wd.heap.size wd).alloc (Nat.le_refl _) (.cells #[.int .i64 0, .pointer none, .pointer none, .pointer none] 78)
      have hn := heap_alloc_new wd (.cells #[.int .i64 0, .pointer none, .pointer none, .pointer none] 78)
      have hle := HB.out.size
      have HB := Aside0.mk (HB.out.trans (hb.mono HB.out.size))
      obtain ⟨w1, hw_⟩ : ∃ W, wd.alloc (.cells #[.int .i64 0, .pointer none, .pointer none, .pointer none] 78) = W := ⟨_, rfl⟩
      obtain ⟨b9, hb_⟩ : ∃ x, wd.heap.size = x := ⟨_, rfl⟩
      rw [hw_] at HB hn ⊢
      rw [hb_] at hn hle ⊢
      have H9 := Aside0.mk hn
      have HL9 := Aside0.mk hle
      clear hb hn hw_ hb_ hle
      refine hK.out _ _ trivial (fun hHeld => ?_)
      clear hK K
      refine norm_ (a' := ?_) ?_ ?_
      rotate_left
      · show Act.put _ (some 4) _ = _
        simp only [Act.put, List.setIfInBounds_toArray, List.set_cons_zero, List.set_cons_succ, i64_w, i32_w]
        rfl
      refine two_ (i := 3) (j := 8) (Ni := some 8) (Nj := some 3) #[true, true, true, true, true, true, true, false, false, true, false, false] #[true, true, true, false, true, true, true, false, true, true, false, false] rfl rfl rfl rfl (two_of HT_.out (by kernel_rfl)) (by decide) (by decide) (fun K hK => ?_) (fun K hK => ?_)
      · skip
        refine call_ 75 #[.int .i64 4, .pointer (some ⟨b, 5, none⟩)] (by rfl) rfl ?hr ?_
        (case hr => first | rfl | (go_simp; done) | (go_simp; rfl))
        refine (number_calls 4 b 5 _).mono ?_
        rintro e' w2 ⟨rfl, hb⟩
        refine ⟨_, rfl, ?_⟩
        have HB := Aside0.mk (HB.out.trans (hb.mono HB.out.size))
        have H9 := Aside0.mk ((hb.block _ (blk_ltn H9.out)).trans H9.out)
        clear hb
        refine hK.out _ _ trivial (fun hHeld => ?_)
        clear hK K
        refine norm_ (a' := ?_) ?_ ?_
        rotate_left
        · show Act.put _ (some 8) _ = _
          simp only [Act.put, List.setIfInBounds_toArray, List.set_cons_zero, List.set_cons_succ, i64_w, i32_w]
          rfl
        refine two_ (i := 7) (j := 8) (Ni := some 12) (Nj := some 3) #[true, true, true, true, true, true, true, true, false, true, false, false] #[true, true, true, true, true, true, true, false, true, true, false, false] rfl rfl rfl rfl (two_of HT_.out (by kernel_rfl)) (by decide) (by decide) (fun K hK => ?_) (fun K hK => ?_)
        · skip
          refine call_ 75 #[.int .i64 4, .pointer (some ⟨b, 6, none⟩)] (by rfl) rfl ?hr ?_
          (case hr => first | rfl | (go_simp; done) | (go_simp; rfl))
          refine (number_calls 4 b 6 _).mono ?_
          rintro e' w3 ⟨rfl, hb⟩
          refine ⟨_, rfl, ?_⟩
          have HB := Aside0.mk (HB.out.trans (hb.mono HB.out.size))
          have H9 := Aside0.mk ((hb.block _ (blk_ltn H9.out)).trans H9.out)
          clear hb
          refine hK.out _ _ trivial (fun hHeld => ?_)
          clear hK K
          refine norm_ (a' := ?_) ?_ ?_
          rotate_left
          · show Act.put _ (some 12) _ = _
            simp only [Act.put, List.setIfInBounds_toArray, List.set_cons_zero, List.set_cons_succ, i64_w, i32_w]
            rfl
          refine one_ (i := 8) (N := some 3) #[true, true, true, true, true, true, true, true, true, true, false, false] rfl rfl (one_of HT_.out (by kernel_rfl)) (by decide) (fun K hK => ?_)
          refine value_ (w1 := ?_) (v := ?_) (by rfl) rfl ?_ ?_
          rotate_left 2
          · go_simp
            constructor
            · rfl
            · rfl
          have hb := (Below.refl w3.heap.size w3).alloc (Nat.le_refl _) (.cells #[.int .i64 0, .pointer none, .pointer none, .pointer none] 78)
          have hn := heap_alloc_new w3 (.cells #[.int .i64 0, .pointer none, .pointer none, .pointer none] 78)
          have hlt9 := blk_ltn H9.out
          have H9 := Aside0.mk ((hb.block _ (blk_ltn H9.out)).trans H9.out)
          have hle := HB.out.size
          have HB := Aside0.mk (HB.out.trans (hb.mono HB.out.size))
          obtain ⟨w4, hw_⟩ : ∃ W, w3.alloc (.cells #[.int .i64 0, .pointer none, .pointer none, .pointer none] 78) = W := ⟨_, rfl⟩
          obtain ⟨b8, hb_⟩ : ∃ x, w3.heap.size = x := ⟨_, rfl⟩
          rw [hw_] at HB hn H9 ⊢
          rw [hb_] at hn hle hlt9 ⊢
          have HN := Aside0.mk (show b8 ≠ b9 by omega)
          have H8 := Aside0.mk hn
          have HL8 := Aside0.mk hle
          clear hb hn hw_ hb_ hle hlt9
          refine hK.out _ _ trivial (fun hHeld => ?_)
          clear hK K
          refine norm_ (a' := ?_) ?_ ?_
          rotate_left
          · show Act.put _ (some 3) _ = _
            simp only [Act.put, List.setIfInBounds_toArray, List.set_cons_zero, List.set_cons_succ, i64_w, i32_w]
            rfl
          exact norm_ (by simp only [putAll, Act.put, List.setIfInBounds_toArray, List.set_cons_zero, List.set_cons_succ]) (hCont (b8, b9) _ ⟨H8.out, H9.out, HN.out, HL8.out, HL9.out, HB.out⟩)
        · skip
          refine value_ (w1 := ?_) (v := ?_) (by rfl) rfl ?_ ?_
          rotate_left 2
          · go_simp
            constructor
            · rfl
            · rfl
          have hb := (Below.refl w2.heap.size w2).alloc (Nat.le_refl _) (.cells #[.int .i64 0, .pointer none, .pointer none, .pointer none] 78)
          have hn := heap_alloc_new w2 (.cells #[.int .i64 0, .pointer none, .pointer none, .pointer none] 78)
          have hlt9 := blk_ltn H9.out
          have H9 := Aside0.mk ((hb.block _ (blk_ltn H9.out)).trans H9.out)
          have hle := HB.out.size
          have HB := Aside0.mk (HB.out.trans (hb.mono HB.out.size))
          obtain ⟨w3, hw_⟩ : ∃ W, w2.alloc (.cells #[.int .i64 0, .pointer none, .pointer none, .pointer none] 78) = W := ⟨_, rfl⟩
          obtain ⟨b8, hb_⟩ : ∃ x, w2.heap.size = x := ⟨_, rfl⟩
          rw [hw_] at HB hn H9 ⊢
          rw [hb_] at hn hle hlt9 ⊢
          have HN := Aside0.mk (show b8 ≠ b9 by omega)
          have H8 := Aside0.mk hn
          have HL8 := Aside0.mk hle
          clear hb hn hw_ hb_ hle hlt9
          refine hK.out _ _ trivial (fun hHeld => ?_)
          clear hK K
          refine norm_ (a' := ?_) ?_ ?_
          rotate_left
          · show Act.put _ (some 3) _ = _
            simp only [Act.put, List.setIfInBounds_toArray, List.set_cons_zero, List.set_cons_succ, i64_w, i32_w]
            rfl
          refine one_ (i := 7) (N := some 12) #[true, true, true, true, true, true, true, true, true, true, false, false] rfl rfl (one_of HT_.out (by kernel_rfl)) (by decide) (fun K hK => ?_)
          refine call_ 75 #[.int .i64 4, .pointer (some ⟨b, 6, none⟩)] (by rfl) rfl ?hr ?_
          (case hr => first | rfl | (go_simp; done) | (go_simp; rfl))
          refine (number_calls 4 b 6 _).mono ?_
          rintro e' w4 ⟨rfl, hb⟩
          refine ⟨_, rfl, ?_⟩
          have HB := Aside0.mk (HB.out.trans (hb.mono HB.out.size))
          have H8 := Aside0.mk ((hb.block _ (blk_ltn H8.out)).trans H8.out)
          have H9 := Aside0.mk ((hb.block _ (blk_ltn H9.out)).trans H9.out)
          clear hb
          refine hK.out _ _ trivial (fun hHeld => ?_)
          clear hK K
          refine norm_ (a' := ?_) ?_ ?_
          rotate_left
          · show Act.put _ (some 12) _ = _
            simp only [Act.put, List.setIfInBounds_toArray, List.set_cons_zero, List.set_cons_succ, i64_w, i32_w]
            rfl
          exact norm_ (by simp only [putAll, Act.put, List.setIfInBounds_toArray, List.set_cons_zero, List.set_cons_succ]) (hCont (b8, b9) _ ⟨H8.out, H9.out, HN.out, HL8.out, HL9.out, HB.out⟩)
      · skip
        refine value_ (w1 := ?_) (v := ?_) (by rfl) rfl ?_ ?_
        rotate_left 2
        · go_simp
          constructor
          · rfl
          · rfl
        have hb := (Below.refl w1.heap.size w1).alloc (Nat.le_refl _) (.cells #[.int .i64 0, .pointer none, .pointer none, .pointer none] 78)
        have hn := heap_alloc_new w1 (.cells #[.int .i64 0, .pointer none, .pointer none, .pointer none] 78)
        have hlt9 := blk_ltn H9.out
        have H9 := Aside0.mk ((hb.block _ (blk_ltn H9.out)).trans H9.out)
        have hle := HB.out.size
        have HB := Aside0.mk (HB.out.trans (hb.mono HB.out.size))
        obtain ⟨w2, hw_⟩ : ∃ W, w1.alloc (.cells #[.int .i64 0, .pointer none, .pointer none, .pointer none] 78) = W := ⟨_, rfl⟩
        obtain ⟨b8, hb_⟩ : ∃ x, w1.heap.size = x := ⟨_, rfl⟩
        rw [hw_] at HB hn H9 ⊢
        rw [hb_] at hn hle hlt9 ⊢
        have HN := Aside0.mk (show b8 ≠ b9 by omega)
        have H8 := Aside0.mk hn
        have HL8 := Aside0.mk hle
        clear hb hn hw_ hb_ hle hlt9
        refine hK.out _ _ trivial (fun hHeld => ?_)
        clear hK K
        refine norm_ (a' := ?_) ?_ ?_
        rotate_left
        · show Act.put _ (some 3) _ = _
          simp only [Act.put, List.setIfInBounds_toArray, List.set_cons_zero, List.set_cons_succ, i64_w, i32_w]
          rfl
        refine one_ (i := 3) (N := some 8) #[true, true, true, true, true, true, true, false, true, true, false, false] rfl rfl (one_of HT_.out (by kernel_rfl)) (by decide) (fun K hK => ?_)
        refine call_ 75 #[.int .i64 4, .pointer (some ⟨b, 5, none⟩)] (by rfl) rfl ?hr ?_
        (case hr => first | rfl | (go_simp; done) | (go_simp; rfl))
        refine (number_calls 4 b 5 _).mono ?_
        rintro e' w3 ⟨rfl, hb⟩
        refine ⟨_, rfl, ?_⟩
        have HB := Aside0.mk (HB.out.trans (hb.mono HB.out.size))
        have H8 := Aside0.mk ((hb.block _ (blk_ltn H8.out)).trans H8.out)
        have H9 := Aside0.mk ((hb.block _ (blk_ltn H9.out)).trans H9.out)
        clear hb
        refine hK.out _ _ trivial (fun hHeld => ?_)
        clear hK K
        refine norm_ (a' := ?_) ?_ ?_
        rotate_left
        · show Act.put _ (some 8) _ = _
          simp only [Act.put, List.setIfInBounds_toArray, List.set_cons_zero, List.set_cons_succ, i64_w, i32_w]
          rfl
        refine one_ (i := 7) (N := some 12) #[true, true, true, true, true, true, true, true, true, true, false, false] rfl rfl (one_of HT_.out (by kernel_rfl)) (by decide) (fun K hK => ?_)
        refine call_ 75 #[.int .i64 4, .pointer (some ⟨b, 6, none⟩)] (by rfl) rfl ?hr ?_
        (case hr => first | rfl | (go_simp; done) | (go_simp; rfl))
        refine (number_calls 4 b 6 _).mono ?_
        rintro e' w4 ⟨rfl, hb⟩
        refine ⟨_, rfl, ?_⟩
        have HB := Aside0.mk (HB.out.trans (hb.mono HB.out.size))
        have H8 := Aside0.mk ((hb.block _ (blk_ltn H8.out)).trans H8.out)
        have H9 := Aside0.mk ((hb.block _ (blk_ltn H9.out)).trans H9.out)
        clear hb
        refine hK.out _ _ trivial (fun hHeld => ?_)
        clear hK K
        refine norm_ (a' := ?_) ?_ ?_
        rotate_left
        · show Act.put _ (some 12) _ = _
          simp only [Act.put, List.setIfInBounds_toArray, List.set_cons_zero, List.set_cons_succ, i64_w, i32_w]
          rfl
        exact norm_ (by simp only [putAll, Act.put, List.setIfInBounds_toArray, List.set_cons_zero, List.set_cons_succ]) (hCont (b8, b9) _ ⟨H8.out, H9.out, HN.out, HL8.out, HL9.out, HB.out⟩)
  rintro ⟨b8, b9⟩ w5 ⟨h8, h9, hn, hl8, hl9, hb⟩
  dsimp only at h8 h9 hn hl8 hl9 hb ⊢
  have hf8 := fun x => blk_frozen h8 x
  have hf9 := fun x => blk_frozen h9 x
  have hc80 : w5.cell? ⟨b8, 0, none⟩ = some (.int .i64 0) := (blk_cell h8 0).trans rfl
  have hc81 : w5.cell? ⟨b8, 1, none⟩ = some (.pointer none) := (blk_cell h8 1).trans rfl
  have hc82 : w5.cell? ⟨b8, 2, none⟩ = some (.pointer none) := (blk_cell h8 2).trans rfl
  have hc83 : w5.cell? ⟨b8, 3, none⟩ = some (.pointer none) := (blk_cell h8 3).trans rfl
  have hc90 : w5.cell? ⟨b9, 0, none⟩ = some (.int .i64 0) := (blk_cell h9 0).trans rfl
  have hc91 : w5.cell? ⟨b9, 1, none⟩ = some (.pointer none) := (blk_cell h9 1).trans rfl
  have hc92 : w5.cell? ⟨b9, 2, none⟩ = some (.pointer none) := (blk_cell h9 2).trans rfl
  have hc93 : w5.cell? ⟨b9, 3, none⟩ = some (.pointer none) := (blk_cell h9 3).trans rfl
  have hn8 : b9 ≠ b8 := fun e => hn e.symm
  have hn9 : (b8 = b9) = False := eq_false hn
  have hn8f : (b9 = b8) = False := eq_false hn8
  have H8 := Aside0.mk h8
  have H9 := Aside0.mk h9
  have HN := Aside0.mk hn
  have HL8 := Aside0.mk hl8
  have HL9 := Aside0.mk hl9
  have HB := Aside0.mk hb
  clear h8 h9 hn hl8 hl9 hb
  have hHeld : True := trivial
  refine norm_ (a' := ?_) ?_ ?_
  rotate_left
  · simp only [putAll, Act.put, List.setIfInBounds_toArray, List.set_cons_zero, List.set_cons_succ]
    rfl
  refine last_ (i := 10) (N := none) #[true, true, true, true, true, true, true, true, true, true, true, false] rfl rfl (one_of HT_.out (by kernel_rfl)) (by decide) (fun K hK => ?_)
  refine skip_ (w1 := ?_) (by rfl) rfl ?_ ?_
  rotate_left
  · go_simp
    rfl
  refine hK.out _ _ ?_
  clear hK K
  refine last_ (i := 11) (N := none) #[true, true, true, true, true, true, true, true, true, true, true, true] rfl rfl (one_of HT_.out (by kernel_rfl)) (by decide) (fun K hK => ?_)
  refine skip_ (w1 := ?_) (by rfl) rfl ?_ ?_
  rotate_left
  · go_simp
    rfl
  refine hK.out _ _ ?_
  clear hK K
  refine done_ (done_of HT_.out (by kernel_rfl)) ?_
  go_upto_region 2 with fail
  obtain ⟨W5, hW5⟩ : ∃ W, ((((((((w5.setCell ⟨b8, 0, none⟩ (.int .i64 4)).setCell ⟨b8, 1, none⟩ (.pointer (some ⟨b, 5, none⟩))).setCell ⟨b8, 2, none⟩ (.pointer none)).setCell ⟨b8, 3, none⟩ (.pointer none)).setCell ⟨b9, 0, none⟩ (.int .i64 4)).setCell ⟨b9, 1, none⟩ (.pointer (some ⟨b, 6, none⟩))).setCell ⟨b9, 2, none⟩ (.pointer none)).setCell ⟨b9, 3, none⟩ (.pointer none)) = W := ⟨_, rfl⟩
  rw [hW5]
  have HX := Aside0.mk (show W5.heap[b8]? = some (.cells #[.int .i64 4, .pointer (some ⟨b, 5, none⟩), .pointer none, .pointer none] 78 (0, 0)) by rw [← hW5]; exact (four_other HN.out _ _ _ _).trans (four_set H8.out _ _ _ _))
  have HX9 := Aside0.mk (show W5.heap[b9]? = some (.cells #[.int .i64 4, .pointer (some ⟨b, 6, none⟩), .pointer none, .pointer none] 78 (0, 0)) by rw [← hW5]; exact four_set ((four_other (fun e => HN.out e.symm) _ _ _ _).trans H9.out) _ _ _ _)
  have HB := Aside0.mk (show Below w.heap.size w W5 by rw [← hW5]; exact four_below (four_below HB.out HL8.out _ _ _ _) HL9.out _ _ _ _)
  clear hW5 hf8 hf9 hc80 hc81 hc82 hc83 hc90 hc91 hc92 hc93 H8 H9
  have H8 := HX
  have H9 := HX9
  clear HX HX9 hn8 hn9 hn8f hHeld
  have hk := (HB.out.cell HKB.out).trans HK.out
  by_cases k1 : q.kind = 1
  · have hP : partsV b q = [.text ⟨b, 2, none⟩ q.path, .num 1 ⟨b, 4, none⟩ q.how] := by unfold partsV; rw [if_pos k1]
    rw [k1] at hk
    have HP := Aside0.mk hP
    clear hP k1
    go_upto_region 4 with fail
    refine start_ (n := 10) (S := fun w' => True) (ds := []) #[false, false, false, false, false, false, false, false, false, false] (by kernel_rfl) rfl rfl trivial (fun hHeld => ?_)
    refine with_tabW parts4.tab4 parts4.bits4 (fun HT_ HW_ => ?_)
    have HB := Aside0.mk (below_drew1 HB.out)
    generalize W5.drew = wd at HB hHeld ⊢
    refine pure_ (i := 0) (N := some 19) (v := ?_) (a' := ?_) #[true, false, false, false, false, false, false, false, false, false] rfl rfl (any_of HT_.out (by kernel_rfl)) (fun _ _ _ h => h) (Or.inl ⟨by rfl, ?_⟩) ?_ ?_
    rotate_left
    · intro w'
      go_simp
      with_reducible rfl
    rotate_left
    · simp only [Act.put, List.setIfInBounds_toArray, List.set_cons_zero, List.set_cons_succ, i64_w, i32_w]
      rfl
    refine pure_ (i := 1) (N := some 20) (v := ?_) (a' := ?_) #[true, true, false, false, false, false, false, false, false, false] rfl rfl (any_of HT_.out (by kernel_rfl)) (fun _ _ _ h => h) (Or.inl ⟨by rfl, ?_⟩) ?_ ?_
    rotate_left
    · intro w'
      go_simp
      with_reducible rfl
    rotate_left
    · simp only [Act.put, List.setIfInBounds_toArray, List.set_cons_zero, List.set_cons_succ, i64_w, i32_w]
      rfl
    refine pure_ (i := 2) (N := some 21) (v := ?_) (a' := ?_) #[true, true, true, false, false, false, false, false, false, false] rfl rfl (any_of HT_.out (by kernel_rfl)) (fun _ _ _ h => h) (Or.inl ⟨by rfl, ?_⟩) ?_ ?_
    rotate_left
    · intro w'
      go_simp
      with_reducible rfl
    rotate_left
    · simp only [Act.put, List.setIfInBounds_toArray, List.set_cons_zero, List.set_cons_succ, i64_w, i32_w]
      rfl
    refine pure_ (i := 4) (N := some 23) (v := ?_) (a' := ?_) #[true, true, true, false, true, false, false, false, false, false] rfl rfl (any_of HT_.out (by kernel_rfl)) (fun _ _ _ h => h) (Or.inl ⟨by rfl, ?_⟩) ?_ ?_
    rotate_left
    · intro w'
      go_simp
      with_reducible rfl
    rotate_left
    · simp only [Act.put, List.setIfInBounds_toArray, List.set_cons_zero, List.set_cons_succ, i64_w, i32_w]
      rfl
    refine pure_ (i := 5) (N := some 24) (v := ?_) (a' := ?_) #[true, true, true, false, true, true, false, false, false, false] rfl rfl (any_of HT_.out (by kernel_rfl)) (fun _ _ _ h => h) (Or.inl ⟨by rfl, ?_⟩) ?_ ?_
    rotate_left
    · intro w'
      go_simp
      with_reducible rfl
    rotate_left
    · simp only [Act.put, List.setIfInBounds_toArray, List.set_cons_zero, List.set_cons_succ, i64_w, i32_w]
      rfl
    refine pure_ (i := 6) (N := some 25) (v := ?_) (a' := ?_) #[true, true, true, false, true, true, true, false, false, false] rfl rfl (any_of HT_.out (by kernel_rfl)) (fun _ _ _ h => h) (Or.inl ⟨by rfl, ?_⟩) ?_ ?_
    rotate_left
    · intro w'
      go_simp
      with_reducible rfl
    rotate_left
    · simp only [Act.put, List.setIfInBounds_toArray, List.set_cons_zero, List.set_cons_succ, i64_w, i32_w]
      rfl
    refine one_ (i := 3) (N := some 22) #[true, true, true, true, true, true, true, false, false, false] rfl rfl (one_of HT_.out (by kernel_rfl)) (by decide) (fun K hK => ?_)
    refine call_ 55 #[.pointer (some ⟨b, 2, none⟩)] (by rfl) rfl ?hr ?_
    (case hr => first | rfl | (go_simp; done) | (go_simp; rfl))
    refine (text_calls b 2 ⟨#[]⟩ _).mono ?_
    rintro e' w1 ⟨rfl, hb⟩
    refine ⟨_, rfl, ?_⟩
    have HB := Aside0.mk (HB.out.trans (hb.mono HB.out.size))
    clear hb
    refine hK.out _ _ trivial (fun hHeld => ?_)
    clear hK K
    refine norm_ (a' := ?_) ?_ ?_
    rotate_left
    · show Act.put _ (some 22) _ = _
      simp only [Act.put, List.setIfInBounds_toArray, List.set_cons_zero, List.set_cons_succ, i64_w, i32_w]
      rfl
    refine one_ (i := 7) (N := some 26) #[true, true, true, true, true, true, true, true, false, false] rfl rfl (one_of HT_.out (by kernel_rfl)) (by decide) (fun K hK => ?_)
    refine call_ 75 #[.int .i64 1, .pointer (some ⟨b, 4, none⟩)] (by rfl) rfl ?hr ?_
    (case hr => first | rfl | (go_simp; done) | (go_simp; rfl))
    refine (number_calls 1 b 4 _).mono ?_
    rintro e' w2 ⟨rfl, hb⟩
    refine ⟨_, rfl, ?_⟩
    have HB := Aside0.mk (HB.out.trans (hb.mono HB.out.size))
    clear hb
    refine hK.out _ _ trivial (fun hHeld => ?_)
    clear hK K
    refine norm_ (a' := ?_) ?_ ?_
    rotate_left
    · show Act.put _ (some 26) _ = _
      simp only [Act.put, List.setIfInBounds_toArray, List.set_cons_zero, List.set_cons_succ, i64_w, i32_w]
      rfl
    refine one_ (i := 8) (N := some 27) #[true, true, true, true, true, true, true, true, true, false] rfl rfl (one_of HT_.out (by kernel_rfl)) (by decide) (fun K hK => ?_)
    refine value_ (w1 := ?_) (v := ?_) (by rfl) rfl ?_ ?_
    rotate_left 2
    · go_simp
      constructor
      · rfl
      · rfl
    have HR_ := Aside0.mk (kpv_lit ([.text ⟨b, 2, none⟩ q.path, .num 1 ⟨b, 4, none⟩ q.how]) w2 w.heap.size HB.out.size (by simp))
    have HB := Aside0.mk (HB.out.alloc HB.out.size (.cells (List.flatMap Pv.cells ([.text ⟨b, 2, none⟩ q.path, .num 1 ⟨b, 4, none⟩ q.how] : List Pv)).toArray 78))
    refine hK.out _ _ trivial (fun hHeld => ?_)
    clear hK K
    refine norm_ (a' := ?_) ?_ ?_
    rotate_left
    · show Act.put _ (some 27) _ = _
      simp only [Act.put, List.setIfInBounds_toArray, List.set_cons_zero, List.set_cons_succ, i64_w, i32_w]
      rfl
    refine pure_ (i := 9) (N := some 2) (v := ?_) (a' := ?_) #[true, true, true, true, true, true, true, true, true, true] rfl rfl (any_of HT_.out (by kernel_rfl)) (fun _ _ _ h => h) (Or.inl ⟨by rfl, ?_⟩) ?_ ?_
    rotate_left
    · intro w'
      go_simp
      with_reducible rfl
    rotate_left
    · simp only [Act.put, List.setIfInBounds_toArray, List.set_cons_zero, List.set_cons_succ, i64_w, i32_w]
      rfl
    refine done_ (done_of HT_.out (by kernel_rfl)) ?_
    go_wp2
    go_ret
    exact ⟨_, rfl, by rw [HP.out]; exact HR_.out, HB.out⟩
  · have e1 : (q.kind == 1) = false := beq_eq_false_iff_ne.2 k1
    by_cases k2 : q.kind = 2
    · have hP : partsV b q = [.num 4 ⟨b, 5, none⟩ q.handle] := by unfold partsV; rw [if_neg k1]; rw [if_pos k2]
      rw [k2] at hk
      have HP := Aside0.mk hP
      clear hP k1 k2
      have hz0 : W5.cell? ⟨b8, 0, none⟩ = some (.int .i64 4) := (blk_cell H8.out 0).trans rfl
      have hz1 : W5.cell? ⟨b8, 1, none⟩ = some (.pointer (some ⟨b, 5, none⟩)) := (blk_cell H8.out 1).trans rfl
      have hz2 : W5.cell? ⟨b8, 2, none⟩ = some (.pointer none) := (blk_cell H8.out 2).trans rfl
      have hz3 : W5.cell? ⟨b8, 3, none⟩ = some (.pointer none) := (blk_cell H8.out 3).trans rfl
      have HR_ := Aside0.mk (kpv_lit ([.num 4 ⟨b, 5, none⟩ q.handle]) W5 w.heap.size HB.out.size (by simp))
      have HB := Aside0.mk (HB.out.alloc HB.out.size (.cells (List.flatMap Pv.cells ([.num 4 ⟨b, 5, none⟩ q.handle] : List Pv)).toArray 78))
      go_wp2
      go_ret
      exact ⟨_, rfl, by rw [HP.out]; exact HR_.out, HB.out⟩
    · have e2 : (q.kind == 2) = false := beq_eq_false_iff_ne.2 k2
      by_cases k3 : q.kind = 3
      · have hP : partsV b q = [.num 4 ⟨b, 5, none⟩ q.handle, .num 4 ⟨b, 6, none⟩ q.at_, .num 2 ⟨b, 7, none⟩ q.count] := by unfold partsV; rw [if_neg k1]; rw [if_neg k2]; rw [if_pos k3]
        rw [k3] at hk
        have HP := Aside0.mk hP
        clear hP k1 k2 k3
        go_upto_region 8 with fail
        refine start_ (n := 8) (S := fun w' => w'.cell? ⟨b8, 0, none⟩ = some (.int .i64 4) ∧ w'.cell? ⟨b8, 1, none⟩ = some (.pointer (some ⟨b, 5, none⟩)) ∧ w'.cell? ⟨b8, 2, none⟩ = some (.pointer none) ∧ w'.cell? ⟨b8, 3, none⟩ = some (.pointer none) ∧ w'.cell? ⟨b9, 0, none⟩ = some (.int .i64 4) ∧ w'.cell? ⟨b9, 1, none⟩ = some (.pointer (some ⟨b, 6, none⟩)) ∧ w'.cell? ⟨b9, 2, none⟩ = some (.pointer none) ∧ w'.cell? ⟨b9, 3, none⟩ = some (.pointer none)) (ds := [6]) #[false, false, false, false, false, false, false, false] (by kernel_rfl) rfl rfl ⟨(blk_cell H8.out 0).trans rfl, (blk_cell H8.out 1).trans rfl, (blk_cell H8.out 2).trans rfl, (blk_cell H8.out 3).trans rfl, (blk_cell H9.out 0).trans rfl, (blk_cell H9.out 1).trans rfl, (blk_cell H9.out 2).trans rfl, (blk_cell H9.out 3).trans rfl⟩ (fun hHeld => ?_)
        refine with_tabW parts8.tab8 parts8.bits8 (fun HT_ HW_ => ?_)
        have HB := Aside0.mk (below_drew1 HB.out)
        have H8 := Aside0.mk (show W5.drew.heap[b8]? = _ from H8.out)
        have H9 := Aside0.mk (show W5.drew.heap[b9]? = _ from H9.out)
        generalize W5.drew = wd at HB H8 H9 hHeld ⊢
        refine pure_ (i := 2) (N := some 36) (v := ?_) (a' := ?_) #[false, false, true, false, false, false, false, false] rfl rfl (any_of HT_.out (by kernel_rfl)) (fun _ _ _ h => h) (Or.inl ⟨by rfl, ?_⟩) ?_ ?_
        rotate_left
        · intro w'
          go_simp
          with_reducible rfl
        rotate_left
        · simp only [Act.put, List.setIfInBounds_toArray, List.set_cons_zero, List.set_cons_succ, i64_w, i32_w]
          rfl
        refine pure_ (i := 3) (N := some 37) (v := ?_) (a' := ?_) #[false, false, true, true, false, false, false, false] rfl rfl (any_of HT_.out (by kernel_rfl)) (fun _ _ _ h => h) (Or.inl ⟨by rfl, ?_⟩) ?_ ?_
        rotate_left
        · intro w'
          go_simp
          with_reducible rfl
        rotate_left
        · simp only [Act.put, List.setIfInBounds_toArray, List.set_cons_zero, List.set_cons_succ, i64_w, i32_w]
          rfl
        refine pure_ (i := 4) (N := some 38) (v := ?_) (a' := ?_) #[false, false, true, true, true, false, false, false] rfl rfl (any_of HT_.out (by kernel_rfl)) (fun _ _ _ h => h) (Or.inl ⟨by rfl, ?_⟩) ?_ ?_
        rotate_left
        · intro w'
          go_simp
          with_reducible rfl
        rotate_left
        · simp only [Act.put, List.setIfInBounds_toArray, List.set_cons_zero, List.set_cons_succ, i64_w, i32_w]
          rfl
        refine take_ (i := 0) (N := some 34) (v := ?_) (a' := ?_) #[true, false, true, true, true, false, false, false] rfl rfl (take_ofW HT_.out HW_.out (by kernel_rfl)) (fun _ _ _ h => h) (Or.inl ⟨by rfl, ?_⟩) hHeld ?_ ?_
        rotate_left
        · rintro w' ⟨s0, s1, s2, s3, s4, s5, s6, s7⟩
          go_simp
          with_reducible rfl
        rotate_left
        · simp only [Act.put, List.setIfInBounds_toArray, List.set_cons_zero, List.set_cons_succ, i64_w, i32_w]
          rfl
        refine take_ (i := 1) (N := some 35) (v := ?_) (a' := ?_) #[true, true, true, true, true, false, false, false] rfl rfl (take_ofW HT_.out HW_.out (by kernel_rfl)) (fun _ _ _ h => h) (Or.inl ⟨by rfl, ?_⟩) hHeld ?_ ?_
        rotate_left
        · rintro w' ⟨s0, s1, s2, s3, s4, s5, s6, s7⟩
          go_simp
          with_reducible rfl
        rotate_left
        · simp only [Act.put, List.setIfInBounds_toArray, List.set_cons_zero, List.set_cons_succ, i64_w, i32_w]
          rfl
        refine one_ (i := 5) (N := some 39) #[true, true, true, true, true, true, false, false] rfl rfl (one_of HT_.out (by kernel_rfl)) (by decide) (fun K hK => ?_)
        refine call_ 75 #[.int .i64 2, .pointer (some ⟨b, 7, none⟩)] (by rfl) rfl ?hr ?_
        (case hr => first | rfl | (go_simp; done) | (go_simp; rfl))
        refine (number_calls 2 b 7 _).mono ?_
        rintro e' w1 ⟨rfl, hb⟩
        refine ⟨_, rfl, ?_⟩
        have HB := Aside0.mk (HB.out.trans (hb.mono HB.out.size))
        have H8 := Aside0.mk ((hb.block _ (blk_ltn H8.out)).trans H8.out)
        have H9 := Aside0.mk ((hb.block _ (blk_ltn H9.out)).trans H9.out)
        clear hb
        refine hK.out _ _ ⟨(blk_cell H8.out 0).trans rfl, (blk_cell H8.out 1).trans rfl, (blk_cell H8.out 2).trans rfl, (blk_cell H8.out 3).trans rfl, (blk_cell H9.out 0).trans rfl, (blk_cell H9.out 1).trans rfl, (blk_cell H9.out 2).trans rfl, (blk_cell H9.out 3).trans rfl⟩ (fun hHeld => ?_)
        clear hK K
        refine norm_ (a' := ?_) ?_ ?_
        rotate_left
        · show Act.put _ (some 39) _ = _
          simp only [Act.put, List.setIfInBounds_toArray, List.set_cons_zero, List.set_cons_succ, i64_w, i32_w]
          rfl
        refine last_ (i := 6) (N := some 40) #[true, true, true, true, true, true, true, false] rfl rfl (one_of HT_.out (by kernel_rfl)) (by decide) (fun K hK => ?_)
        refine value_ (w1 := ?_) (v := ?_) (by rfl) rfl ?_ ?_
        rotate_left 2
        · go_simp
          constructor
          · rfl
          · rfl
        have HR_ := Aside0.mk (kpv_lit ([.num 4 ⟨b, 5, none⟩ q.handle, .num 4 ⟨b, 6, none⟩ q.at_, .num 2 ⟨b, 7, none⟩ q.count]) w1 w.heap.size HB.out.size (by simp))
        have HB := Aside0.mk (HB.out.alloc HB.out.size (.cells (List.flatMap Pv.cells ([.num 4 ⟨b, 5, none⟩ q.handle, .num 4 ⟨b, 6, none⟩ q.at_, .num 2 ⟨b, 7, none⟩ q.count] : List Pv)).toArray 78))
        refine hK.out _ _ ?_
        clear hK K
        refine norm_ (a' := ?_) ?_ ?_
        rotate_left
        · show Act.put _ (some 40) _ = _
          simp only [Act.put, List.setIfInBounds_toArray, List.set_cons_zero, List.set_cons_succ, i64_w, i32_w]
          rfl
        refine pure_ (i := 7) (N := some 2) (v := ?_) (a' := ?_) #[true, true, true, true, true, true, true, true] rfl rfl (any_of HT_.out (by kernel_rfl)) (fun _ _ _ h => h) (Or.inl ⟨by rfl, ?_⟩) ?_ ?_
        rotate_left
        · intro w'
          go_simp
          with_reducible rfl
        rotate_left
        · simp only [Act.put, List.setIfInBounds_toArray, List.set_cons_zero, List.set_cons_succ, i64_w, i32_w]
          rfl
        refine done_ (done_of HT_.out (by kernel_rfl)) ?_
        go_wp2
        go_ret
        exact ⟨_, rfl, by rw [HP.out]; exact HR_.out, HB.out⟩
      · have e3 : (q.kind == 3) = false := beq_eq_false_iff_ne.2 k3
        by_cases k4 : q.kind = 4
        · have hP : partsV b q = [.num 4 ⟨b, 5, none⟩ q.handle, .num 4 ⟨b, 6, none⟩ q.at_, .data ⟨b, 8, none⟩ q.dA q.data q.dc] := by unfold partsV; rw [if_neg k1]; rw [if_neg k2]; rw [if_neg k3]; rw [if_pos k4]
          rw [k4] at hk
          have HP := Aside0.mk hP
          clear hP k1 k2 k3 k4
          go_upto_region 10 with fail
          refine start_ (n := 8) (S := fun w' => w'.cell? ⟨b8, 0, none⟩ = some (.int .i64 4) ∧ w'.cell? ⟨b8, 1, none⟩ = some (.pointer (some ⟨b, 5, none⟩)) ∧ w'.cell? ⟨b8, 2, none⟩ = some (.pointer none) ∧ w'.cell? ⟨b8, 3, none⟩ = some (.pointer none) ∧ w'.cell? ⟨b9, 0, none⟩ = some (.int .i64 4) ∧ w'.cell? ⟨b9, 1, none⟩ = some (.pointer (some ⟨b, 6, none⟩)) ∧ w'.cell? ⟨b9, 2, none⟩ = some (.pointer none) ∧ w'.cell? ⟨b9, 3, none⟩ = some (.pointer none)) (ds := [6]) #[false, false, false, false, false, false, false, false] (by kernel_rfl) rfl rfl ⟨(blk_cell H8.out 0).trans rfl, (blk_cell H8.out 1).trans rfl, (blk_cell H8.out 2).trans rfl, (blk_cell H8.out 3).trans rfl, (blk_cell H9.out 0).trans rfl, (blk_cell H9.out 1).trans rfl, (blk_cell H9.out 2).trans rfl, (blk_cell H9.out 3).trans rfl⟩ (fun hHeld => ?_)
          refine with_tabW parts10.tab10 parts10.bits10 (fun HT_ HW_ => ?_)
          have HB := Aside0.mk (below_drew1 HB.out)
          have H8 := Aside0.mk (show W5.drew.heap[b8]? = _ from H8.out)
          have H9 := Aside0.mk (show W5.drew.heap[b9]? = _ from H9.out)
          generalize W5.drew = wd at HB H8 H9 hHeld ⊢
          refine pure_ (i := 2) (N := some 45) (v := ?_) (a' := ?_) #[false, false, true, false, false, false, false, false] rfl rfl (any_of HT_.out (by kernel_rfl)) (fun _ _ _ h => h) (Or.inl ⟨by rfl, ?_⟩) ?_ ?_
          rotate_left
          · intro w'
            go_simp
            with_reducible rfl
          rotate_left
          · simp only [Act.put, List.setIfInBounds_toArray, List.set_cons_zero, List.set_cons_succ, i64_w, i32_w]
            rfl
          refine pure_ (i := 3) (N := some 46) (v := ?_) (a' := ?_) #[false, false, true, true, false, false, false, false] rfl rfl (any_of HT_.out (by kernel_rfl)) (fun _ _ _ h => h) (Or.inl ⟨by rfl, ?_⟩) ?_ ?_
          rotate_left
          · intro w'
            go_simp
            with_reducible rfl
          rotate_left
          · simp only [Act.put, List.setIfInBounds_toArray, List.set_cons_zero, List.set_cons_succ, i64_w, i32_w]
            rfl
          refine pure_ (i := 4) (N := some 47) (v := ?_) (a' := ?_) #[false, false, true, true, true, false, false, false] rfl rfl (any_of HT_.out (by kernel_rfl)) (fun _ _ _ h => h) (Or.inl ⟨by rfl, ?_⟩) ?_ ?_
          rotate_left
          · intro w'
            go_simp
            with_reducible rfl
          rotate_left
          · simp only [Act.put, List.setIfInBounds_toArray, List.set_cons_zero, List.set_cons_succ, i64_w, i32_w]
            rfl
          refine take_ (i := 0) (N := some 43) (v := ?_) (a' := ?_) #[true, false, true, true, true, false, false, false] rfl rfl (take_ofW HT_.out HW_.out (by kernel_rfl)) (fun _ _ _ h => h) (Or.inl ⟨by rfl, ?_⟩) hHeld ?_ ?_
          rotate_left
          · rintro w' ⟨s0, s1, s2, s3, s4, s5, s6, s7⟩
            go_simp
            with_reducible rfl
          rotate_left
          · simp only [Act.put, List.setIfInBounds_toArray, List.set_cons_zero, List.set_cons_succ, i64_w, i32_w]
            rfl
          refine take_ (i := 1) (N := some 44) (v := ?_) (a' := ?_) #[true, true, true, true, true, false, false, false] rfl rfl (take_ofW HT_.out HW_.out (by kernel_rfl)) (fun _ _ _ h => h) (Or.inl ⟨by rfl, ?_⟩) hHeld ?_ ?_
          rotate_left
          · rintro w' ⟨s0, s1, s2, s3, s4, s5, s6, s7⟩
            go_simp
            with_reducible rfl
          rotate_left
          · simp only [Act.put, List.setIfInBounds_toArray, List.set_cons_zero, List.set_cons_succ, i64_w, i32_w]
            rfl
          refine one_ (i := 5) (N := some 48) #[true, true, true, true, true, true, false, false] rfl rfl (one_of HT_.out (by kernel_rfl)) (by decide) (fun K hK => ?_)
          refine call_ 76 #[.pointer (some ⟨b, 8, none⟩)] (by rfl) rfl ?hr ?_
          (case hr => first | rfl | (go_simp; done) | (go_simp; rfl))
          refine (data_calls b 8 _).mono ?_
          rintro e' w1 ⟨rfl, hb⟩
          refine ⟨_, rfl, ?_⟩
          have HB := Aside0.mk (HB.out.trans (hb.mono HB.out.size))
          have H8 := Aside0.mk ((hb.block _ (blk_ltn H8.out)).trans H8.out)
          have H9 := Aside0.mk ((hb.block _ (blk_ltn H9.out)).trans H9.out)
          clear hb
          refine hK.out _ _ ⟨(blk_cell H8.out 0).trans rfl, (blk_cell H8.out 1).trans rfl, (blk_cell H8.out 2).trans rfl, (blk_cell H8.out 3).trans rfl, (blk_cell H9.out 0).trans rfl, (blk_cell H9.out 1).trans rfl, (blk_cell H9.out 2).trans rfl, (blk_cell H9.out 3).trans rfl⟩ (fun hHeld => ?_)
          clear hK K
          refine norm_ (a' := ?_) ?_ ?_
          rotate_left
          · show Act.put _ (some 48) _ = _
            simp only [Act.put, List.setIfInBounds_toArray, List.set_cons_zero, List.set_cons_succ, i64_w, i32_w]
            rfl
          refine last_ (i := 6) (N := some 49) #[true, true, true, true, true, true, true, false] rfl rfl (one_of HT_.out (by kernel_rfl)) (by decide) (fun K hK => ?_)
          refine value_ (w1 := ?_) (v := ?_) (by rfl) rfl ?_ ?_
          rotate_left 2
          · go_simp
            constructor
            · rfl
            · rfl
          have HR_ := Aside0.mk (kpv_lit ([.num 4 ⟨b, 5, none⟩ q.handle, .num 4 ⟨b, 6, none⟩ q.at_, .data ⟨b, 8, none⟩ q.dA q.data q.dc]) w1 w.heap.size HB.out.size (by simp))
          have HB := Aside0.mk (HB.out.alloc HB.out.size (.cells (List.flatMap Pv.cells ([.num 4 ⟨b, 5, none⟩ q.handle, .num 4 ⟨b, 6, none⟩ q.at_, .data ⟨b, 8, none⟩ q.dA q.data q.dc] : List Pv)).toArray 78))
          refine hK.out _ _ ?_
          clear hK K
          refine norm_ (a' := ?_) ?_ ?_
          rotate_left
          · show Act.put _ (some 49) _ = _
            simp only [Act.put, List.setIfInBounds_toArray, List.set_cons_zero, List.set_cons_succ, i64_w, i32_w]
            rfl
          refine pure_ (i := 7) (N := some 2) (v := ?_) (a' := ?_) #[true, true, true, true, true, true, true, true] rfl rfl (any_of HT_.out (by kernel_rfl)) (fun _ _ _ h => h) (Or.inl ⟨by rfl, ?_⟩) ?_ ?_
          rotate_left
          · intro w'
            go_simp
            with_reducible rfl
          rotate_left
          · simp only [Act.put, List.setIfInBounds_toArray, List.set_cons_zero, List.set_cons_succ, i64_w, i32_w]
            rfl
          refine done_ (done_of HT_.out (by kernel_rfl)) ?_
          go_wp2
          go_ret
          exact ⟨_, rfl, by rw [HP.out]; exact HR_.out, HB.out⟩
        · have e4 : (q.kind == 4) = false := beq_eq_false_iff_ne.2 k4
          by_cases k5 : q.kind = 5
          · have hP : partsV b q = [.text ⟨b, 2, none⟩ q.path] := by unfold partsV; rw [if_neg k1]; rw [if_neg k2]; rw [if_neg k3]; rw [if_neg k4]; rw [if_pos (by omega)]
            rw [k5] at hk
            have HP := Aside0.mk hP
            clear hP k1 k2 k3 k4 k5
            go_wp2_with (go_at_call 55; refine (text_calls b 2 ⟨#[]⟩ _).mono ?_; rintro e w6 ⟨rfl, hb⟩; have HB := Aside0.mk (HB.out.trans (hb.mono HB.out.size)); clear hb)
            have HR_ := Aside0.mk (kpv_lit ([.text ⟨b, 2, none⟩ q.path]) w6 w.heap.size HB.out.size (by simp))
            have HB := Aside0.mk (HB.out.alloc HB.out.size (.cells (List.flatMap Pv.cells ([.text ⟨b, 2, none⟩ q.path] : List Pv)).toArray 78))
            go_ret
            exact ⟨_, rfl, by rw [HP.out]; exact HR_.out, HB.out⟩
          · have e5 : (q.kind == 5) = false := beq_eq_false_iff_ne.2 k5
            by_cases k6 : q.kind = 6
            · have hP : partsV b q = [.text ⟨b, 2, none⟩ q.path] := by unfold partsV; rw [if_neg k1]; rw [if_neg k2]; rw [if_neg k3]; rw [if_neg k4]; rw [if_pos (by omega)]
              rw [k6] at hk
              have HP := Aside0.mk hP
              clear hP k1 k2 k3 k4 k5 k6
              go_wp2_with (go_at_call 55; refine (text_calls b 2 ⟨#[]⟩ _).mono ?_; rintro e w6 ⟨rfl, hb⟩; have HB := Aside0.mk (HB.out.trans (hb.mono HB.out.size)); clear hb)
              have HR_ := Aside0.mk (kpv_lit ([.text ⟨b, 2, none⟩ q.path]) w6 w.heap.size HB.out.size (by simp))
              have HB := Aside0.mk (HB.out.alloc HB.out.size (.cells (List.flatMap Pv.cells ([.text ⟨b, 2, none⟩ q.path] : List Pv)).toArray 78))
              go_ret
              exact ⟨_, rfl, by rw [HP.out]; exact HR_.out, HB.out⟩
            · have e6 : (q.kind == 6) = false := beq_eq_false_iff_ne.2 k6
              by_cases k7 : q.kind = 7
              · have hP : partsV b q = [.text ⟨b, 2, none⟩ q.path] := by unfold partsV; rw [if_neg k1]; rw [if_neg k2]; rw [if_neg k3]; rw [if_neg k4]; rw [if_pos (by omega)]
                rw [k7] at hk
                have HP := Aside0.mk hP
                clear hP k1 k2 k3 k4 k5 k6 k7
                go_wp2_with (go_at_call 55; refine (text_calls b 2 ⟨#[]⟩ _).mono ?_; rintro e w6 ⟨rfl, hb⟩; have HB := Aside0.mk (HB.out.trans (hb.mono HB.out.size)); clear hb)
                have HR_ := Aside0.mk (kpv_lit ([.text ⟨b, 2, none⟩ q.path]) w6 w.heap.size HB.out.size (by simp))
                have HB := Aside0.mk (HB.out.alloc HB.out.size (.cells (List.flatMap Pv.cells ([.text ⟨b, 2, none⟩ q.path] : List Pv)).toArray 78))
                go_ret
                exact ⟨_, rfl, by rw [HP.out]; exact HR_.out, HB.out⟩
              · have e7 : (q.kind == 7) = false := beq_eq_false_iff_ne.2 k7
                by_cases k8 : q.kind = 8
                · have hP : partsV b q = [.text ⟨b, 2, none⟩ q.path] := by unfold partsV; rw [if_neg k1]; rw [if_neg k2]; rw [if_neg k3]; rw [if_neg k4]; rw [if_pos (by omega)]
                  rw [k8] at hk
                  have HP := Aside0.mk hP
                  clear hP k1 k2 k3 k4 k5 k6 k7 k8
                  go_wp2_with (go_at_call 55; refine (text_calls b 2 ⟨#[]⟩ _).mono ?_; rintro e w6 ⟨rfl, hb⟩; have HB := Aside0.mk (HB.out.trans (hb.mono HB.out.size)); clear hb)
                  have HR_ := Aside0.mk (kpv_lit ([.text ⟨b, 2, none⟩ q.path]) w6 w.heap.size HB.out.size (by simp))
                  have HB := Aside0.mk (HB.out.alloc HB.out.size (.cells (List.flatMap Pv.cells ([.text ⟨b, 2, none⟩ q.path] : List Pv)).toArray 78))
                  go_ret
                  exact ⟨_, rfl, by rw [HP.out]; exact HR_.out, HB.out⟩
                · have e8 : (q.kind == 8) = false := beq_eq_false_iff_ne.2 k8
                  by_cases k9 : q.kind = 9
                  · have hP : partsV b q = [.text ⟨b, 2, none⟩ q.path, .text ⟨b, 3, none⟩ q.to_] := by unfold partsV; rw [if_neg k1]; rw [if_neg k2]; rw [if_neg k3]; rw [if_neg k4]; rw [if_neg (by omega), if_pos (by omega)]
                    rw [k9] at hk
                    have HP := Aside0.mk hP
                    clear hP k1 k2 k3 k4 k5 k6 k7 k8 k9
                    go_upto_region 18 with fail
                    refine start_ (n := 10) (S := fun w' => True) (ds := []) #[false, false, false, false, false, false, false, false, false, false] (by kernel_rfl) rfl rfl trivial (fun hHeld => ?_)
                    refine with_tabW parts18.tab18 parts18.bits18 (fun HT_ HW_ => ?_)
                    have HB := Aside0.mk (below_drew1 HB.out)
                    generalize W5.drew = wd at HB hHeld ⊢
                    refine pure_ (i := 0) (N := some 63) (v := ?_) (a' := ?_) #[true, false, false, false, false, false, false, false, false, false] rfl rfl (any_of HT_.out (by kernel_rfl)) (fun _ _ _ h => h) (Or.inl ⟨by rfl, ?_⟩) ?_ ?_
                    rotate_left
                    · intro w'
                      go_simp
                      with_reducible rfl
                    rotate_left
                    · simp only [Act.put, List.setIfInBounds_toArray, List.set_cons_zero, List.set_cons_succ, i64_w, i32_w]
                      rfl
                    refine pure_ (i := 1) (N := some 64) (v := ?_) (a' := ?_) #[true, true, false, false, false, false, false, false, false, false] rfl rfl (any_of HT_.out (by kernel_rfl)) (fun _ _ _ h => h) (Or.inl ⟨by rfl, ?_⟩) ?_ ?_
                    rotate_left
                    · intro w'
                      go_simp
                      with_reducible rfl
                    rotate_left
                    · simp only [Act.put, List.setIfInBounds_toArray, List.set_cons_zero, List.set_cons_succ, i64_w, i32_w]
                      rfl
                    refine pure_ (i := 2) (N := some 65) (v := ?_) (a' := ?_) #[true, true, true, false, false, false, false, false, false, false] rfl rfl (any_of HT_.out (by kernel_rfl)) (fun _ _ _ h => h) (Or.inl ⟨by rfl, ?_⟩) ?_ ?_
                    rotate_left
                    · intro w'
                      go_simp
                      with_reducible rfl
                    rotate_left
                    · simp only [Act.put, List.setIfInBounds_toArray, List.set_cons_zero, List.set_cons_succ, i64_w, i32_w]
                      rfl
                    refine pure_ (i := 4) (N := some 67) (v := ?_) (a' := ?_) #[true, true, true, false, true, false, false, false, false, false] rfl rfl (any_of HT_.out (by kernel_rfl)) (fun _ _ _ h => h) (Or.inl ⟨by rfl, ?_⟩) ?_ ?_
                    rotate_left
                    · intro w'
                      go_simp
                      with_reducible rfl
                    rotate_left
                    · simp only [Act.put, List.setIfInBounds_toArray, List.set_cons_zero, List.set_cons_succ, i64_w, i32_w]
                      rfl
                    refine pure_ (i := 5) (N := some 68) (v := ?_) (a' := ?_) #[true, true, true, false, true, true, false, false, false, false] rfl rfl (any_of HT_.out (by kernel_rfl)) (fun _ _ _ h => h) (Or.inl ⟨by rfl, ?_⟩) ?_ ?_
                    rotate_left
                    · intro w'
                      go_simp
                      with_reducible rfl
                    rotate_left
                    · simp only [Act.put, List.setIfInBounds_toArray, List.set_cons_zero, List.set_cons_succ, i64_w, i32_w]
                      rfl
                    refine pure_ (i := 6) (N := some 69) (v := ?_) (a' := ?_) #[true, true, true, false, true, true, true, false, false, false] rfl rfl (any_of HT_.out (by kernel_rfl)) (fun _ _ _ h => h) (Or.inl ⟨by rfl, ?_⟩) ?_ ?_
                    rotate_left
                    · intro w'
                      go_simp
                      with_reducible rfl
                    rotate_left
                    · simp only [Act.put, List.setIfInBounds_toArray, List.set_cons_zero, List.set_cons_succ, i64_w, i32_w]
                      rfl
                    refine one_ (i := 3) (N := some 66) #[true, true, true, true, true, true, true, false, false, false] rfl rfl (one_of HT_.out (by kernel_rfl)) (by decide) (fun K hK => ?_)
                    refine call_ 55 #[.pointer (some ⟨b, 2, none⟩)] (by rfl) rfl ?hr ?_
                    (case hr => first | rfl | (go_simp; done) | (go_simp; rfl))
                    refine (text_calls b 2 ⟨#[]⟩ _).mono ?_
                    rintro e' w1 ⟨rfl, hb⟩
                    refine ⟨_, rfl, ?_⟩
                    have HB := Aside0.mk (HB.out.trans (hb.mono HB.out.size))
                    clear hb
                    refine hK.out _ _ trivial (fun hHeld => ?_)
                    clear hK K
                    refine norm_ (a' := ?_) ?_ ?_
                    rotate_left
                    · show Act.put _ (some 66) _ = _
                      simp only [Act.put, List.setIfInBounds_toArray, List.set_cons_zero, List.set_cons_succ, i64_w, i32_w]
                      rfl
                    refine one_ (i := 7) (N := some 70) #[true, true, true, true, true, true, true, true, false, false] rfl rfl (one_of HT_.out (by kernel_rfl)) (by decide) (fun K hK => ?_)
                    refine call_ 55 #[.pointer (some ⟨b, 3, none⟩)] (by rfl) rfl ?hr ?_
                    (case hr => first | rfl | (go_simp; done) | (go_simp; rfl))
                    refine (text_calls b 3 ⟨#[]⟩ _).mono ?_
                    rintro e' w2 ⟨rfl, hb⟩
                    refine ⟨_, rfl, ?_⟩
                    have HB := Aside0.mk (HB.out.trans (hb.mono HB.out.size))
                    clear hb
                    refine hK.out _ _ trivial (fun hHeld => ?_)
                    clear hK K
                    refine norm_ (a' := ?_) ?_ ?_
                    rotate_left
                    · show Act.put _ (some 70) _ = _
                      simp only [Act.put, List.setIfInBounds_toArray, List.set_cons_zero, List.set_cons_succ, i64_w, i32_w]
                      rfl
                    refine one_ (i := 8) (N := some 71) #[true, true, true, true, true, true, true, true, true, false] rfl rfl (one_of HT_.out (by kernel_rfl)) (by decide) (fun K hK => ?_)
                    refine value_ (w1 := ?_) (v := ?_) (by rfl) rfl ?_ ?_
                    rotate_left 2
                    · go_simp
                      constructor
                      · rfl
                      · rfl
                    have HR_ := Aside0.mk (kpv_lit ([.text ⟨b, 2, none⟩ q.path, .text ⟨b, 3, none⟩ q.to_]) w2 w.heap.size HB.out.size (by simp))
                    have HB := Aside0.mk (HB.out.alloc HB.out.size (.cells (List.flatMap Pv.cells ([.text ⟨b, 2, none⟩ q.path, .text ⟨b, 3, none⟩ q.to_] : List Pv)).toArray 78))
                    refine hK.out _ _ trivial (fun hHeld => ?_)
                    clear hK K
                    refine norm_ (a' := ?_) ?_ ?_
                    rotate_left
                    · show Act.put _ (some 71) _ = _
                      simp only [Act.put, List.setIfInBounds_toArray, List.set_cons_zero, List.set_cons_succ, i64_w, i32_w]
                      rfl
                    refine pure_ (i := 9) (N := some 2) (v := ?_) (a' := ?_) #[true, true, true, true, true, true, true, true, true, true] rfl rfl (any_of HT_.out (by kernel_rfl)) (fun _ _ _ h => h) (Or.inl ⟨by rfl, ?_⟩) ?_ ?_
                    rotate_left
                    · intro w'
                      go_simp
                      with_reducible rfl
                    rotate_left
                    · simp only [Act.put, List.setIfInBounds_toArray, List.set_cons_zero, List.set_cons_succ, i64_w, i32_w]
                      rfl
                    refine done_ (done_of HT_.out (by kernel_rfl)) ?_
                    go_wp2
                    go_ret
                    exact ⟨_, rfl, by rw [HP.out]; exact HR_.out, HB.out⟩
                  · have e9 : (q.kind == 9) = false := beq_eq_false_iff_ne.2 k9
                    by_cases k10 : q.kind = 10
                    · have hP : partsV b q = [.text ⟨b, 2, none⟩ q.path, .text ⟨b, 3, none⟩ q.to_] := by unfold partsV; rw [if_neg k1]; rw [if_neg k2]; rw [if_neg k3]; rw [if_neg k4]; rw [if_neg (by omega), if_pos (by omega)]
                      rw [k10] at hk
                      have HP := Aside0.mk hP
                      have HP := Aside0.mk hP
                      clear hP k1 k2 k3 k4 k5 k6 k7 k8 k9 k10
                      go_upto_region 18 with fail
                      refine start_ (n := 10) (S := fun w' => True) (ds := []) #[false, false, false, false, false, false, false, false, false, false] (by kernel_rfl) rfl rfl trivial (fun hHeld => ?_)
                      refine with_tabW parts18.tab18 parts18.bits18 (fun HT_ HW_ => ?_)
                      have HB := Aside0.mk (below_drew1 HB.out)
                      generalize W5.drew = wd at HB hHeld ⊢
                      refine pure_ (i := 0) (N := some 63) (v := ?_) (a' := ?_) #[true, false, false, false, false, false, false, false, false, false] rfl rfl (any_of HT_.out (by kernel_rfl)) (fun _ _ _ h => h) (Or.inl ⟨by rfl, ?_⟩) ?_ ?_
                      rotate_left
                      · intro w'
                        go_simp
                        with_reducible rfl
                      rotate_left
                      · simp only [Act.put, List.setIfInBounds_toArray, List.set_cons_zero, List.set_cons_succ, i64_w, i32_w]
                        rfl
                      refine pure_ (i := 1) (N := some 64) (v := ?_) (a' := ?_) #[true, true, false, false, false, false, false, false, false, false] rfl rfl (any_of HT_.out (by kernel_rfl)) (fun _ _ _ h => h) (Or.inl ⟨by rfl, ?_⟩) ?_ ?_
                      rotate_left
                      · intro w'
                        go_simp
                        with_reducible rfl
                      rotate_left
                      · simp only [Act.put, List.setIfInBounds_toArray, List.set_cons_zero, List.set_cons_succ, i64_w, i32_w]
                        rfl
                      refine pure_ (i := 2) (N := some 65) (v := ?_) (a' := ?_) #[true, true, true, false, false, false, false, false, false, false] rfl rfl (any_of HT_.out (by kernel_rfl)) (fun _ _ _ h => h) (Or.inl ⟨by rfl, ?_⟩) ?_ ?_
                      rotate_left
                      · intro w'
                        go_simp
                        with_reducible rfl
                      rotate_left
                      · simp only [Act.put, List.setIfInBounds_toArray, List.set_cons_zero, List.set_cons_succ, i64_w, i32_w]
                        rfl
                      refine pure_ (i := 4) (N := some 67) (v := ?_) (a' := ?_) #[true, true, true, false, true, false, false, false, false, false] rfl rfl (any_of HT_.out (by kernel_rfl)) (fun _ _ _ h => h) (Or.inl ⟨by rfl, ?_⟩) ?_ ?_
                      rotate_left
                      · intro w'
                        go_simp
                        with_reducible rfl
                      rotate_left
                      · simp only [Act.put, List.setIfInBounds_toArray, List.set_cons_zero, List.set_cons_succ, i64_w, i32_w]
                        rfl
                      refine pure_ (i := 5) (N := some 68) (v := ?_) (a' := ?_) #[true, true, true, false, true, true, false, false, false, false] rfl rfl (any_of HT_.out (by kernel_rfl)) (fun _ _ _ h => h) (Or.inl ⟨by rfl, ?_⟩) ?_ ?_
                      rotate_left
                      · intro w'
                        go_simp
                        with_reducible rfl
                      rotate_left
                      · simp only [Act.put, List.setIfInBounds_toArray, List.set_cons_zero, List.set_cons_succ, i64_w, i32_w]
                        rfl
                      refine pure_ (i := 6) (N := some 69) (v := ?_) (a' := ?_) #[true, true, true, false, true, true, true, false, false, false] rfl rfl (any_of HT_.out (by kernel_rfl)) (fun _ _ _ h => h) (Or.inl ⟨by rfl, ?_⟩) ?_ ?_
                      rotate_left
                      · intro w'
                        go_simp
                        with_reducible rfl
                      rotate_left
                      · simp only [Act.put, List.setIfInBounds_toArray, List.set_cons_zero, List.set_cons_succ, i64_w, i32_w]
                        rfl
                      refine one_ (i := 3) (N := some 66) #[true, true, true, true, true, true, true, false, false, false] rfl rfl (one_of HT_.out (by kernel_rfl)) (by decide) (fun K hK => ?_)
                      refine call_ 55 #[.pointer (some ⟨b, 2, none⟩)] (by rfl) rfl ?hr ?_
                      (case hr => first | rfl | (go_simp; done) | (go_simp; rfl))
                      refine (text_calls b 2 ⟨#[]⟩ _).mono ?_
                      rintro e' w1 ⟨rfl, hb⟩
                      refine ⟨_, rfl, ?_⟩
                      have HB := Aside0.mk (HB.out.trans (hb.mono HB.out.size))
                      clear hb
                      refine hK.out _ _ trivial (fun hHeld => ?_)
                      clear hK K
                      refine norm_ (a' := ?_) ?_ ?_
                      rotate_left
                      · show Act.put _ (some 66) _ = _
                        simp only [Act.put, List.setIfInBounds_toArray, List.set_cons_zero, List.set_cons_succ, i64_w, i32_w]
                        rfl
                      refine one_ (i := 7) (N := some 70) #[true, true, true, true, true, true, true, true, false, false] rfl rfl (one_of HT_.out (by kernel_rfl)) (by decide) (fun K hK => ?_)
                      refine call_ 55 #[.pointer (some ⟨b, 3, none⟩)] (by rfl) rfl ?hr ?_
                      (case hr => first | rfl | (go_simp; done) | (go_simp; rfl))
                      refine (text_calls b 3 ⟨#[]⟩ _).mono ?_
                      rintro e' w2 ⟨rfl, hb⟩
                      refine ⟨_, rfl, ?_⟩
                      have HB := Aside0.mk (HB.out.trans (hb.mono HB.out.size))
                      clear hb
                      refine hK.out _ _ trivial (fun hHeld => ?_)
                      clear hK K
                      refine norm_ (a' := ?_) ?_ ?_
                      rotate_left
                      · show Act.put _ (some 70) _ = _
                        simp only [Act.put, List.setIfInBounds_toArray, List.set_cons_zero, List.set_cons_succ, i64_w, i32_w]
                        rfl
                      refine one_ (i := 8) (N := some 71) #[true, true, true, true, true, true, true, true, true, false] rfl rfl (one_of HT_.out (by kernel_rfl)) (by decide) (fun K hK => ?_)
                      refine value_ (w1 := ?_) (v := ?_) (by rfl) rfl ?_ ?_
                      rotate_left 2
                      · go_simp
                        constructor
                        · rfl
                        · rfl
                      have HR_ := Aside0.mk (kpv_lit ([.text ⟨b, 2, none⟩ q.path, .text ⟨b, 3, none⟩ q.to_]) w2 w.heap.size HB.out.size (by simp))
                      have HB := Aside0.mk (HB.out.alloc HB.out.size (.cells (List.flatMap Pv.cells ([.text ⟨b, 2, none⟩ q.path, .text ⟨b, 3, none⟩ q.to_] : List Pv)).toArray 78))
                      refine hK.out _ _ trivial (fun hHeld => ?_)
                      clear hK K
                      refine norm_ (a' := ?_) ?_ ?_
                      rotate_left
                      · show Act.put _ (some 71) _ = _
                        simp only [Act.put, List.setIfInBounds_toArray, List.set_cons_zero, List.set_cons_succ, i64_w, i32_w]
                        rfl
                      refine pure_ (i := 9) (N := some 2) (v := ?_) (a' := ?_) #[true, true, true, true, true, true, true, true, true, true] rfl rfl (any_of HT_.out (by kernel_rfl)) (fun _ _ _ h => h) (Or.inl ⟨by rfl, ?_⟩) ?_ ?_
                      rotate_left
                      · intro w'
                        go_simp
                        with_reducible rfl
                      rotate_left
                      · simp only [Act.put, List.setIfInBounds_toArray, List.set_cons_zero, List.set_cons_succ, i64_w, i32_w]
                        rfl
                      refine done_ (done_of HT_.out (by kernel_rfl)) ?_
                      go_wp2
                      go_ret
                      exact ⟨_, rfl, by rw [HP.out]; exact HR_.out, HB.out⟩
                    · have e10 : (q.kind == 10) = false := beq_eq_false_iff_ne.2 k10
                      have hP : partsV b q = [] := by unfold partsV; rw [if_neg k1, if_neg k2, if_neg k3, if_neg k4, if_neg (by omega), if_neg (by omega)]
                      have HP := Aside0.mk hP
                      clear hP k1 k2 k3 k4 k5 k6 k7 k8 k9 k10
                      go_wp2
                      go_ret
                      exact ⟨_, rfl, by rw [HP.out]; exact Kd.R_nil _ _ _ _ _, HB.out⟩
end Go.Proofs.Ytkghoodhgihokaa.Msg
