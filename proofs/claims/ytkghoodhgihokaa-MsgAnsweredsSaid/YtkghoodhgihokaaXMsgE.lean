/- Messages: put. -/
import Derived.Test.YtkghoodhgihokaaXMsgA
namespace Go.Proofs.Ytkghoodhgihokaa.Msg
open Go.RowKit Go.Lib Go.Proofs.YtkghoodhgihokaaW.PrintWords Go.Proofs.YtkghoodhgihokaaW.PrintLast Go.Proofs.YtkghoodhgihokaaW.PrintMore
set_option linter.unusedVariables false
set_option linter.unusedSimpArgs false
/-- The bytes of a number, the greatest first. -/
def bytesF (wd : Nat) (n : Int) : List Int := if wd = 1 then [n % 256] else if wd = 2 then [n / 256 % 256, n % 256] else [n / 16777216 % 256, n / 65536 % 256, n / 256 % 256, n % 256]
theorem bytesF_len (wd : Nat) (n : Int) : (bytesF wd n).length ≤ 4 := by
  unfold bytesF
  repeat' split
  all_goals simp
theorem put_is (wd : Nat) (n : Int) (l : List Int) (hw : wd = 1 ∨ wd = 2 ∨ wd = 4) (hl : l.length ≤ 100000) : frame_Put.f 10 l (wd : Int) n = some (l ++ bytesF wd n) := by
  have h1 : ¬ ((0 : Int) - 1 ≥ 0) := by decide
  have s0 : ∀ x : Int, shr .i64 x 0 = x := fun x => by show x / 2 ^ (0 : Nat) = x; simp
  have s8 : ∀ x : Int, shr .i64 x 8 = x / 256 := fun x => rfl
  have s16 : ∀ x : Int, shr .i64 x 16 = x / 65536 := fun x => rfl
  have s24 : ∀ x : Int, shr .i64 x 24 = x / 16777216 := fun x => rfl
  have step : ∀ (k : Nat) (j : Nat) (m : List Int), j ≤ 3 → m.length ≤ 100100 → frame_Put.l0 (k + 1) m n (j : Int) = frame_Put.l0 k (m ++ [shr .i64 n (8 * j : Int) % 256]) n ((j : Int) - 1) := by
    intro k j m hj hm
    have e1 : wrap64 (8 * (j : Int)) = 8 * j := by unfold wrap64; omega
    have e2 : wrap64 ((j : Int) - 1) = (j : Int) - 1 := by unfold wrap64; omega
    rw [frame_Put.l0, if_pos (by omega), e1, if_pos (by omega), if_pos (by omega), e2]
  have last : ∀ (k : Nat) (m : List Int), frame_Put.l0 (k + 1) m n (-1) = some m := fun k m => by rw [frame_Put.l0, if_neg (by decide)]
  unfold frame_Put.f
  rcases hw with rfl | rfl | rfl
  · rw [show wrap64 (((1 : Nat) : Int) - 1) = ((0 : Nat) : Int) by unfold wrap64; omega, step 9 0 _ (by omega) (by omega), show ((0 : Nat) : Int) - 1 = -1 from rfl, last]
    simp [s0, bytesF]
  · rw [show wrap64 (((2 : Nat) : Int) - 1) = ((1 : Nat) : Int) by unfold wrap64; omega, step 9 1 _ (by omega) (by omega), show ((1 : Nat) : Int) - 1 = ((0 : Nat) : Int) from rfl, step 8 0 _ (by omega) (by simp; omega), show ((0 : Nat) : Int) - 1 = -1 from rfl, last]
    simp [s0, s8, bytesF]
  · rw [show wrap64 (((4 : Nat) : Int) - 1) = ((3 : Nat) : Int) by unfold wrap64; omega, step 9 3 _ (by omega) (by omega), show ((3 : Nat) : Int) - 1 = ((2 : Nat) : Int) from rfl, step 8 2 _ (by omega) (by simp; omega), show ((2 : Nat) : Int) - 1 = ((1 : Nat) : Int) from rfl, step 7 1 _ (by omega) (by simp; omega), show ((1 : Nat) : Int) - 1 = ((0 : Nat) : Int) from rfl, step 6 0 _ (by omega) (by simp; omega), show ((0 : Nat) : Int) - 1 = -1 from rfl, last]
    simp [s0, s8, s16, s24, bytesF]
/-- The bytes of a part. -/
def putF : Pv → List Int
  | .num wd _ n => bytesF wd n
  | .text _ s => bytesF 2 (s.size : Int) ++ bytesOf s
  | .data _ _ l _ => bytesF 2 (l.length : Int) ++ l
/-- A part whose bytes are few. -/
def Pv.small : Pv → Prop
  | .num wd _ n => wd = 1 ∨ wd = 2 ∨ wd = 4
  | .text _ s => s.size ≤ 70000
  | .data _ _ l _ => l.length ≤ 70000
theorem add_block (a : Addr) (i : Nat) : (a.add i).block = a.block := by unfold Addr.add; split <;> rfl
theorem reads_kept {w W : World} {S : Nat → Prop} {k : IntKind} {A : Option Addr} {n : Nat} {xs : List Int} (h : ReadsInt w k A n xs) (hk : Kept w W S) (hA : ∀ ad, A = some ad → ¬ S ad.block) : ReadsInt W k A n xs :=
  ⟨h.1, h.2.1, fun hp => by
    obtain ⟨ad, e, hc⟩ := h.2.2 hp
    exact ⟨ad, e, fun j hj => cell_kept (hc j hj) hk (by rw [add_block]; exact hA ad e)⟩⟩
theorem info5m : (Try.prog.info? 5).map (fun i => (i.zero, i.size, i.bytes)) = some (some (.int .u8 0), 1, 1) := by kernel_rfl
def putp.T2 : Bool × List (List Nat × List Nat) := (true, [([], []), ([], []), ([1], [1]), ([], []), ([3], [3]), ([4], [4]), ([5], [5]), ([0, 2, 6], [0, 2, 6]), ([7, 7, 0, 1, 2, 3, 4, 5, 6, 7], [7])])
def putp.B2 : List Nat := [0, 0, 2, 0, 8, 24, 56, 127, 255]
theorem putp.tab2 : rtab .any (opsOf Try.f45 2) = putp.T2 := by kernel_rfl
theorem putp.bits2 : waitsOk putp.T2.2 putp.B2 = true := by kernel_rfl
set_option maxHeartbeats 4000000 in
set_option maxRecDepth 100000 in
theorem put_num (wd : Nat) (a : Addr) (n : Int) (hw : wd = 1 ∨ wd = 2 ∨ wd = 4) (w0 w : World) (v : Value) (l : List Int) (hB : Below w0.heap.size w0 w) (ho : Kd.R (Kd.int .u8) 5 w w0.heap.size (fun _ => True) v l) (hl : l.length ≤ 100000) (h : w0.cell? a = some (.int .i64 n)) :
    Calls Try.prog 45 #[.agg #[.int .i64 (wd : Int), .pointer (some a), .pointer none, .pointer none], v] w fun e w' => ∃ v', e = .returned v' ∧ Kd.R (Kd.int .u8) 5 w' w0.heap.size (fun _ => True) v' (l ++ bytesF wd n) ∧ Below w0.heap.size w0 w' := by
  obtain ⟨W1, hW1⟩ : ∃ W, w.alloc (.cells #[.int .i64 (wd : Int), .pointer (some a), .pointer none, .pointer none] 78) = W := ⟨_, rfl⟩
  obtain ⟨b2, hb2⟩ : ∃ x, w.heap.size = x := ⟨_, rfl⟩
  have hn := heap_alloc_new w (.cells #[.int .i64 (wd : Int), .pointer (some a), .pointer none, .pointer none] 78)
  have HB := Aside0.mk (hB.alloc hB.size (.cells #[.int .i64 (wd : Int), .pointer (some a), .pointer none, .pointer none] 78))
  have HO := Aside0.mk (Kd.R_alloc ho (.cells #[.int .i64 (wd : Int), .pointer (some a), .pointer none, .pointer none] 78))
  rw [hW1] at hn HB HO
  rw [hb2] at hn
  have hc0 : W1.cell? ⟨b2, 0, none⟩ = some (.int .i64 (wd : Int)) := (blk_cell hn 0).trans rfl
  have hc1 : W1.cell? ⟨b2, 1, none⟩ = some (.pointer (some a)) := (blk_cell hn 1).trans rfl
  have hca : W1.cell? a = some (.int .i64 n) := (HB.out.cell (World.block_lt_of_cell? w0 _ h)).trans h
  clear hn hB ho h
  go_enter Try.func45, Try.ntmps45
  go_upto_region 2 with fail
  (try rw [hW1])
  (try rw [hb2])
  clear hW1 hb2
  refine start_ (n := 9) (S := fun w' => w'.cell? ⟨b2, 0, none⟩ = some (.int .i64 (wd : Int)) ∧ w'.cell? ⟨b2, 1, none⟩ = some (.pointer (some a)) ∧ w'.cell? a = some (.int .i64 n)) (ds := [7]) #[false, false, false, false, false, false, false, false, false] (by kernel_rfl) rfl rfl ⟨hc0, hc1, hca⟩ (fun hHeld => ?_)
  refine with_tabW putp.tab2 putp.bits2 (fun HT_ HW_ => ?_)
  have HB := Aside0.mk (below_drew1 HB.out)
  have HO := Aside0.mk (Kd.R_drew HO.out)
  generalize W1.drew = wd_ at HB HO hHeld ⊢
  refine pure_ (i := 0) (N := some 9) (v := ?_) (a' := ?_) #[true, false, false, false, false, false, false, false, false] rfl rfl (any_of HT_.out (by kernel_rfl)) (fun _ _ _ h => h) (Or.inl ⟨by rfl, ?_⟩) ?_ ?_
  rotate_left
  · intro w'
    go_simp
    with_reducible rfl
  rotate_left
  · simp only [Act.put, List.setIfInBounds_toArray, List.set_cons_zero, List.set_cons_succ, i64_w, i32_w]
    rfl
  refine pure_ (i := 1) (N := some 10) (v := ?_) (a' := ?_) #[true, true, false, false, false, false, false, false, false] rfl rfl (any_of HT_.out (by kernel_rfl)) (fun _ _ _ h => h) (Or.inl ⟨by rfl, ?_⟩) ?_ ?_
  rotate_left
  · intro w'
    go_simp
    with_reducible rfl
  rotate_left
  · simp only [Act.put, List.setIfInBounds_toArray, List.set_cons_zero, List.set_cons_succ, i64_w, i32_w]
    rfl
  refine pure_ (i := 3) (N := some 12) (v := ?_) (a' := ?_) #[true, true, false, true, false, false, false, false, false] rfl rfl (any_of HT_.out (by kernel_rfl)) (fun _ _ _ h => h) (Or.inl ⟨by rfl, ?_⟩) ?_ ?_
  rotate_left
  · intro w'
    go_simp
    with_reducible rfl
  rotate_left
  · simp only [Act.put, List.setIfInBounds_toArray, List.set_cons_zero, List.set_cons_succ, i64_w, i32_w]
    rfl
  refine take_ (i := 2) (N := some 11) (v := ?_) (a' := ?_) #[true, true, true, true, false, false, false, false, false] rfl rfl (take_ofW HT_.out HW_.out (by kernel_rfl)) (fun _ _ _ h => h) (Or.inl ⟨by rfl, ?_⟩) hHeld ?_ ?_
  rotate_left
  · rintro w' ⟨s0, s1, s2⟩
    go_simp
    with_reducible rfl
  rotate_left
  · simp only [Act.put, List.setIfInBounds_toArray, List.set_cons_zero, List.set_cons_succ, i64_w, i32_w]
    rfl
  refine take_ (i := 4) (N := some 13) (v := ?_) (a' := ?_) #[true, true, true, true, true, false, false, false, false] rfl rfl (take_ofW HT_.out HW_.out (by kernel_rfl)) (fun _ _ _ h => h) (Or.inl ⟨by rfl, ?_⟩) hHeld ?_ ?_
  rotate_left
  · rintro w' ⟨s0, s1, s2⟩
    go_simp
    with_reducible rfl
  rotate_left
  · simp only [Act.put, List.setIfInBounds_toArray, List.set_cons_zero, List.set_cons_succ, i64_w, i32_w]
    rfl
  refine pure_ (i := 5) (N := some 14) (v := ?_) (a' := ?_) #[true, true, true, true, true, true, false, false, false] rfl rfl (any_of HT_.out (by kernel_rfl)) (fun _ _ _ h => h) (Or.inl ⟨by rfl, ?_⟩) ?_ ?_
  rotate_left
  · intro w'
    go_simp
    with_reducible rfl
  rotate_left
  · simp only [Act.put, List.setIfInBounds_toArray, List.set_cons_zero, List.set_cons_succ, i64_w, i32_w]
    rfl
  refine take_ (i := 6) (N := some 15) (v := ?_) (a' := ?_) #[true, true, true, true, true, true, true, false, false] rfl rfl (take_ofW HT_.out HW_.out (by kernel_rfl)) (fun _ _ _ h => h) (Or.inl ⟨by rfl, ?_⟩) hHeld ?_ ?_
  rotate_left
  · rintro w' ⟨s0, s1, s2⟩
    go_simp
    with_reducible rfl
  rotate_left
  · simp only [Act.put, List.setIfInBounds_toArray, List.set_cons_zero, List.set_cons_succ, i64_w, i32_w]
    rfl
  refine last_ (i := 7) (N := some 16) #[true, true, true, true, true, true, true, true, false] rfl rfl (one_of HT_.out (by kernel_rfl)) (by decide) (fun K hK => ?_)
  refine call_ 78 #[v, .int .i64 (wd : Int), .int .i64 n] (by rfl) rfl ?hr ?_
  (case hr => first | rfl | (go_simp; done) | (go_simp; rfl))
  refine (frame_Put.calls 10 (fun _ => True) v l (wd : Int) n _ w0 _ HB.out HO.out (put_is wd n l hw hl)).mono ?_
  rintro e' w3 ⟨v3, rfl, ho3, hb3, _⟩
  refine ⟨_, rfl, ?_⟩
  have HO3 := Aside0.mk (Kd.R_mono ho3 (fun _ _ => trivial))
  have HB3 := Aside0.mk hb3
  clear ho3 hb3
  refine hK.out _ _ ?_
  clear hK K
  refine norm_ (a' := ?_) ?_ ?_
  rotate_left
  · show Act.put _ (some 16) _ = _
    simp only [Act.put, List.setIfInBounds_toArray, List.set_cons_zero, List.set_cons_succ, i64_w, i32_w]
    rfl
  refine pure_ (i := 8) (N := some 4) (v := ?_) (a' := ?_) #[true, true, true, true, true, true, true, true, true] rfl rfl (any_of HT_.out (by kernel_rfl)) (fun _ _ _ h => h) (Or.inl ⟨by rfl, ?_⟩) ?_ ?_
  rotate_left
  · intro w'
    go_simp
    with_reducible rfl
  rotate_left
  · simp only [Act.put, List.setIfInBounds_toArray, List.set_cons_zero, List.set_cons_succ, i64_w, i32_w]
    rfl
  refine done_ (done_of HT_.out (by kernel_rfl)) ?_
  go_wp2
  go_ret
  exact ⟨_, rfl, HO3.out, HB3.out⟩
set_option maxHeartbeats 4000000 in
set_option maxRecDepth 100000 in
theorem put_data (a : Addr) (A : Option Addr) (d : List Int) (c : Nat) (w0 w : World) (v : Value) (l : List Int) (hB : Below w0.heap.size w0 w) (ho : Kd.R (Kd.int .u8) 5 w w0.heap.size (fun _ => True) v l) (hl : l.length ≤ 100000) (h : w0.cell? a = some (.slice A d.length c)) (hcd : d.length ≤ c) (hC : Kd.C (Kd.int .u8) w0 A d.length d) (hsm : d.length ≤ 70000) :
    Calls Try.prog 45 #[.agg #[.int .i64 0, .pointer none, .pointer none, .pointer (some a)], v] w fun e w' => ∃ v', e = .returned v' ∧ Kd.R (Kd.int .u8) 5 w' w0.heap.size (fun _ => True) v' (l ++ (bytesF 2 (d.length : Int) ++ d)) ∧ Below w0.heap.size w0 w' := by
  obtain ⟨W1, hW1⟩ : ∃ W, w.alloc (.cells #[.int .i64 0, .pointer none, .pointer none, .pointer (some a)] 78) = W := ⟨_, rfl⟩
  obtain ⟨b2, hb2⟩ : ∃ x, w.heap.size = x := ⟨_, rfl⟩
  have hn := heap_alloc_new w (.cells #[.int .i64 0, .pointer none, .pointer none, .pointer (some a)] 78)
  have HB := Aside0.mk (hB.alloc hB.size (.cells #[.int .i64 0, .pointer none, .pointer none, .pointer (some a)] 78))
  have HO := Aside0.mk (Kd.R_alloc ho (.cells #[.int .i64 0, .pointer none, .pointer none, .pointer (some a)] 78))
  rw [hW1] at hn HB HO
  rw [hb2] at hn
  have hc1 : W1.cell? ⟨b2, 1, none⟩ = some (.pointer none) := (blk_cell hn 1).trans rfl
  have hc2 : W1.cell? ⟨b2, 2, none⟩ = some (.pointer none) := (blk_cell hn 2).trans rfl
  have hc3 : W1.cell? ⟨b2, 3, none⟩ = some (.pointer (some a)) := (blk_cell hn 3).trans rfl
  have hca : W1.cell? a = some (.slice A d.length c) := (HB.out.cell (World.block_lt_of_cell? w0 _ h)).trans h
  clear hn hB ho h
  have hCw0 := hC
  clear hC
  go_enter Try.func45, Try.ntmps45
  go_upto_region 4 with fail
  (try rw [hW1])
  (try rw [hb2])
  clear hW1 hb2
  go_wp2_with (first
    | (go_at_call 78; refine (frame_Put.calls 10 (fun _ => True) v l (2 : Nat) (d.length : Int) _ w0 _ HB.out HO.out (put_is 2 _ l (by omega) hl)).mono ?_; rintro e' w3 ⟨v3, rfl, ho3, hb3, hk3⟩; have HO3 := Aside0.mk (Kd.R_mono ho3 (fun _ _ => trivial)); have HB3 := Aside0.mk hb3; have HK3 := Aside0.mk hk3; clear ho3 hb3 hk3)
    | (have HC3 := Aside0.mk (show Kd.C (Kd.int .u8) w3 A d.length d from Kd.C_below hCw0 HB3.out); ((with_reducible refine gate_builtin (b := .append) (xs := #[.tmp 32, .tmp 33]) rfl ?_); at_builtin; refine Kd.R_append_rows (Kd.int .u8) (w0 := w0) w0.heap.size rfl (.tmp 32) (.tmp 33) 27 5 (.int .u8 0) 1 rfl Try.underlying27 info5m rfl (by decide) (by decide) v3 (l ++ bytesF 2 _) d _ _ _ (fun _ => True) (fun _ => False) rfl rfl HO3.out HC3.out (fun _ _ h => h) (fun _ hk => hk.elim) (fun _ _ => trivial) HB3.out HB3.out.size (by have := bytesF_len 2 (d.length : Int); simp only [List.length_append]; omega) ?_; intro v4 w4 ho hb hg hat; have HO4 := Aside0.mk ho; have HB4 := Aside0.mk hb; clear ho hb hg hat)))
  go_ret
  exact ⟨_, rfl, by rw [← List.append_assoc]; exact HO4.out, HB4.out⟩
set_option maxHeartbeats 4000000 in
set_option maxRecDepth 100000 in
theorem put_text (a : Addr) (s : ByteArray) (w0 w : World) (v : Value) (l : List Int) (hB : Below w0.heap.size w0 w) (ho : Kd.R (Kd.int .u8) 5 w w0.heap.size (fun _ => True) v l) (hl : l.length ≤ 100000) (h : w0.cell? a = some (.string s)) (hsm : s.size ≤ 70000) :
    Calls Try.prog 45 #[.agg #[.int .i64 0, .pointer none, .pointer (some a), .pointer none], v] w fun e w' => ∃ v', e = .returned v' ∧ Kd.R (Kd.int .u8) 5 w' w0.heap.size (fun _ => True) v' (l ++ (bytesF 2 (s.size : Int) ++ bytesOf s)) ∧ Below w0.heap.size w0 w' := by
  obtain ⟨W1, hW1⟩ : ∃ W, w.alloc (.cells #[.int .i64 0, .pointer none, .pointer (some a), .pointer none] 78) = W := ⟨_, rfl⟩
  obtain ⟨b2, hb2⟩ : ∃ x, w.heap.size = x := ⟨_, rfl⟩
  have hn := heap_alloc_new w (.cells #[.int .i64 0, .pointer none, .pointer (some a), .pointer none] 78)
  have HB := Aside0.mk (hB.alloc hB.size (.cells #[.int .i64 0, .pointer none, .pointer (some a), .pointer none] 78))
  have HO := Aside0.mk (Kd.R_alloc ho (.cells #[.int .i64 0, .pointer none, .pointer (some a), .pointer none] 78))
  rw [hW1] at hn HB HO
  rw [hb2] at hn
  have hc1 : W1.cell? ⟨b2, 1, none⟩ = some (.pointer none) := (blk_cell hn 1).trans rfl
  have hc2 : W1.cell? ⟨b2, 2, none⟩ = some (.pointer (some a)) := (blk_cell hn 2).trans rfl
  have hc3 : W1.cell? ⟨b2, 3, none⟩ = some (.pointer none) := (blk_cell hn 3).trans rfl
  have hca : W1.cell? a = some (.string s) := (HB.out.cell (World.block_lt_of_cell? w0 _ h)).trans h
  clear hn hB ho h
  have kb := fun W => print_bytes (P := Try.prog) 9 27 5 Try.underlying9 Try.underlying27 Try.underlying5 s W
  go_enter Try.func45, Try.ntmps45
  go_upto_region 4 with fail
  (try rw [hW1])
  (try rw [hb2])
  clear hW1 hb2
  go_upto_region 7 with fail
  obtain ⟨g, hg⟩ : ∃ g, W1.heap.size = g := ⟨_, rfl⟩
  have HB2 := Aside0.mk (bytes_below HB.out HB.out.size 5 s)
  have HO2 := Aside0.mk (Kd.R_below (Kd.R_mono (ok' := fun k => k < g) (Kd.R_bound HO.out) (fun k hk => by rw [← hg]; exact hk.2.2.1)) (bytes_below (Below.refl _ W1) (Nat.le_refl _) 5 s))
  have HRD := Aside0.mk (bytes_reads W1 5 s (by omega))
  obtain ⟨W2, hW2⟩ : ∃ W, bytesWorld W1 5 s = W := ⟨_, rfl⟩
  obtain ⟨cp, hcp⟩ : ∃ c, grownCap W1 s.size 0 5 = c := ⟨_, rfl⟩
  rw [hW2] at HB2 HO2 HRD
  rw [hg] at HRD
  rw [hW2, hg, hcp]
  clear hW2 hcp hc1 hc2 hc3 hca kb hg
  go_wp2_with (first
    | (go_at_call 78; refine (frame_Put.calls 10 (fun k => k < g) v l (2 : Nat) (s.size : Int) _ w0 _ HB2.out HO2.out (put_is 2 _ l (by omega) hl)).mono ?_; rintro e' w3 ⟨v3, rfl, ho3, hb3, hk3⟩; have HO3 := Aside0.mk (Kd.R_mono ho3 (fun _ _ => trivial)); have HB3 := Aside0.mk hb3; have HC3 := Aside0.mk (Kd.C_of_reads (h1 := fun _ => rfl) (reads_kept HRD.out hk3 (fun ad e => by cases e; exact Nat.lt_irrefl _))); clear ho3 hb3 hk3)
    | ((with_reducible refine gate_builtin (b := .append) (xs := #[.tmp 32, .tmp 33]) rfl ?_); at_builtin; refine Kd.R_append_rows (Kd.int .u8) (w0 := w0) w0.heap.size rfl (.tmp 32) (.tmp 33) 27 5 (.int .u8 0) 1 rfl Try.underlying27 info5m rfl (by decide) (by decide) v3 (l ++ bytesF 2 _) (bytesOf s) _ _ _ (fun _ => True) (fun _ => False) rfl rfl HO3.out HC3.out (fun _ _ h => h) (fun _ hk => hk.elim) (fun _ _ => trivial) HB3.out HB3.out.size (by have := bytesF_len 2 (s.size : Int); simp only [List.length_append]; omega) ?_; intro v4 w4 ho hb hg hat; have HO4 := Aside0.mk ho; have HB4 := Aside0.mk hb; clear ho hb hg hat))
  go_ret
  exact ⟨_, rfl, by rw [← List.append_assoc]; exact HO4.out, HB4.out⟩
theorem put_calls (p : Pv) (w0 w : World) (v : Value) (l : List Int) (hB : Below w0.heap.size w0 w) (ho : Kd.R (Kd.int .u8) 5 w w0.heap.size (fun _ => True) v l) (hl : l.length ≤ 100000) (h : p.has w0) (hs : p.small) :
    Calls Try.prog 45 #[p.val, v] w fun e w' => ∃ v', e = .returned v' ∧ Kd.R (Kd.int .u8) 5 w' w0.heap.size (fun _ => True) v' (l ++ putF p) ∧ Below w0.heap.size w0 w' := by
  cases p with
  | num wd a n => exact put_num wd a n hs w0 w v l hB ho hl h
  | text a s => exact put_text a s w0 w v l hB ho hl h hs
  | data a A d c => exact put_data a A d c w0 w v l hB ho hl h.1 h.2.1 h.2.2 hs
end Go.Proofs.Ytkghoodhgihokaa.Msg
