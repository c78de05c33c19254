/- Fetch: the reference's closure. -/
import Derived.Test.YtkghoodhgihokaaXFetchJ
namespace Go.Proofs.Ytkghoodhgihokaa.Fetch
open Go.RowKit Go.Lib Go.Maps Go.Proofs.YtkghoodhgihokaaW.PrintWords Go.Proofs.YtkghoodhgihokaaW.PrintLast Go.Proofs.YtkghoodhgihokaaW.PrintMore Go.Proofs.Ytkghoodhgihokaa.HFetchPlays
set_option linter.unusedVariables false
set_option linter.unusedSimpArgs false
theorem zero5 (w : World) : (zeroValue 5).run Try.prog w = .ok (.int .u8 0) w := by kernel_rfl
section
variable {M : Nat → Prop} {w0 w w' : World} {o f e m b n k : Nat} {F : Fs} {N : Nx} {By : Int → Int} {vo vw vD v' : Value}
theorem RM.sub {M' : Nat → Prop} (h : RM M w0 w o f e m b F By k vo) (hs : ∀ j, RS o f e m b vo j → M j → M' j) : RM M' w0 w o f e m b F By k vo :=
  ⟨h.ho, h.hf, h.he, h.hm, h.hB, R61_sub h.row (fun j hj => hs j (.inr hj) (h.row.1 j hj)), h.ne, h.lo, ⟨hs o (.inl (.inl rfl)) h.mo.1, hs f (.inl (.inr (.inl rfl))) h.mo.2.1, hs e (.inl (.inr (.inr (.inl rfl)))) h.mo.2.2.1, hs b (.inl (.inr (.inr (.inr (.inr rfl))))) h.mo.2.2.2⟩, h.hb⟩
theorem NN.sub {M' : Nat → Prop} (h : NN M w0 w n N vw vD) (hs : ∀ j, NS n vw vD j → M j → M' j) : NN M' w0 w n N vw vD :=
  ⟨h.hn, R61_sub h.hw (fun j hj => hs j (.inr (.inl hj)) (h.hw.1 j hj)), Ru8_sub h.hD (fun j hj => hs j (.inr (.inr hj)) (h.hD.1 j hj)), h.ln, hs n (.inl rfl) h.mn⟩
theorem RN.sub {M' : Nat → Prop} (h : RN M w0 w o f e m b n F By k N vo vw vD) (hs : ∀ j, M j → M' j) : RN M' w0 w o f e m b n F By k N vo vw vD := ⟨h.r.sub (fun j _ => hs j), h.g.sub (fun j _ => hs j), h.ne⟩
theorem RM.slotO (h : RM M w0 w o f e m b F By k vo) (hg : w.grownBy w' vo.ownBlock) : w'.heap[o]? = some (.cells #[vo] 57 (0, 0)) := (hg.block o (blk_ltn h.ho) (fun e1 => h.fixed h.row (by decide) (.inl rfl) e1.symm)).trans h.ho
theorem NN.slotW (h : NN M w0 w n N vw vD) (hg : w.grownBy w' vw.ownBlock) : w'.heap[n]? = some (.cells #[.int .i64 N.code, vw, .bool N.done, vD] 59 (0, 0)) := (hg.block n (blk_ltn h.hn) (own_ne h.hw h.hn (by decide))).trans h.hn
theorem NN.slotD (h : NN M w0 w n N vw vD) (hg : w.grownBy w' vD.ownBlock) : w'.heap[n]? = some (.cells #[.int .i64 N.code, vw, .bool N.done, vD] 59 (0, 0)) := (hg.block n (blk_ltn h.hn) (own_ne h.hD h.hn (by decide))).trans h.hn
end
theorem endI_lt {F : Fs} (h : PInv F) : decide (endI F.fin < 1099511627776) = decide (0 ≤ F.fin) := by
  have h1 := h.fin
  have h2 := h.data
  unfold endI
  by_cases h3 : F.fin < 0
  · rw [if_pos h3, decide_eq_false (by omega), decide_eq_false (by omega)]
  · rw [if_neg h3, decide_eq_true (by omega), decide_eq_true (by omega)]
theorem endI_front {F : Fs} (h : PInv F) : decide (F.front < endI F.fin) = (decide (F.fin < 0) || decide (F.front < F.fin)) := by
  have h1 := h.front
  unfold endI
  by_cases h3 : F.fin < 0
  · rw [if_pos h3, decide_eq_true (by omega), decide_eq_true h3]; rfl
  · rw [if_neg h3, decide_eq_false h3]; rfl
/-- So far all wants lie behind the end. -/
def dnJ (F : Fs) (j : Nat) : Bool := decide (0 ≤ F.fin) && (F.out.take j).all (fun x => decide (endI F.fin ≤ x.f0))
theorem dnJ_succ {F : Fs} {j : Nat} (hj : j < F.out.length) : dnJ F (j + 1) = (dnJ F j && decide (endI F.fin ≤ (F.out[j]).f0)) := by
  unfold dnJ
  rw [List.take_add_one, List.getElem?_eq_getElem hj, Option.toList_some, List.all_append, ← Bool.and_assoc]
  simp
theorem dnJ_all {F : Fs} : dnJ F F.out.length = true ↔ (0 ≤ F.fin ∧ F.out.any (fun x => decide (x.f0 < F.fin)) = false) := by
  unfold dnJ
  rw [List.take_length, Bool.and_eq_true, decide_eq_true_eq]
  constructor
  · rintro ⟨h1, h2⟩
    refine ⟨h1, ?_⟩
    rw [List.any_eq_false]
    intro x hx
    have h3 := List.all_eq_true.1 h2 x hx
    unfold endI at h3
    rw [if_neg (by omega), decide_eq_true_eq] at h3
    simp only [decide_eq_true_eq]
    omega
  · rintro ⟨h1, h2⟩
    refine ⟨h1, List.all_eq_true.2 (fun x hx => ?_)⟩
    have h3 := List.any_eq_false.1 h2 x hx
    unfold endI
    rw [if_neg (by omega), decide_eq_true_eq]
    simp only [decide_eq_true_eq] at h3
    omega
/-- What came, up to place j. -/
def cameL (By : Int → Int) (j : Nat) : List Int := (List.range j).map (fun (i : Nat) => By (i : Int))
theorem cameL_succ (By : Int → Int) (j : Nat) : cameL By (j + 1) = cameL By j ++ [By (j : Int)] := by unfold cameL; rw [List.range_succ, List.map_append]; rfl
theorem cameL_take {By : Int → Int} {D : List Int} (h : ∀ i : Nat, By (i : Int) = D.getD i 0) {j : Nat} (hj : j ≤ D.length) : cameL By j = D.take j := by
  apply List.ext_getElem?
  intro i
  unfold cameL
  rw [List.getElem?_map]
  by_cases hi : i < j
  · rw [List.getElem?_range hi, List.getElem?_take_of_lt hi, List.getElem?_eq_getElem (by omega), Option.map_some, h i, List.getD_eq_getElem?_getD, List.getElem?_eq_getElem (by omega)]
    rfl
  · rw [List.getElem?_eq_none (by simp; omega), List.getElem?_eq_none (by rw [List.length_take]; omega)]
    rfl
/-- What the closure leaves. -/
inductive RPost (M : Nat → Prop) (w0 w : World) (o f e m b : Nat) (By : Int → Int) (k : Nat) (F : Fs) (N : Nx) (er : Ending) (w' : World) : Prop
  | mk (n : Nat) (vo vw vD : Value) (he : er = .returned (.agg #[.int .i64 N.code, vw, .bool N.done, vD])) (h : RN M w0 w' o f e m b n F By k N vo vw vD) (hk : Kept w w' M)
theorem onL_data : ∀ (k : Nat) (F : Fs) (N : Nx), (onL k F N).1.data = F.data ∧ (onL k F N).1.fin = F.fin ∧ (onL k F N).2.data = N.data ∧ (onL k F N).2.done = N.done
  | 0, F, N => ⟨rfl, rfl, rfl, rfl⟩
  | k + 1, F, N => by
    show (if goOn F = true then Fetch.onL k _ _ else (F, N)).1.data = _ ∧ (if goOn F = true then Fetch.onL k _ _ else (F, N)).1.fin = _ ∧ (if goOn F = true then Fetch.onL k _ _ else (F, N)).2.data = _ ∧ (if goOn F = true then Fetch.onL k _ _ else (F, N)).2.done = _
    by_cases hg : goOn F = true
    · rw [if_pos hg]; exact onL_data k _ _
    · rw [if_neg hg]; exact ⟨rfl, rfl, rfl, rfl⟩
theorem cameL_length (By : Int → Int) (j : Nat) : (cameL By j).length = j := by unfold cameL; simp
theorem RN.copy {M : Nat → Prop} {w0 w : World} {o f e m b n k q : Nat} {F : Fs} {N : Nx} {By : Int → Int} {vo vw vD : Value} (h : RN (fun j => M j ∧ j ≠ q) w0 w o f e m b n F By k N vo vw vD) (hq : w.heap[q]? = some (.cells #[.int .i64 0, .slice none 0 0, .bool false, .slice none 0 0] 59 (0, 0))) (hq0 : w0.heap.size ≤ q) (mq : M q) :
    RN M w0 ((((w.setCell ⟨q, 0, none⟩ (.int .i64 N.code)).setCell ⟨q, 1, none⟩ vw).setCell ⟨q, 2, none⟩ (.bool N.done)).setCell ⟨q, 3, none⟩ vD) o f e m b q F By k N vo vw vD := by
  have g : NN M w0 w q zeroN (.slice none 0 0) (.slice none 0 0) := ⟨hq, Kd.R_nil _ _ _ _ _, Kd.R_nil _ _ _ _ _, hq0, mq⟩
  have hM : RM M w0 w o f e m b F By k vo := h.r.sub (fun j _ hj => hj.1)
  have s : ∀ j, j ≠ q → ((((w.setCell ⟨q, 0, none⟩ (.int .i64 N.code)).setCell ⟨q, 1, none⟩ vw).setCell ⟨q, 2, none⟩ (.bool N.done)).setCell ⟨q, 3, none⟩ vD).heap[j]? = w.heap[j]? := fun j hj => (Below.heap_setCell _ _ _ _ hj).trans ((Below.heap_setCell _ _ _ _ hj).trans ((Below.heap_setCell _ _ _ _ hj).trans (Below.heap_setCell _ _ _ _ hj)))
  have h1 := blk_set hq 0 (.int .i64 N.code)
  have h2 := blk_set h1 1 vw
  have h3 := blk_set h2 2 (.bool N.done)
  refine ⟨hM.move ((((hM.hb.setCell (p := ⟨q, 0, none⟩) hq0 _).setCell (p := ⟨q, 1, none⟩) hq0 _).setCell (p := ⟨q, 2, none⟩) hq0 _).setCell (p := ⟨q, 3, none⟩) hq0 _) (fun j hj => s j (fun e1 => by
    rcases hj with hj | hj
    · exact hM.fixedN g hj (.inl e1)
    · subst e1; exact hM.rowN g hj)), ⟨(blk_set h3 3 vD).trans rfl, R61_move (R61_sub h.g.hw (fun j hj => (h.g.hw.1 j hj).1)) (fun j hj => s j (h.g.hw.1 j hj).2), Ru8_move (Ru8_sub h.g.hD (fun j hj => (h.g.hD.1 j hj).1)) (fun j hj => s j (h.g.hD.1 j hj).2), hq0, mq⟩, h.ne⟩
theorem wk100 {i : Int} (h : 0 ≤ i ∧ i ≤ 3000) : wrap64 (i + 100) = i + 100 := by unfold wrap64; omega
set_option maxHeartbeats 8000000 in
set_option maxRecDepth 100000 in
theorem refon_calls (M : Nat → Prop) (w0 w : World) (o f e m b : Nat) (F : Fs) (By : Int → Int) (k : Nat) (c : Int) (ws : List S61) (vo vw : Value) (hM : ∀ j, w.heap.size ≤ j → M j) (hp : PInv F) (hc : ∀ i : Nat, By (i : Int) = F.data.getD i 0) (hws : ws.length ≤ 1000) (h : RM M w0 w o f e m b F By k vo) (hw : Kd.R k61 61 w w0.heap.size M vw ws) (hne : ∀ j, vo.ownBlock = some j → vw.ownBlock ≠ some j) :
    Calls Try.prog 64 #[.agg #[.int .i64 c, vw, .bool false, .slice none 0 0], .pointer (some ⟨o, 0, none⟩), .pointer (some ⟨f, 0, none⟩), .pointer (some ⟨e, 0, none⟩), .pointer (some ⟨m, 0, none⟩)] w fun er w' => RPost M w0 w o f e m b By k (onF F ⟨c, ws, false, []⟩).1 (onF F ⟨c, ws, false, []⟩).2 er w' := by
  obtain ⟨Aw0, cw0, hvw⟩ := Kd.R_slice hw
  subst hvw
  obtain ⟨lw, hlw⟩ : ∃ l, ws.length = l := ⟨_, rfl⟩
  rw [hlw] at hw hne ⊢
  obtain ⟨n, hn⟩ : ∃ n, w.heap.size = n := ⟨_, rfl⟩
  have hx1 := heap_alloc_new w (.cells #[.int .i64 c, .slice Aw0 lw cw0, .bool false, .slice none 0 0] 59)
  have hB1 := (Below.refl w.heap.size w).alloc (Nat.le_refl _) (.cells #[.int .i64 c, .slice Aw0 lw cw0, .bool false, .slice none 0 0] 59)
  obtain ⟨W1, hW1⟩ : ∃ W, w.alloc (.cells #[.int .i64 c, .slice Aw0 lw cw0, .bool false, .slice none 0 0] 59) = W := ⟨_, rfl⟩
  have hs1 : W1.heap.size = n + 1 := by rw [← hW1, ← hn]; simp
  rw [hW1] at hx1 hB1
  rw [hn] at hx1
  have hxq := heap_alloc_new W1 (.cells #[.int .i64 0, .slice none 0 0, .bool false, .slice none 0 0] 59)
  have hBq := (Below.refl W1.heap.size W1).alloc (Nat.le_refl _) (.cells #[.int .i64 0, .slice none 0 0, .bool false, .slice none 0 0] 59)
  obtain ⟨W2, hW2⟩ : ∃ W, W1.alloc (.cells #[.int .i64 0, .slice none 0 0, .bool false, .slice none 0 0] 59) = W := ⟨_, rfl⟩
  have hs2 : W2.heap.size = n + 2 := by rw [← hW2]; simp [hs1]
  rw [hW2] at hxq hBq
  rw [hs1] at hxq
  have hBB : Below w.heap.size w W2 := hB1.trans (hBq.mono (by omega))
  obtain ⟨q, hq⟩ : ∃ q, n + 1 = q := ⟨_, rfl⟩
  rw [hq] at hxq
  have hlt : ∀ {j : Nat}, j < w.heap.size → j ≠ q := fun hj => by omega
  have HI0 : Aside0 (RN (fun j => M j ∧ j ≠ q) w0 W2 o f e m b n F By k ⟨c, ws, false, []⟩ vo (.slice Aw0 lw cw0) (.slice none 0 0)) := ⟨(h.below hBB).sub (fun j hj hm => ⟨hm, hlt (h.lt hj)⟩), ⟨(hBq.block n (by omega)).trans hx1, R61_sub (Kd.R_below hw hBB) (fun j hj => ⟨hw.1 j hj, hlt (own_lt hw hj)⟩), Kd.R_nil _ _ _ _ _, by have := h.hb.size; omega, ⟨hM n (by omega), by omega⟩⟩, hne⟩
  have HQ0 := Aside0.mk hxq
  have HKW := Aside0.mk (Kept.of_below hBB M)
  have HM : Aside0 (∀ W : World, W2.heap.size ≤ W.heap.size → ∀ j, W.heap.size ≤ j → M j ∧ j ≠ q) := ⟨fun W hW j hj => ⟨hM j (by omega), by omega⟩⟩
  have HMQ := Aside0.mk (hM q (by omega))
  have HP := Aside0.mk hp
  have HC := Aside0.mk hc
  have HLW := Aside0.mk hws
  have HQ1 := Aside0.mk (show w0.heap.size ≤ q by have := h.hb.size; omega)
  clear hx1 hB1 hxq hBq hBB hlt hM hp hc hws h hw hne hlw
  go_enter Try.func64, Try.ntmps64
  go_wp2
  (try rw [hs1, hn, hq, hW2])
  clear hW1 hs1 hn hq hW2 hs2
  go_loopg [] 6 (fun g wx => ∃ (F1 : Fs) (N1 : Nx) (A1 : Option Addr) (c1 : Nat) (A2 : Option Addr) (c2 : Nat), Aside0 (RN (fun j => M j ∧ j ≠ q) w0 wx o f e m b n F1 By k N1 (.slice A1 F1.out.length c1) (.slice A2 N1.wants.length c2) (.slice none 0 0)) ∧ Aside0 (Kept W2 wx (fun j => M j ∧ j ≠ q)) ∧ Aside0 (wx.heap[q]? = some (.cells #[.int .i64 0, .slice none 0 0, .bool false, .slice none 0 0] 59 (0, 0))) ∧ Aside0 (onL 6 F ⟨c, ws, false, []⟩ = onL g F1 N1) ∧ Aside0 (6 ≤ F1.out.length + g) ∧ Aside0 (PInv F1) ∧ Aside0 (N1.wants.length + g ≤ 1006))
  case atStart =>
    obtain ⟨Ao, co, hvo⟩ := Kd.R_slice HI0.out.r.row
    obtain ⟨Ax, cx, hvx⟩ := Kd.R_slice HI0.out.g.hw
    subst hvo
    rw [hvx] at HI0
    exact ⟨F, ⟨c, ws, false, []⟩, _, _, _, _, HI0, ⟨Kept.refl _ _⟩, HQ0, ⟨rfl⟩, ⟨by omega⟩, HP, ⟨by have := HLW.out; show ws.length + 6 ≤ 1006; omega⟩⟩
  case round =>
    obtain ⟨F1, N1, A1, c1, A2, c2, HI, HK, HQ, HE, HG, HV, HL⟩ := hrel
    have hc0 := (blk_cell HI.out.r.ho 0).trans rfl
    have hc1 := (blk_cell HI.out.r.hf 0).trans rfl
    have hc2 := (blk_cell HI.out.r.he 0).trans rfl
    have hef := endI_front HV.out
    obtain ⟨en, hen⟩ : ∃ en, endI F1.fin = en := ⟨_, rfl⟩
    rw [hen] at hc2 hef
    have HEN := Aside0.mk hen
    clear hen
    by_cases h1 : F1.out.length < 6
    case neg =>
      have e1 : decide ((F1.out.length : Int) < 6) = false := decide_eq_false (by omega)
      have e1n : decide (F1.out.length < 6) = false := decide_eq_false h1
      have HON := Aside0.mk (show goOn F1 = false by simp [goOn, h1])
      have HE2 := Aside0.mk (show onL 6 F ⟨c, ws, false, []⟩ = (F1, N1) from HE.out.trans (onL_stop HON.out _))
      have HND := Aside0.mk (show F1.data = F.data ∧ N1.data = [] ∧ N1.done = false by
        have h2 := onL_data 6 F ⟨c, ws, false, []⟩
        rw [HE2.out] at h2
        exact ⟨h2.1, h2.2.2.1, h2.2.2.2⟩)
      obtain ⟨dn0, hdn0⟩ : ∃ d, decide (0 ≤ F1.fin) = d := ⟨_, rfl⟩
      have hend := endI_lt HV.out
      rw [HEN.out, hdn0] at hend
      have HDN := Aside0.mk hdn0
      have hz2 := blk_frozen HI.out.g.hn 2
      have hy2 := (blk_cell HI.out.g.hn 2).trans rfl
      clear hdn0 hef h1
      go_upto_region 7 with fail
      have HI6 := Aside0.mk (HI.out.done dn0)
      have HK6 := Aside0.mk (Kept.setCell (p := ⟨n, 2, none⟩) HK.out (.inl HI.out.g.mn) (.bool dn0))
      have HQ6 := Aside0.mk ((Below.heap_setCell wr ⟨n, 2, none⟩ (.bool dn0) q (fun e1 => HI.out.g.mn.2 e1.symm)).trans HQ.out)
      obtain ⟨w6, hw6⟩ : ∃ W, wr.setCell ⟨n, 2, none⟩ (.bool dn0) = W := ⟨_, rfl⟩
      rw [hw6] at HI6 HK6 HQ6 ⊢
      have HD0 := Aside0.mk (show dnJ F1 0 = dn0 by rw [← HDN.out]; simp [dnJ])
      clear hw6 hc0 hc1 hc2 hz2 hy2 hend
      have hc0 := (blk_cell HI6.out.r.ho 0).trans rfl
      go_wp2
      clear hc0
      go_loopw [42] (fun v42 wx => ∃ j : Nat, v42 = .int .i64 (j : Int) ∧ Aside0 (j ≤ F1.out.length) ∧ Aside0 (RN (fun j => M j ∧ j ≠ q) w0 wx o f e m b n F1 By k { N1 with done := dnJ F1 j } (.slice A1 F1.out.length c1) (.slice A2 N1.wants.length c2) (.slice none 0 0)) ∧ Aside0 (Kept W2 wx (fun j => M j ∧ j ≠ q)) ∧ Aside0 (wx.heap[q]? = some (.cells #[.int .i64 0, .slice none 0 0, .bool false, .slice none 0 0] 59 (0, 0)))) (fun v42 _ => F1.out.length - (intOf v42).toNat)
      case atStart => exact ⟨0, rfl, ⟨Nat.zero_le _⟩, ⟨by rw [HD0.out]; exact HI6.out⟩, HK6, HQ6⟩
      case round =>
        clear HI HK HQ HI6 HK6 HQ6 HD0
        obtain ⟨j, rfl, HJ, HI, HK, HQ⟩ := hrel
        have HV6 := Aside0.mk HV.out.out
        by_cases hj : j < F1.out.length
        · have e5 : decide ((j : Int) < (F1.out.length : Int)) = true := decide_eq_true (by omega)
          have e5n : decide (j < F1.out.length) = true := decide_eq_true hj
          have p1 : (0 : Int) ≤ (j : Int) := by omega
          have q1 : (j : Int) < (F1.out.length : Int) := by omega
          obtain ⟨ad, hA, h0, h1⟩ := at_T61 (Kd.R_reads' HI.out.r.row).2.2 (j : Int) p1 q1
          subst hA
          rw [Int.toNat_natCast] at h0 h1
          have hm : rd_T61 F1.out (j : Int) = F1.out[j] := by unfold rd_T61; rw [Int.toNat_natCast, List.getD_eq_getElem?_getD, List.getElem?_eq_getElem hj]; rfl
          have hds := dnJ_succ hj
          rw [← hm, HEN.out] at hds
          obtain ⟨y, hy⟩ : ∃ y, rd_T61 F1.out (j : Int) = y := ⟨_, rfl⟩
          rw [hy] at h0 h1 hds
          obtain ⟨t, ht⟩ : ∃ t, decide (en ≤ y.f0) = t := ⟨_, rfl⟩
          rw [ht] at hds
          have HDS := Aside0.mk hds
          replace p1 := eq_true p1
          replace q1 := eq_true q1
          clear hm hy hds
          go_upto_region 10 with fail
          have HB8 := Aside0.mk ((Below.refl wr.heap.size wr).alloc (Nat.le_refl _) (.cells #[.int .i64 y.f0, .int .i64 y.f1] 61))
          have hx8 := (blk_cell (heap_alloc_new wr (.cells #[.int .i64 y.f0, .int .i64 y.f1] 61)) 0).trans rfl
          have HI8 := Aside0.mk (HI.out.below HB8.out)
          have HK8 := Aside0.mk (HK.out.below HB8.out)
          have HQ8 := Aside0.mk ((HB8.out.block q (blk_ltn HQ.out)).trans HQ.out)
          obtain ⟨w8, hw8⟩ : ∃ W, wr.alloc (.cells #[.int .i64 y.f0, .int .i64 y.f1] 61) = W := ⟨_, rfl⟩
          rw [hw8] at hx8 HI8 HK8 HQ8 ⊢
          clear HB8 hw8 h0 h1
          have hy2 := (blk_cell HI8.out.g.hn 2).trans rfl
          have hz2 := blk_frozen HI8.out.g.hn 2
          have hce := (blk_cell HI8.out.r.he 0).trans rfl
          rw [HEN.out] at hce
          obtain ⟨dj, hdj⟩ : ∃ d, dnJ F1 j = d := ⟨_, rfl⟩
          have HDJ := Aside0.mk hdj
          simp only [hdj] at hy2
          rw [hdj] at HDS
          clear hdj
          have HWJ := Aside0.mk (wj1 (j := j) (by have := HV6.out; omega))
          cases dj with
          | true =>
            go_wp2
            go_roundw
            case measure => rw [HWJ.out]; simp only [intOf]; omega
            case rel => exact ⟨j + 1, by rw [HWJ.out]; rfl, ⟨hj⟩, ⟨by rw [HDS.out]; exact HI8.out.done t⟩, ⟨Kept.setCell (p := ⟨n, 2, none⟩) HK8.out (.inl HI8.out.g.mn) _⟩, ⟨(Below.heap_setCell _ ⟨n, 2, none⟩ _ q (fun e1 => HI8.out.g.mn.2 e1.symm)).trans HQ8.out⟩⟩
          | false =>
            go_wp2
            go_roundw
            case measure => rw [HWJ.out]; simp only [intOf]; omega
            case rel => exact ⟨j + 1, by rw [HWJ.out]; rfl, ⟨hj⟩, ⟨by rw [HDS.out]; exact HI8.out.done false⟩, ⟨Kept.setCell (p := ⟨n, 2, none⟩) HK8.out (.inl HI8.out.g.mn) _⟩, ⟨(Below.heap_setCell _ ⟨n, 2, none⟩ _ q (fun e1 => HI8.out.g.mn.2 e1.symm)).trans HQ8.out⟩⟩
        · have e5 : decide ((j : Int) < (F1.out.length : Int)) = false := decide_eq_false (by omega)
          have e5n : decide (j < F1.out.length) = false := decide_eq_false hj
          obtain rfl : j = F1.out.length := by have := HJ.out; omega
          have hdj := dnJ_all (F := F1)
          obtain ⟨dj, hdj2⟩ : ∃ d, dnJ F1 F1.out.length = d := ⟨_, rfl⟩
          rw [hdj2] at hdj HI
          have HDJ := Aside0.mk hdj
          clear hdj hdj2 hj
          cases dj with
          | false =>
            have HFIN := Aside0.mk (show onF F ⟨c, ws, false, []⟩ = (F1, { N1 with done := false }) by
              unfold onF
              rw [HE2.out]
              rw [if_neg (fun h => by have := HDJ.out.2 h; cases this)]
              have := HND.out.2.2
              cases N1
              simp_all)
            have hy0 := (blk_cell HI.out.g.hn 0).trans rfl
            have hy1 := (blk_cell HI.out.g.hn 1).trans rfl
            have hy2 := (blk_cell HI.out.g.hn 2).trans rfl
            have hy3 := (blk_cell HI.out.g.hn 3).trans rfl
            have hq0 := (blk_cell HQ.out 0).trans rfl
            have hz0 := blk_frozen HQ.out 0
            have hq1 := (blk_cell HQ.out 1).trans rfl
            have hz1 := blk_frozen HQ.out 1
            have hq2 := (blk_cell HQ.out 2).trans rfl
            have hz2 := blk_frozen HQ.out 2
            have hq3 := (blk_cell HQ.out 3).trans rfl
            have hz3 := blk_frozen HQ.out 3
            go_wp2
            have HIz := Aside0.mk (RN.copy HI.out HQ.out HQ1.out HMQ.out)
            refine bodyPost_ret (results_cell_row rfl _ _ q 59 _ (0, 0) _ rfl HIz.out.g.hn Try.underlying59 rfl (by kernel_rfl)) rfl ?_
            rw [HFIN.out]
            exact .mk q _ _ _ rfl HIz.out (kept_four (HKW.out.then_ HK.out (fun j hj => .inl hj.1)) HMQ.out)
          | true =>
            obtain ⟨p, hp⟩ : ∃ p : Nat, F1.fin = (p : Int) := ⟨F1.fin.toNat, by have := (HDJ.out.1 rfl).1; omega⟩
            have HPF := Aside0.mk hp
            have hen2 : en = (p : Int) := by have h := HEN.out; unfold endI at h; rw [if_neg (by omega)] at h; omega
            subst hen2
            have HPL := Aside0.mk (show p ≤ F1.data.length ∧ p ≤ 2148 by have := HV.out.fin; have := HV.out.data; omega)
            have HFIN := Aside0.mk (show onF F ⟨c, ws, false, []⟩ = (F1, { N1 with done := true, data := cameL By p }) by
              unfold onF
              rw [HE2.out]
              rw [if_pos (HDJ.out.1 rfl), cameL_take (D := F1.data) (by rw [HND.out.1]; exact HC.out) HPL.out.1]
              have h5 : (min F1.fin (F1.data.length : Int)).toNat = p := by have := HPF.out; have := HPL.out; omega
              simp only [h5])
            have HI3 : Aside0 (RN (fun j => M j ∧ j ≠ q) w0 wr o f e m b n F1 By k { N1 with done := true, data := cameL By 0 } (.slice A1 F1.out.length c1) (.slice A2 N1.wants.length c2) (.slice none 0 0)) := ⟨by
              have h := HI.out
              have h2 := HND.out.2.1
              cases N1
              simp only at h2
              subst h2
              exact h⟩
            have hy2 := (blk_cell HI3.out.g.hn 2).trans rfl
            clear hp
            go_wp2
            clear hy2
            go_loopw [10] (fun v10 wx => ∃ (i : Nat) (A3 : Option Addr) (c3 : Nat), v10 = .int .i64 (i : Int) ∧ Aside0 (i ≤ p) ∧ Aside0 (RN (fun j => M j ∧ j ≠ q) w0 wx o f e m b n F1 By k { N1 with done := true, data := cameL By i } (.slice A1 F1.out.length c1) (.slice A2 N1.wants.length c2) (.slice A3 i c3)) ∧ Aside0 (Kept W2 wx (fun j => M j ∧ j ≠ q)) ∧ Aside0 (wx.heap[q]? = some (.cells #[.int .i64 0, .slice none 0 0, .bool false, .slice none 0 0] 59 (0, 0)))) (fun v10 _ => p - (intOf v10).toNat)
            case atStart => exact ⟨0, _, _, rfl, ⟨Nat.zero_le _⟩, HI3, HK, HQ⟩
            case round =>
              clear HI HI3 HK HQ
              obtain ⟨i, A3, c3, rfl, HJi, HI, HK, HQ⟩ := hrel
              have hce := (blk_cell HI.out.r.he 0).trans rfl
              rw [HEN.out] at hce
              by_cases hi : i < p
              · have e6 : decide ((i : Int) < (p : Int)) = true := decide_eq_true (by omega)
                have e6n : decide (i < p) = true := decide_eq_true hi
                have hy3 := (blk_cell HI.out.g.hn 3).trans rfl
                have hcm := (blk_cell HI.out.r.hm 0).trans rfl
                have hwf : (Lit.int .i64 (i : Int)).wf = true := WalkArith.wf_i64 (by have := HPL.out; omega)
                obtain ⟨D, hD1, hD2, hD3⟩ := HI.out.r.hB
                have HD2 := Aside0.mk hD2
                have HKY := Aside0.mk (keyOf_int_mk Try.underlying3 hwf)
                have HD3 := Aside0.mk (hD3 _ hwf)
                have HWJ := Aside0.mk (wj1 (j := i) (by have := HPL.out; omega))
                have HMW := Aside0.mk (fun j hj => HM.out wr HK.out.1 j hj)
                have HLI := Aside0.mk (show ((cameL By i).length + 1) * 1 ≤ 140737488355328 by rw [cameL_length]; have := HPL.out; omega)
                clear hwf hD1 hD2 hD3
                go_upto_region 15 with (first
                  | (at_lookup; refine wpList_lookup_own_int _ rfl _ _ 112 rfl 3 5 .u8 (int_keyed Try.underlying3) Try.underlying112 Try.underlying5 (zero5 _) b k D rfl HD2.out _ _ rfl HKY.out ?_; intro ck hat hwc; obtain rfl : ck = By (i : Int) := (by have h := hat.symm.trans HD3.out; simpa using h); clear hat hwc)
                  | ((with_reducible refine gate_builtin (b := .append) (xs := #[.tmp 64, .tmp 68]) rfl ?_); at_builtin; refine Kd.R_append (Kd.int .u8) (w0 := w0) w0.heap.size rfl (.tmp 64) (.tmp 68) 27 5 (.int .u8 0) 1 rfl Try.underlying27 info5z rfl (by decide) (by decide) (.slice A3 i c3) (cameL By i) (By (i : Int)) [.int .u8 (By (i : Int))] (fun j => M j ∧ j ≠ q) (fun _ => False) rfl rfl ?aK (fun _ hk => hk.elim) HMW.out HI.out.g.hD HI.out.r.hb HI.out.r.hb.size HLI.out ?_; (case aK => rfl); intro v1 w1 ho hb hg hat; rw [← cameL_succ] at ho; obtain ⟨A4, c4, hv4⟩ := Kd.R_slice ho; rw [cameL_length] at hv4; subst hv4; have HO1 := Aside0.mk ho; have HG1 := Aside0.mk hg; have HB1 := Aside0.mk hb; have hy3' := (blk_cell (HI.out.g.slotD hg) 3).trans rfl; have hz3' := blk_frozen (HI.out.g.slotD hg) 3; clear ho hb hg hat))
                have HI9 := Aside0.mk (HI.out.data HG1.out HB1.out HO1.out)
                go_wp2
                go_roundw
                case measure => rw [HWJ.out]; simp only [intOf]; omega
                case rel => exact ⟨i + 1, _, _, by rw [HWJ.out]; rfl, ⟨hi⟩, HI9, ⟨Kept.setCell (p := ⟨n, 3, none⟩) (Kept.of_grown HG1.out HK.out (fun j hj => .inl (HI.out.g.hD.1 j hj))) (.inl HI.out.g.mn) _⟩, ⟨(Below.heap_setCell _ ⟨n, 3, none⟩ _ q (fun e1 => HI.out.g.mn.2 e1.symm)).trans ((HG1.out.block q (blk_ltn HQ.out) (own_ne HI.out.g.hD HQ.out (by decide))).trans HQ.out)⟩⟩
              · have e6 : decide ((i : Int) < (p : Int)) = false := decide_eq_false (by omega)
                have e6n : decide (i < p) = false := decide_eq_false hi
                obtain rfl : i = p := by have := HJi.out; omega
                clear hi
                have hy0 := (blk_cell HI.out.g.hn 0).trans rfl
                have hy1 := (blk_cell HI.out.g.hn 1).trans rfl
                have hy2 := (blk_cell HI.out.g.hn 2).trans rfl
                have hy3 := (blk_cell HI.out.g.hn 3).trans rfl
                have hq0 := (blk_cell HQ.out 0).trans rfl
                have hz0 := blk_frozen HQ.out 0
                have hq1 := (blk_cell HQ.out 1).trans rfl
                have hz1 := blk_frozen HQ.out 1
                have hq2 := (blk_cell HQ.out 2).trans rfl
                have hz2 := blk_frozen HQ.out 2
                have hq3 := (blk_cell HQ.out 3).trans rfl
                have hz3 := blk_frozen HQ.out 3
                go_wp2
                have HIz := Aside0.mk (RN.copy HI.out HQ.out HQ1.out HMQ.out)
                refine bodyPost_ret (results_cell_row rfl _ _ q 59 _ (0, 0) _ rfl HIz.out.g.hn Try.underlying59 rfl (by kernel_rfl)) rfl ?_
                rw [HFIN.out]
                exact .mk q _ _ _ rfl HIz.out (kept_four (HKW.out.then_ HK.out (fun j hj => .inl hj.1)) HMQ.out)
    have e1 : decide ((F1.out.length : Int) < 6) = true := decide_eq_true (by omega)
    have e1n : decide (F1.out.length < 6) = true := decide_eq_true h1
    by_cases h2 : F1.front ≤ 2048
    case neg =>
      have e2 : decide (F1.front ≤ 2048) = false := decide_eq_false h2
      have HON := Aside0.mk (show goOn F1 = false by simp [goOn, h2])
      have HE2 := Aside0.mk (show onL 6 F ⟨c, ws, false, []⟩ = (F1, N1) from HE.out.trans (onL_stop HON.out _))
      have HND := Aside0.mk (show F1.data = F.data ∧ N1.data = [] ∧ N1.done = false by
        have h2 := onL_data 6 F ⟨c, ws, false, []⟩
        rw [HE2.out] at h2
        exact ⟨h2.1, h2.2.2.1, h2.2.2.2⟩)
      obtain ⟨dn0, hdn0⟩ : ∃ d, decide (0 ≤ F1.fin) = d := ⟨_, rfl⟩
      have hend := endI_lt HV.out
      rw [HEN.out, hdn0] at hend
      have HDN := Aside0.mk hdn0
      have hz2 := blk_frozen HI.out.g.hn 2
      have hy2 := (blk_cell HI.out.g.hn 2).trans rfl
      clear hdn0 hef h1 h2
      go_upto_region 7 with fail
      have HI6 := Aside0.mk (HI.out.done dn0)
      have HK6 := Aside0.mk (Kept.setCell (p := ⟨n, 2, none⟩) HK.out (.inl HI.out.g.mn) (.bool dn0))
      have HQ6 := Aside0.mk ((Below.heap_setCell wr ⟨n, 2, none⟩ (.bool dn0) q (fun e1 => HI.out.g.mn.2 e1.symm)).trans HQ.out)
      obtain ⟨w6, hw6⟩ : ∃ W, wr.setCell ⟨n, 2, none⟩ (.bool dn0) = W := ⟨_, rfl⟩
      rw [hw6] at HI6 HK6 HQ6 ⊢
      have HD0 := Aside0.mk (show dnJ F1 0 = dn0 by rw [← HDN.out]; simp [dnJ])
      clear hw6 hc0 hc1 hc2 hz2 hy2 hend
      have hc0 := (blk_cell HI6.out.r.ho 0).trans rfl
      go_wp2
      clear hc0
      go_loopw [42] (fun v42 wx => ∃ j : Nat, v42 = .int .i64 (j : Int) ∧ Aside0 (j ≤ F1.out.length) ∧ Aside0 (RN (fun j => M j ∧ j ≠ q) w0 wx o f e m b n F1 By k { N1 with done := dnJ F1 j } (.slice A1 F1.out.length c1) (.slice A2 N1.wants.length c2) (.slice none 0 0)) ∧ Aside0 (Kept W2 wx (fun j => M j ∧ j ≠ q)) ∧ Aside0 (wx.heap[q]? = some (.cells #[.int .i64 0, .slice none 0 0, .bool false, .slice none 0 0] 59 (0, 0)))) (fun v42 _ => F1.out.length - (intOf v42).toNat)
      case atStart => exact ⟨0, rfl, ⟨Nat.zero_le _⟩, ⟨by rw [HD0.out]; exact HI6.out⟩, HK6, HQ6⟩
      case round =>
        clear HI HK HQ HI6 HK6 HQ6 HD0
        obtain ⟨j, rfl, HJ, HI, HK, HQ⟩ := hrel
        have HV6 := Aside0.mk HV.out.out
        by_cases hj : j < F1.out.length
        · have e5 : decide ((j : Int) < (F1.out.length : Int)) = true := decide_eq_true (by omega)
          have e5n : decide (j < F1.out.length) = true := decide_eq_true hj
          have p1 : (0 : Int) ≤ (j : Int) := by omega
          have q1 : (j : Int) < (F1.out.length : Int) := by omega
          obtain ⟨ad, hA, h0, h1⟩ := at_T61 (Kd.R_reads' HI.out.r.row).2.2 (j : Int) p1 q1
          subst hA
          rw [Int.toNat_natCast] at h0 h1
          have hm : rd_T61 F1.out (j : Int) = F1.out[j] := by unfold rd_T61; rw [Int.toNat_natCast, List.getD_eq_getElem?_getD, List.getElem?_eq_getElem hj]; rfl
          have hds := dnJ_succ hj
          rw [← hm, HEN.out] at hds
          obtain ⟨y, hy⟩ : ∃ y, rd_T61 F1.out (j : Int) = y := ⟨_, rfl⟩
          rw [hy] at h0 h1 hds
          obtain ⟨t, ht⟩ : ∃ t, decide (en ≤ y.f0) = t := ⟨_, rfl⟩
          rw [ht] at hds
          have HDS := Aside0.mk hds
          replace p1 := eq_true p1
          replace q1 := eq_true q1
          clear hm hy hds
          go_upto_region 10 with fail
          have HB8 := Aside0.mk ((Below.refl wr.heap.size wr).alloc (Nat.le_refl _) (.cells #[.int .i64 y.f0, .int .i64 y.f1] 61))
          have hx8 := (blk_cell (heap_alloc_new wr (.cells #[.int .i64 y.f0, .int .i64 y.f1] 61)) 0).trans rfl
          have HI8 := Aside0.mk (HI.out.below HB8.out)
          have HK8 := Aside0.mk (HK.out.below HB8.out)
          have HQ8 := Aside0.mk ((HB8.out.block q (blk_ltn HQ.out)).trans HQ.out)
          obtain ⟨w8, hw8⟩ : ∃ W, wr.alloc (.cells #[.int .i64 y.f0, .int .i64 y.f1] 61) = W := ⟨_, rfl⟩
          rw [hw8] at hx8 HI8 HK8 HQ8 ⊢
          clear HB8 hw8 h0 h1
          have hy2 := (blk_cell HI8.out.g.hn 2).trans rfl
          have hz2 := blk_frozen HI8.out.g.hn 2
          have hce := (blk_cell HI8.out.r.he 0).trans rfl
          rw [HEN.out] at hce
          obtain ⟨dj, hdj⟩ : ∃ d, dnJ F1 j = d := ⟨_, rfl⟩
          have HDJ := Aside0.mk hdj
          simp only [hdj] at hy2
          rw [hdj] at HDS
          clear hdj
          have HWJ := Aside0.mk (wj1 (j := j) (by have := HV6.out; omega))
          cases dj with
          | true =>
            go_wp2
            go_roundw
            case measure => rw [HWJ.out]; simp only [intOf]; omega
            case rel => exact ⟨j + 1, by rw [HWJ.out]; rfl, ⟨hj⟩, ⟨by rw [HDS.out]; exact HI8.out.done t⟩, ⟨Kept.setCell (p := ⟨n, 2, none⟩) HK8.out (.inl HI8.out.g.mn) _⟩, ⟨(Below.heap_setCell _ ⟨n, 2, none⟩ _ q (fun e1 => HI8.out.g.mn.2 e1.symm)).trans HQ8.out⟩⟩
          | false =>
            go_wp2
            go_roundw
            case measure => rw [HWJ.out]; simp only [intOf]; omega
            case rel => exact ⟨j + 1, by rw [HWJ.out]; rfl, ⟨hj⟩, ⟨by rw [HDS.out]; exact HI8.out.done false⟩, ⟨Kept.setCell (p := ⟨n, 2, none⟩) HK8.out (.inl HI8.out.g.mn) _⟩, ⟨(Below.heap_setCell _ ⟨n, 2, none⟩ _ q (fun e1 => HI8.out.g.mn.2 e1.symm)).trans HQ8.out⟩⟩
        · have e5 : decide ((j : Int) < (F1.out.length : Int)) = false := decide_eq_false (by omega)
          have e5n : decide (j < F1.out.length) = false := decide_eq_false hj
          obtain rfl : j = F1.out.length := by have := HJ.out; omega
          have hdj := dnJ_all (F := F1)
          obtain ⟨dj, hdj2⟩ : ∃ d, dnJ F1 F1.out.length = d := ⟨_, rfl⟩
          rw [hdj2] at hdj HI
          have HDJ := Aside0.mk hdj
          clear hdj hdj2 hj
          cases dj with
          | false =>
            have HFIN := Aside0.mk (show onF F ⟨c, ws, false, []⟩ = (F1, { N1 with done := false }) by
              unfold onF
              rw [HE2.out]
              rw [if_neg (fun h => by have := HDJ.out.2 h; cases this)]
              have := HND.out.2.2
              cases N1
              simp_all)
            have hy0 := (blk_cell HI.out.g.hn 0).trans rfl
            have hy1 := (blk_cell HI.out.g.hn 1).trans rfl
            have hy2 := (blk_cell HI.out.g.hn 2).trans rfl
            have hy3 := (blk_cell HI.out.g.hn 3).trans rfl
            have hq0 := (blk_cell HQ.out 0).trans rfl
            have hz0 := blk_frozen HQ.out 0
            have hq1 := (blk_cell HQ.out 1).trans rfl
            have hz1 := blk_frozen HQ.out 1
            have hq2 := (blk_cell HQ.out 2).trans rfl
            have hz2 := blk_frozen HQ.out 2
            have hq3 := (blk_cell HQ.out 3).trans rfl
            have hz3 := blk_frozen HQ.out 3
            go_wp2
            have HIz := Aside0.mk (RN.copy HI.out HQ.out HQ1.out HMQ.out)
            refine bodyPost_ret (results_cell_row rfl _ _ q 59 _ (0, 0) _ rfl HIz.out.g.hn Try.underlying59 rfl (by kernel_rfl)) rfl ?_
            rw [HFIN.out]
            exact .mk q _ _ _ rfl HIz.out (kept_four (HKW.out.then_ HK.out (fun j hj => .inl hj.1)) HMQ.out)
          | true =>
            obtain ⟨p, hp⟩ : ∃ p : Nat, F1.fin = (p : Int) := ⟨F1.fin.toNat, by have := (HDJ.out.1 rfl).1; omega⟩
            have HPF := Aside0.mk hp
            have hen2 : en = (p : Int) := by have h := HEN.out; unfold endI at h; rw [if_neg (by omega)] at h; omega
            subst hen2
            have HPL := Aside0.mk (show p ≤ F1.data.length ∧ p ≤ 2148 by have := HV.out.fin; have := HV.out.data; omega)
            have HFIN := Aside0.mk (show onF F ⟨c, ws, false, []⟩ = (F1, { N1 with done := true, data := cameL By p }) by
              unfold onF
              rw [HE2.out]
              rw [if_pos (HDJ.out.1 rfl), cameL_take (D := F1.data) (by rw [HND.out.1]; exact HC.out) HPL.out.1]
              have h5 : (min F1.fin (F1.data.length : Int)).toNat = p := by have := HPF.out; have := HPL.out; omega
              simp only [h5])
            have HI3 : Aside0 (RN (fun j => M j ∧ j ≠ q) w0 wr o f e m b n F1 By k { N1 with done := true, data := cameL By 0 } (.slice A1 F1.out.length c1) (.slice A2 N1.wants.length c2) (.slice none 0 0)) := ⟨by
              have h := HI.out
              have h2 := HND.out.2.1
              cases N1
              simp only at h2
              subst h2
              exact h⟩
            have hy2 := (blk_cell HI3.out.g.hn 2).trans rfl
            clear hp
            go_wp2
            clear hy2
            go_loopw [10] (fun v10 wx => ∃ (i : Nat) (A3 : Option Addr) (c3 : Nat), v10 = .int .i64 (i : Int) ∧ Aside0 (i ≤ p) ∧ Aside0 (RN (fun j => M j ∧ j ≠ q) w0 wx o f e m b n F1 By k { N1 with done := true, data := cameL By i } (.slice A1 F1.out.length c1) (.slice A2 N1.wants.length c2) (.slice A3 i c3)) ∧ Aside0 (Kept W2 wx (fun j => M j ∧ j ≠ q)) ∧ Aside0 (wx.heap[q]? = some (.cells #[.int .i64 0, .slice none 0 0, .bool false, .slice none 0 0] 59 (0, 0)))) (fun v10 _ => p - (intOf v10).toNat)
            case atStart => exact ⟨0, _, _, rfl, ⟨Nat.zero_le _⟩, HI3, HK, HQ⟩
            case round =>
              clear HI HI3 HK HQ
              obtain ⟨i, A3, c3, rfl, HJi, HI, HK, HQ⟩ := hrel
              have hce := (blk_cell HI.out.r.he 0).trans rfl
              rw [HEN.out] at hce
              by_cases hi : i < p
              · have e6 : decide ((i : Int) < (p : Int)) = true := decide_eq_true (by omega)
                have e6n : decide (i < p) = true := decide_eq_true hi
                have hy3 := (blk_cell HI.out.g.hn 3).trans rfl
                have hcm := (blk_cell HI.out.r.hm 0).trans rfl
                have hwf : (Lit.int .i64 (i : Int)).wf = true := WalkArith.wf_i64 (by have := HPL.out; omega)
                obtain ⟨D, hD1, hD2, hD3⟩ := HI.out.r.hB
                have HD2 := Aside0.mk hD2
                have HKY := Aside0.mk (keyOf_int_mk Try.underlying3 hwf)
                have HD3 := Aside0.mk (hD3 _ hwf)
                have HWJ := Aside0.mk (wj1 (j := i) (by have := HPL.out; omega))
                have HMW := Aside0.mk (fun j hj => HM.out wr HK.out.1 j hj)
                have HLI := Aside0.mk (show ((cameL By i).length + 1) * 1 ≤ 140737488355328 by rw [cameL_length]; have := HPL.out; omega)
                clear hwf hD1 hD2 hD3
                go_upto_region 15 with (first
                  | (at_lookup; refine wpList_lookup_own_int _ rfl _ _ 112 rfl 3 5 .u8 (int_keyed Try.underlying3) Try.underlying112 Try.underlying5 (zero5 _) b k D rfl HD2.out _ _ rfl HKY.out ?_; intro ck hat hwc; obtain rfl : ck = By (i : Int) := (by have h := hat.symm.trans HD3.out; simpa using h); clear hat hwc)
                  | ((with_reducible refine gate_builtin (b := .append) (xs := #[.tmp 64, .tmp 68]) rfl ?_); at_builtin; refine Kd.R_append (Kd.int .u8) (w0 := w0) w0.heap.size rfl (.tmp 64) (.tmp 68) 27 5 (.int .u8 0) 1 rfl Try.underlying27 info5z rfl (by decide) (by decide) (.slice A3 i c3) (cameL By i) (By (i : Int)) [.int .u8 (By (i : Int))] (fun j => M j ∧ j ≠ q) (fun _ => False) rfl rfl ?aK (fun _ hk => hk.elim) HMW.out HI.out.g.hD HI.out.r.hb HI.out.r.hb.size HLI.out ?_; (case aK => rfl); intro v1 w1 ho hb hg hat; rw [← cameL_succ] at ho; obtain ⟨A4, c4, hv4⟩ := Kd.R_slice ho; rw [cameL_length] at hv4; subst hv4; have HO1 := Aside0.mk ho; have HG1 := Aside0.mk hg; have HB1 := Aside0.mk hb; have hy3' := (blk_cell (HI.out.g.slotD hg) 3).trans rfl; have hz3' := blk_frozen (HI.out.g.slotD hg) 3; clear ho hb hg hat))
                have HI9 := Aside0.mk (HI.out.data HG1.out HB1.out HO1.out)
                go_wp2
                go_roundw
                case measure => rw [HWJ.out]; simp only [intOf]; omega
                case rel => exact ⟨i + 1, _, _, by rw [HWJ.out]; rfl, ⟨hi⟩, HI9, ⟨Kept.setCell (p := ⟨n, 3, none⟩) (Kept.of_grown HG1.out HK.out (fun j hj => .inl (HI.out.g.hD.1 j hj))) (.inl HI.out.g.mn) _⟩, ⟨(Below.heap_setCell _ ⟨n, 3, none⟩ _ q (fun e1 => HI.out.g.mn.2 e1.symm)).trans ((HG1.out.block q (blk_ltn HQ.out) (own_ne HI.out.g.hD HQ.out (by decide))).trans HQ.out)⟩⟩
              · have e6 : decide ((i : Int) < (p : Int)) = false := decide_eq_false (by omega)
                have e6n : decide (i < p) = false := decide_eq_false hi
                obtain rfl : i = p := by have := HJi.out; omega
                clear hi
                have hy0 := (blk_cell HI.out.g.hn 0).trans rfl
                have hy1 := (blk_cell HI.out.g.hn 1).trans rfl
                have hy2 := (blk_cell HI.out.g.hn 2).trans rfl
                have hy3 := (blk_cell HI.out.g.hn 3).trans rfl
                have hq0 := (blk_cell HQ.out 0).trans rfl
                have hz0 := blk_frozen HQ.out 0
                have hq1 := (blk_cell HQ.out 1).trans rfl
                have hz1 := blk_frozen HQ.out 1
                have hq2 := (blk_cell HQ.out 2).trans rfl
                have hz2 := blk_frozen HQ.out 2
                have hq3 := (blk_cell HQ.out 3).trans rfl
                have hz3 := blk_frozen HQ.out 3
                go_wp2
                have HIz := Aside0.mk (RN.copy HI.out HQ.out HQ1.out HMQ.out)
                refine bodyPost_ret (results_cell_row rfl _ _ q 59 _ (0, 0) _ rfl HIz.out.g.hn Try.underlying59 rfl (by kernel_rfl)) rfl ?_
                rw [HFIN.out]
                exact .mk q _ _ _ rfl HIz.out (kept_four (HKW.out.then_ HK.out (fun j hj => .inl hj.1)) HMQ.out)
    have e2 : decide (F1.front ≤ 2048) = true := decide_eq_true h2
    obtain ⟨tt, htt⟩ : ∃ t, decide (F1.front < en) = t := ⟨_, rfl⟩
    rw [htt] at hef
    cases tt with
    | false =>
      have HON := Aside0.mk (show goOn F1 = false by unfold goOn; rw [← hef]; simp)
      have HE2 := Aside0.mk (show onL 6 F ⟨c, ws, false, []⟩ = (F1, N1) from HE.out.trans (onL_stop HON.out _))
      have HND := Aside0.mk (show F1.data = F.data ∧ N1.data = [] ∧ N1.done = false by
        have h2 := onL_data 6 F ⟨c, ws, false, []⟩
        rw [HE2.out] at h2
        exact ⟨h2.1, h2.2.2.1, h2.2.2.2⟩)
      obtain ⟨dn0, hdn0⟩ : ∃ d, decide (0 ≤ F1.fin) = d := ⟨_, rfl⟩
      have hend := endI_lt HV.out
      rw [HEN.out, hdn0] at hend
      have HDN := Aside0.mk hdn0
      have hz2 := blk_frozen HI.out.g.hn 2
      have hy2 := (blk_cell HI.out.g.hn 2).trans rfl
      clear hdn0 hef h1 h2
      go_upto_region 7 with fail
      have HI6 := Aside0.mk (HI.out.done dn0)
      have HK6 := Aside0.mk (Kept.setCell (p := ⟨n, 2, none⟩) HK.out (.inl HI.out.g.mn) (.bool dn0))
      have HQ6 := Aside0.mk ((Below.heap_setCell wr ⟨n, 2, none⟩ (.bool dn0) q (fun e1 => HI.out.g.mn.2 e1.symm)).trans HQ.out)
      obtain ⟨w6, hw6⟩ : ∃ W, wr.setCell ⟨n, 2, none⟩ (.bool dn0) = W := ⟨_, rfl⟩
      rw [hw6] at HI6 HK6 HQ6 ⊢
      have HD0 := Aside0.mk (show dnJ F1 0 = dn0 by rw [← HDN.out]; simp [dnJ])
      clear hw6 hc0 hc1 hc2 hz2 hy2 hend
      have hc0 := (blk_cell HI6.out.r.ho 0).trans rfl
      go_wp2
      clear hc0
      go_loopw [42] (fun v42 wx => ∃ j : Nat, v42 = .int .i64 (j : Int) ∧ Aside0 (j ≤ F1.out.length) ∧ Aside0 (RN (fun j => M j ∧ j ≠ q) w0 wx o f e m b n F1 By k { N1 with done := dnJ F1 j } (.slice A1 F1.out.length c1) (.slice A2 N1.wants.length c2) (.slice none 0 0)) ∧ Aside0 (Kept W2 wx (fun j => M j ∧ j ≠ q)) ∧ Aside0 (wx.heap[q]? = some (.cells #[.int .i64 0, .slice none 0 0, .bool false, .slice none 0 0] 59 (0, 0)))) (fun v42 _ => F1.out.length - (intOf v42).toNat)
      case atStart => exact ⟨0, rfl, ⟨Nat.zero_le _⟩, ⟨by rw [HD0.out]; exact HI6.out⟩, HK6, HQ6⟩
      case round =>
        clear HI HK HQ HI6 HK6 HQ6 HD0
        obtain ⟨j, rfl, HJ, HI, HK, HQ⟩ := hrel
        have HV6 := Aside0.mk HV.out.out
        by_cases hj : j < F1.out.length
        · have e5 : decide ((j : Int) < (F1.out.length : Int)) = true := decide_eq_true (by omega)
          have e5n : decide (j < F1.out.length) = true := decide_eq_true hj
          have p1 : (0 : Int) ≤ (j : Int) := by omega
          have q1 : (j : Int) < (F1.out.length : Int) := by omega
          obtain ⟨ad, hA, h0, h1⟩ := at_T61 (Kd.R_reads' HI.out.r.row).2.2 (j : Int) p1 q1
          subst hA
          rw [Int.toNat_natCast] at h0 h1
          have hm : rd_T61 F1.out (j : Int) = F1.out[j] := by unfold rd_T61; rw [Int.toNat_natCast, List.getD_eq_getElem?_getD, List.getElem?_eq_getElem hj]; rfl
          have hds := dnJ_succ hj
          rw [← hm, HEN.out] at hds
          obtain ⟨y, hy⟩ : ∃ y, rd_T61 F1.out (j : Int) = y := ⟨_, rfl⟩
          rw [hy] at h0 h1 hds
          obtain ⟨t, ht⟩ : ∃ t, decide (en ≤ y.f0) = t := ⟨_, rfl⟩
          rw [ht] at hds
          have HDS := Aside0.mk hds
          replace p1 := eq_true p1
          replace q1 := eq_true q1
          clear hm hy hds
          go_upto_region 10 with fail
          have HB8 := Aside0.mk ((Below.refl wr.heap.size wr).alloc (Nat.le_refl _) (.cells #[.int .i64 y.f0, .int .i64 y.f1] 61))
          have hx8 := (blk_cell (heap_alloc_new wr (.cells #[.int .i64 y.f0, .int .i64 y.f1] 61)) 0).trans rfl
          have HI8 := Aside0.mk (HI.out.below HB8.out)
          have HK8 := Aside0.mk (HK.out.below HB8.out)
          have HQ8 := Aside0.mk ((HB8.out.block q (blk_ltn HQ.out)).trans HQ.out)
          obtain ⟨w8, hw8⟩ : ∃ W, wr.alloc (.cells #[.int .i64 y.f0, .int .i64 y.f1] 61) = W := ⟨_, rfl⟩
          rw [hw8] at hx8 HI8 HK8 HQ8 ⊢
          clear HB8 hw8 h0 h1
          have hy2 := (blk_cell HI8.out.g.hn 2).trans rfl
          have hz2 := blk_frozen HI8.out.g.hn 2
          have hce := (blk_cell HI8.out.r.he 0).trans rfl
          rw [HEN.out] at hce
          obtain ⟨dj, hdj⟩ : ∃ d, dnJ F1 j = d := ⟨_, rfl⟩
          have HDJ := Aside0.mk hdj
          simp only [hdj] at hy2
          rw [hdj] at HDS
          clear hdj
          have HWJ := Aside0.mk (wj1 (j := j) (by have := HV6.out; omega))
          cases dj with
          | true =>
            go_wp2
            go_roundw
            case measure => rw [HWJ.out]; simp only [intOf]; omega
            case rel => exact ⟨j + 1, by rw [HWJ.out]; rfl, ⟨hj⟩, ⟨by rw [HDS.out]; exact HI8.out.done t⟩, ⟨Kept.setCell (p := ⟨n, 2, none⟩) HK8.out (.inl HI8.out.g.mn) _⟩, ⟨(Below.heap_setCell _ ⟨n, 2, none⟩ _ q (fun e1 => HI8.out.g.mn.2 e1.symm)).trans HQ8.out⟩⟩
          | false =>
            go_wp2
            go_roundw
            case measure => rw [HWJ.out]; simp only [intOf]; omega
            case rel => exact ⟨j + 1, by rw [HWJ.out]; rfl, ⟨hj⟩, ⟨by rw [HDS.out]; exact HI8.out.done false⟩, ⟨Kept.setCell (p := ⟨n, 2, none⟩) HK8.out (.inl HI8.out.g.mn) _⟩, ⟨(Below.heap_setCell _ ⟨n, 2, none⟩ _ q (fun e1 => HI8.out.g.mn.2 e1.symm)).trans HQ8.out⟩⟩
        · have e5 : decide ((j : Int) < (F1.out.length : Int)) = false := decide_eq_false (by omega)
          have e5n : decide (j < F1.out.length) = false := decide_eq_false hj
          obtain rfl : j = F1.out.length := by have := HJ.out; omega
          have hdj := dnJ_all (F := F1)
          obtain ⟨dj, hdj2⟩ : ∃ d, dnJ F1 F1.out.length = d := ⟨_, rfl⟩
          rw [hdj2] at hdj HI
          have HDJ := Aside0.mk hdj
          clear hdj hdj2 hj
          cases dj with
          | false =>
            have HFIN := Aside0.mk (show onF F ⟨c, ws, false, []⟩ = (F1, { N1 with done := false }) by
              unfold onF
              rw [HE2.out]
              rw [if_neg (fun h => by have := HDJ.out.2 h; cases this)]
              have := HND.out.2.2
              cases N1
              simp_all)
            have hy0 := (blk_cell HI.out.g.hn 0).trans rfl
            have hy1 := (blk_cell HI.out.g.hn 1).trans rfl
            have hy2 := (blk_cell HI.out.g.hn 2).trans rfl
            have hy3 := (blk_cell HI.out.g.hn 3).trans rfl
            have hq0 := (blk_cell HQ.out 0).trans rfl
            have hz0 := blk_frozen HQ.out 0
            have hq1 := (blk_cell HQ.out 1).trans rfl
            have hz1 := blk_frozen HQ.out 1
            have hq2 := (blk_cell HQ.out 2).trans rfl
            have hz2 := blk_frozen HQ.out 2
            have hq3 := (blk_cell HQ.out 3).trans rfl
            have hz3 := blk_frozen HQ.out 3
            go_wp2
            have HIz := Aside0.mk (RN.copy HI.out HQ.out HQ1.out HMQ.out)
            refine bodyPost_ret (results_cell_row rfl _ _ q 59 _ (0, 0) _ rfl HIz.out.g.hn Try.underlying59 rfl (by kernel_rfl)) rfl ?_
            rw [HFIN.out]
            exact .mk q _ _ _ rfl HIz.out (kept_four (HKW.out.then_ HK.out (fun j hj => .inl hj.1)) HMQ.out)
          | true =>
            obtain ⟨p, hp⟩ : ∃ p : Nat, F1.fin = (p : Int) := ⟨F1.fin.toNat, by have := (HDJ.out.1 rfl).1; omega⟩
            have HPF := Aside0.mk hp
            have hen2 : en = (p : Int) := by have h := HEN.out; unfold endI at h; rw [if_neg (by omega)] at h; omega
            subst hen2
            have HPL := Aside0.mk (show p ≤ F1.data.length ∧ p ≤ 2148 by have := HV.out.fin; have := HV.out.data; omega)
            have HFIN := Aside0.mk (show onF F ⟨c, ws, false, []⟩ = (F1, { N1 with done := true, data := cameL By p }) by
              unfold onF
              rw [HE2.out]
              rw [if_pos (HDJ.out.1 rfl), cameL_take (D := F1.data) (by rw [HND.out.1]; exact HC.out) HPL.out.1]
              have h5 : (min F1.fin (F1.data.length : Int)).toNat = p := by have := HPF.out; have := HPL.out; omega
              simp only [h5])
            have HI3 : Aside0 (RN (fun j => M j ∧ j ≠ q) w0 wr o f e m b n F1 By k { N1 with done := true, data := cameL By 0 } (.slice A1 F1.out.length c1) (.slice A2 N1.wants.length c2) (.slice none 0 0)) := ⟨by
              have h := HI.out
              have h2 := HND.out.2.1
              cases N1
              simp only at h2
              subst h2
              exact h⟩
            have hy2 := (blk_cell HI3.out.g.hn 2).trans rfl
            clear hp
            go_wp2
            clear hy2
            go_loopw [10] (fun v10 wx => ∃ (i : Nat) (A3 : Option Addr) (c3 : Nat), v10 = .int .i64 (i : Int) ∧ Aside0 (i ≤ p) ∧ Aside0 (RN (fun j => M j ∧ j ≠ q) w0 wx o f e m b n F1 By k { N1 with done := true, data := cameL By i } (.slice A1 F1.out.length c1) (.slice A2 N1.wants.length c2) (.slice A3 i c3)) ∧ Aside0 (Kept W2 wx (fun j => M j ∧ j ≠ q)) ∧ Aside0 (wx.heap[q]? = some (.cells #[.int .i64 0, .slice none 0 0, .bool false, .slice none 0 0] 59 (0, 0)))) (fun v10 _ => p - (intOf v10).toNat)
            case atStart => exact ⟨0, _, _, rfl, ⟨Nat.zero_le _⟩, HI3, HK, HQ⟩
            case round =>
              clear HI HI3 HK HQ
              obtain ⟨i, A3, c3, rfl, HJi, HI, HK, HQ⟩ := hrel
              have hce := (blk_cell HI.out.r.he 0).trans rfl
              rw [HEN.out] at hce
              by_cases hi : i < p
              · have e6 : decide ((i : Int) < (p : Int)) = true := decide_eq_true (by omega)
                have e6n : decide (i < p) = true := decide_eq_true hi
                have hy3 := (blk_cell HI.out.g.hn 3).trans rfl
                have hcm := (blk_cell HI.out.r.hm 0).trans rfl
                have hwf : (Lit.int .i64 (i : Int)).wf = true := WalkArith.wf_i64 (by have := HPL.out; omega)
                obtain ⟨D, hD1, hD2, hD3⟩ := HI.out.r.hB
                have HD2 := Aside0.mk hD2
                have HKY := Aside0.mk (keyOf_int_mk Try.underlying3 hwf)
                have HD3 := Aside0.mk (hD3 _ hwf)
                have HWJ := Aside0.mk (wj1 (j := i) (by have := HPL.out; omega))
                have HMW := Aside0.mk (fun j hj => HM.out wr HK.out.1 j hj)
                have HLI := Aside0.mk (show ((cameL By i).length + 1) * 1 ≤ 140737488355328 by rw [cameL_length]; have := HPL.out; omega)
                clear hwf hD1 hD2 hD3
                go_upto_region 15 with (first
                  | (at_lookup; refine wpList_lookup_own_int _ rfl _ _ 112 rfl 3 5 .u8 (int_keyed Try.underlying3) Try.underlying112 Try.underlying5 (zero5 _) b k D rfl HD2.out _ _ rfl HKY.out ?_; intro ck hat hwc; obtain rfl : ck = By (i : Int) := (by have h := hat.symm.trans HD3.out; simpa using h); clear hat hwc)
                  | ((with_reducible refine gate_builtin (b := .append) (xs := #[.tmp 64, .tmp 68]) rfl ?_); at_builtin; refine Kd.R_append (Kd.int .u8) (w0 := w0) w0.heap.size rfl (.tmp 64) (.tmp 68) 27 5 (.int .u8 0) 1 rfl Try.underlying27 info5z rfl (by decide) (by decide) (.slice A3 i c3) (cameL By i) (By (i : Int)) [.int .u8 (By (i : Int))] (fun j => M j ∧ j ≠ q) (fun _ => False) rfl rfl ?aK (fun _ hk => hk.elim) HMW.out HI.out.g.hD HI.out.r.hb HI.out.r.hb.size HLI.out ?_; (case aK => rfl); intro v1 w1 ho hb hg hat; rw [← cameL_succ] at ho; obtain ⟨A4, c4, hv4⟩ := Kd.R_slice ho; rw [cameL_length] at hv4; subst hv4; have HO1 := Aside0.mk ho; have HG1 := Aside0.mk hg; have HB1 := Aside0.mk hb; have hy3' := (blk_cell (HI.out.g.slotD hg) 3).trans rfl; have hz3' := blk_frozen (HI.out.g.slotD hg) 3; clear ho hb hg hat))
                have HI9 := Aside0.mk (HI.out.data HG1.out HB1.out HO1.out)
                go_wp2
                go_roundw
                case measure => rw [HWJ.out]; simp only [intOf]; omega
                case rel => exact ⟨i + 1, _, _, by rw [HWJ.out]; rfl, ⟨hi⟩, HI9, ⟨Kept.setCell (p := ⟨n, 3, none⟩) (Kept.of_grown HG1.out HK.out (fun j hj => .inl (HI.out.g.hD.1 j hj))) (.inl HI.out.g.mn) _⟩, ⟨(Below.heap_setCell _ ⟨n, 3, none⟩ _ q (fun e1 => HI.out.g.mn.2 e1.symm)).trans ((HG1.out.block q (blk_ltn HQ.out) (own_ne HI.out.g.hD HQ.out (by decide))).trans HQ.out)⟩⟩
              · have e6 : decide ((i : Int) < (p : Int)) = false := decide_eq_false (by omega)
                have e6n : decide (i < p) = false := decide_eq_false hi
                obtain rfl : i = p := by have := HJi.out; omega
                clear hi
                have hy0 := (blk_cell HI.out.g.hn 0).trans rfl
                have hy1 := (blk_cell HI.out.g.hn 1).trans rfl
                have hy2 := (blk_cell HI.out.g.hn 2).trans rfl
                have hy3 := (blk_cell HI.out.g.hn 3).trans rfl
                have hq0 := (blk_cell HQ.out 0).trans rfl
                have hz0 := blk_frozen HQ.out 0
                have hq1 := (blk_cell HQ.out 1).trans rfl
                have hz1 := blk_frozen HQ.out 1
                have hq2 := (blk_cell HQ.out 2).trans rfl
                have hz2 := blk_frozen HQ.out 2
                have hq3 := (blk_cell HQ.out 3).trans rfl
                have hz3 := blk_frozen HQ.out 3
                go_wp2
                have HIz := Aside0.mk (RN.copy HI.out HQ.out HQ1.out HMQ.out)
                refine bodyPost_ret (results_cell_row rfl _ _ q 59 _ (0, 0) _ rfl HIz.out.g.hn Try.underlying59 rfl (by kernel_rfl)) rfl ?_
                rw [HFIN.out]
                exact .mk q _ _ _ rfl HIz.out (kept_four (HKW.out.then_ HK.out (fun j hj => .inl hj.1)) HMQ.out)
    | true =>
      have HON := Aside0.mk (show goOn F1 = true by unfold goOn; rw [← hef, decide_eq_true h1, decide_eq_true h2]; rfl)
      clear hef
      cases gk with
      | zero => exact absurd HG.out (by omega)
      | succ gk =>
      have HWK := Aside0.mk (wk100 (i := F1.front) (by have := HV.out.front; omega))
      have HPV := Aside0.mk (show PInv { F1 with out := F1.out ++ [⟨F1.front, 100⟩], front := F1.front + 100 } by
        have h := PInv.onL 1 N1 HV.out
        rw [show onL 1 F1 N1 = ({ F1 with out := F1.out ++ [⟨F1.front, 100⟩], front := F1.front + 100 }, { N1 with wants := N1.wants ++ [⟨F1.front, 100⟩] }) from if_pos HON.out] at h
        exact h)
      have HE2 := Aside0.mk (show onL 6 F ⟨c, ws, false, []⟩ = onL gk { F1 with out := F1.out ++ [⟨F1.front, 100⟩], front := F1.front + 100 } { N1 with wants := N1.wants ++ [⟨F1.front, 100⟩] } from HE.out.trans (if_pos HON.out))
      have HO6 := Aside0.mk h1
      clear h1 h2
      go_upto_region 3 with fail
      have HNB := Aside0.mk (show some wr.heap.size ≠ (Value.slice A1 F1.out.length c1).ownBlock ∧ some wr.heap.size ≠ (Value.slice A2 N1.wants.length c2).ownBlock ∧ wr.heap.size ≠ o ∧ wr.heap.size ≠ n from ⟨fun e1 => Nat.lt_irrefl _ (own_lt HI.out.r.row e1.symm), fun e1 => Nat.lt_irrefl _ (own_lt HI.out.g.hw e1.symm), fun e1 => Nat.lt_irrefl _ (e1 ▸ blk_ltn HI.out.r.ho : wr.heap.size < wr.heap.size), fun e1 => Nat.lt_irrefl _ (e1 ▸ blk_ltn HI.out.g.hn : wr.heap.size < wr.heap.size)⟩)
      have HB7 := Aside0.mk ((Below.refl wr.heap.size wr).alloc (Nat.le_refl _) (.cells #[.int .i64 F1.front, .int .i64 100] 61))
      have hx7 := heap_alloc_new wr (.cells #[.int .i64 F1.front, .int .i64 100] 61)
      have HI7 := Aside0.mk (HI.out.below HB7.out)
      have HK7 := Aside0.mk (HK.out.below HB7.out)
      have HQ7 := Aside0.mk ((HB7.out.block q (blk_ltn HQ.out)).trans HQ.out)
      obtain ⟨w7, hw7⟩ : ∃ W, wr.alloc (.cells #[.int .i64 F1.front, .int .i64 100] 61) = W := ⟨_, rfl⟩
      obtain ⟨b7, hb7⟩ : ∃ j, wr.heap.size = j := ⟨_, rfl⟩
      rw [hw7] at hx7 HI7 HK7 HQ7 ⊢
      rw [hb7] at hx7 HNB ⊢
      have HX7 := Aside0.mk hx7
      have hm0 := (blk_cell hx7 0).trans rfl
      have hm1 := (blk_cell hx7 1).trans rfl
      clear HB7 hw7 hb7 hc0 hc1 hc2 hx7
      have hc0 := (blk_cell HI7.out.r.ho 0).trans rfl
      have HMW := Aside0.mk (fun j hj => HM.out w7 HK7.out.1 j hj)
      go_upto_region 4 with ((with_reducible refine gate_builtin (b := .append) (xs := #[.tmp 25, .tmp 27]) rfl ?_); at_builtin; refine Kd.R_append k61 (w0 := w0) w0.heap.size rfl (.tmp 25) (.tmp 27) 57 61 (.agg #[.int .i64 0, .int .i64 0]) 16 rfl Try.underlying57 info61b rfl (by decide) (by decide) (.slice A1 F1.out.length c1) F1.out ⟨F1.front, 100⟩ [.int .i64 F1.front, .int .i64 100] (fun j => M j ∧ j ≠ q) (fun _ => False) rfl rfl (k61_mkM _ _ _ _) (fun _ hk => hk.elim) HMW.out HI7.out.r.row HI7.out.r.hb HI7.out.r.hb.size (by have := HO6.out; omega) ?_; intro v1 w8 ho hb hg hat; obtain ⟨A8, c8, hv8⟩ := Kd.R_slice ho; subst hv8; obtain ⟨L8, hL8⟩ : ∃ L, (F1.out ++ [(⟨F1.front, 100⟩ : S61)]).length = L := ⟨_, rfl⟩; rw [hL8] at ho hat ⊢; have HL8 := Aside0.mk hL8; have HO8 := Aside0.mk ho; have HG8 := Aside0.mk hg; have HB8 := Aside0.mk hb; have HAT8 := Aside0.mk hat; have hyo := (blk_cell (HI7.out.r.slotO hg) 0).trans rfl; have hzo := blk_frozen (HI7.out.r.slotO hg) 0; clear ho hb hg hat hL8)
      have HI9 := Aside0.mk (HI7.out.out HG8.out HB8.out HO8.out HAT8.out)
      have HK9 := Aside0.mk (Kept.setCell (p := ⟨o, 0, none⟩) (Kept.of_grown HG8.out HK7.out (fun j hj => .inl (HI7.out.r.row.1 j hj))) (.inl HI7.out.r.mo.1) (.slice A8 L8 c8))
      have HQ9 := Aside0.mk ((Below.heap_setCell w8 ⟨o, 0, none⟩ (.slice A8 L8 c8) q (fun e1 => HI7.out.r.mo.1.2 e1.symm)).trans ((HG8.out.block q (blk_ltn HQ7.out) (own_ne HI7.out.r.row HQ7.out (by decide))).trans HQ7.out))
      have HX9 := Aside0.mk ((Below.heap_setCell w8 ⟨o, 0, none⟩ (.slice A8 L8 c8) b7 (fun e1 => HNB.out.2.2.1 e1)).trans ((HG8.out.block b7 (blk_ltn HX7.out) HNB.out.1).trans HX7.out))
      obtain ⟨w9, hw9⟩ : ∃ W, w8.setCell ⟨o, 0, none⟩ (.slice A8 L8 c8) = W := ⟨_, rfl⟩
      rw [hw9] at HI9 HK9 HQ9 HX9 ⊢
      clear hw9 hyo hzo hm0 hm1 hc0
      have hm0 := (blk_cell HX9.out 0).trans rfl
      have hm1 := (blk_cell HX9.out 1).trans rfl
      have hy1 := (blk_cell HI9.out.g.hn 1).trans rfl
      have HMW9 := Aside0.mk (fun j hj => HM.out w9 HK9.out.1 j hj)
      go_upto_region 5 with ((with_reducible refine gate_builtin (b := .append) (xs := #[.tmp 30, .tmp 32]) rfl ?_); at_builtin; refine Kd.R_append k61 (w0 := w0) w0.heap.size rfl (.tmp 30) (.tmp 32) 57 61 (.agg #[.int .i64 0, .int .i64 0]) 16 rfl Try.underlying57 info61b rfl (by decide) (by decide) (.slice A2 N1.wants.length c2) N1.wants ⟨F1.front, 100⟩ [.int .i64 F1.front, .int .i64 100] (fun j => M j ∧ j ≠ q) (fun _ => False) rfl rfl (k61_mkM _ _ _ _) (fun _ hk => hk.elim) HMW9.out HI9.out.g.hw HI9.out.r.hb HI9.out.r.hb.size (by have := HL.out; omega) ?_; intro v1 w10 ho hb hg hat; obtain ⟨A10, c10, hv10⟩ := Kd.R_slice ho; subst hv10; obtain ⟨L10, hL10⟩ : ∃ L, (N1.wants ++ [(⟨F1.front, 100⟩ : S61)]).length = L := ⟨_, rfl⟩; rw [hL10] at ho hat ⊢; have HL10 := Aside0.mk hL10; have HO10 := Aside0.mk ho; have HG10 := Aside0.mk hg; have HB10 := Aside0.mk hb; have HAT10 := Aside0.mk hat; have hyn := (blk_cell (HI9.out.g.slotW hg) 1).trans rfl; have hzn := blk_frozen (HI9.out.g.slotW hg) 1; clear ho hb hg hat hL10)
      have HI11 := Aside0.mk (HI9.out.wants HG10.out HB10.out HO10.out HAT10.out)
      have HK11 := Aside0.mk (Kept.setCell (p := ⟨n, 1, none⟩) (Kept.of_grown HG10.out HK9.out (fun j hj => .inl (HI9.out.g.hw.1 j hj))) (.inl HI9.out.g.mn) (.slice A10 L10 c10))
      have HQ11 := Aside0.mk ((Below.heap_setCell w10 ⟨n, 1, none⟩ (.slice A10 L10 c10) q (fun e1 => HI9.out.g.mn.2 e1.symm)).trans ((HG10.out.block q (blk_ltn HQ9.out) (own_ne HI9.out.g.hw HQ9.out (by decide))).trans HQ9.out))
      obtain ⟨w11, hw11⟩ : ∃ W, w10.setCell ⟨n, 1, none⟩ (.slice A10 L10 c10) = W := ⟨_, rfl⟩
      rw [hw11] at HI11 HK11 HQ11 ⊢
      clear hw11 hyn hzn hm0 hm1 hy1
      have hyf := (blk_cell HI11.out.r.hf 0).trans rfl
      have hzf := blk_frozen HI11.out.r.hf 0
      have hwk := HWK.out
      go_wp2
      go_roundg gk
      case measure => omega
      case rel => exact ⟨{ F1 with out := F1.out ++ [⟨F1.front, 100⟩], front := F1.front + 100 }, { N1 with wants := N1.wants ++ [⟨F1.front, 100⟩] }, A8, c8, A10, c10, ⟨by rw [HL8.out, HL10.out]; exact HI11.out.front (F1.front + 100)⟩, ⟨Kept.setCell (p := ⟨f, 0, none⟩) HK11.out (.inl HI11.out.r.mo.2.1) _⟩, ⟨(Below.heap_setCell _ ⟨f, 0, none⟩ _ q (fun e1 => HI11.out.r.mo.2.1.2 e1.symm)).trans HQ11.out⟩, HE2, ⟨by have := HG.out; show 6 ≤ (F1.out ++ [_]).length + gk; rw [List.length_append, List.length_singleton]; omega⟩, HPV, ⟨by have := HL.out; show (N1.wants ++ [_]).length + gk ≤ 1006; rw [List.length_append, List.length_singleton]; omega⟩⟩
end Go.Proofs.Ytkghoodhgihokaa.Fetch
