/- Messages: packthreadref.askFault. -/
import Derived.Test.YtkghoodhgihokaaXMsgG
import Derived.Lib.Strings
import Derived.Lib.Walk
namespace Go.Proofs.Ytkghoodhgihokaa.Msg
open Go.RowKit Go.Lib Go.Proofs.YtkghoodhgihokaaW.PrintWords Go.Proofs.YtkghoodhgihokaaW.PrintLast Go.Proofs.YtkghoodhgihokaaW.PrintMore
set_option linter.unusedVariables false
set_option linter.unusedSimpArgs false
set_option maxHeartbeats 8000000 in
set_option maxRecDepth 100000 in
theorem fault_nac (q : Rq) (w : World) (hdl : q.data.length ≤ 140737488351232) (hk : q.kind = 3) : Calls Try.prog 46 #[.agg q.cells] w fun e w' => e = .returned (.int .i64 (faultF q)) ∧ Below w.heap.size w w' := by
  have hk1 : 1 ≤ q.kind ∧ q.kind ≤ 10 := by omega
  have k1 : decide (q.kind < 1) = false := decide_eq_false (by omega)
  have k2 : decide (10 < q.kind) = false := decide_eq_false (by omega)
  have HNp := Aside0.mk (show nm q.kind 112 = false by rw [hk]; rfl)
  have HHp := Aside0.mk (show packthreadref_has.f 20 (⟨#[110, 97, 99]⟩ : ByteArray) 112 = some false by kernel_rfl)
  have HNt := Aside0.mk (show nm q.kind 116 = false by rw [hk]; rfl)
  have HHt := Aside0.mk (show packthreadref_has.f 20 (⟨#[110, 97, 99]⟩ : ByteArray) 116 = some false by kernel_rfl)
  have HNh := Aside0.mk (show nm q.kind 104 = false by rw [hk]; rfl)
  have HHh := Aside0.mk (show packthreadref_has.f 20 (⟨#[110, 97, 99]⟩ : ByteArray) 104 = some false by kernel_rfl)
  have HNn := Aside0.mk (show nm q.kind 110 = true by rw [hk]; rfl)
  have HHn := Aside0.mk (show packthreadref_has.f 20 (⟨#[110, 97, 99]⟩ : ByteArray) 110 = some true by kernel_rfl)
  have HNa := Aside0.mk (show nm q.kind 97 = true by rw [hk]; rfl)
  have HHa := Aside0.mk (show packthreadref_has.f 20 (⟨#[110, 97, 99]⟩ : ByteArray) 97 = some true by kernel_rfl)
  have HNc := Aside0.mk (show nm q.kind 99 = true by rw [hk]; rfl)
  have HHc := Aside0.mk (show packthreadref_has.f 20 (⟨#[110, 97, 99]⟩ : ByteArray) 99 = some true by kernel_rfl)
  have HNd := Aside0.mk (show nm q.kind 100 = false by rw [hk]; rfl)
  have HHd := Aside0.mk (show packthreadref_has.f 20 (⟨#[110, 97, 99]⟩ : ByteArray) 100 = some false by kernel_rfl)
  have HNM := Aside0.mk (show packthreadref_msgNames.f q.kind = some (⟨#[110, 97, 99]⟩ : ByteArray) by rw [hk]; kernel_rfl)
  have HF1 := Aside0.mk (show faultF q = if formB q = true then 4 else if rangeB q = true then 2 else if sizeB q = true then 1 else 0 by unfold faultF; rw [if_neg (not_not_intro hk1)])
  clear hk hk1
  obtain ⟨s, hs⟩ : ∃ s : ByteArray, (⟨#[110, 97, 99]⟩ : ByteArray) = s := ⟨_, rfl⟩
  rw [hs] at HNM HHp HHt HHh HHn HHa HHc HHd
  clear hs
  have hq0 := heap_alloc_new w (.cells q.cells 29)
  have HB := Aside0.mk ((Below.refl _ w).alloc (Nat.le_refl _) (.cells q.cells 29))
  obtain ⟨W1, hW1⟩ : ∃ W, w.alloc (.cells q.cells 29) = W := ⟨_, rfl⟩
  obtain ⟨b1, hb1⟩ : ∃ b, w.heap.size = b := ⟨_, rfl⟩
  have hW1' : w.alloc (.cells #[.int .i64 q.kind, .int .i64 q.mark, .string q.path, .string q.to_, .int .i64 q.how, .int .i64 q.handle, .int .i64 q.at_, .int .i64 q.count, .slice q.dA q.data.length q.dc] 29) = W1 := hW1
  rw [hW1] at hq0 HB
  rw [hb1] at hq0
  have HQ := Aside0.mk hq0
  have hz0 : W1.cell? ⟨b1, 0, none⟩ = some (.int .i64 q.kind) := (blk_cell hq0 0).trans rfl
  clear hq0 hW1
  obtain ⟨RES, hRES⟩ : ∃ r, faultF q = r := ⟨_, rfl⟩
  rw [hRES]
  rw [hRES] at HF1
  clear hRES
  show Calls Try.prog 46 #[.agg #[.int .i64 q.kind, .int .i64 q.mark, .string q.path, .string q.to_, .int .i64 q.how, .int .i64 q.handle, .int .i64 q.at_, .int .i64 q.count, .slice q.dA q.data.length q.dc]] w _
  go_enter Try.func46, Try.ntmps46
  go_upto_region 4 with (first | (go_at_call 48; (with_reducible refine (packthreadref_msgNames.calls q.kind s _ HNM.out).mono ?_); rintro e w2 ⟨rfl, hb2⟩; have HB2 := Aside0.mk (HB.out.trans (hb2.mono HB.out.size)); have HQ2 := Aside0.mk ((hb2.block _ (blk_ltn HQ.out)).trans HQ.out); clear hb2))
  obtain ⟨hy0, hy1, hy2, hy3, hy4, hy5, hy6, hy7, hy8⟩ := nine_cells HQ2.out
  clear hz0 k1 k2
  dsimp only [List.append]
  by_cases cp : q.path.toList = []
  case neg =>
    have fp : q.path.toList.isEmpty = false := by cases h : q.path.toList with | nil => exact absurd h cp | cons _ _ => rfl
    have hR : (4 : Int) = RES := by rw [HF1.out]; simp [formB, rangeB, sizeB, HNp.out, HNt.out, HNh.out, HNn.out, HNa.out, HNc.out, HNd.out, fp]
    clear HF1
    subst hR
    go_wp2_with (first | (go_at_call 79; (try (refine gate_guard (by rfl) ?_; dsimp only)); (first | (with_reducible refine (packthreadref_has.calls 20 s 112 _ _ HHp.out).mono ?_) | (with_reducible refine (packthreadref_has.calls 20 s 116 _ _ HHt.out).mono ?_) | (with_reducible refine (packthreadref_has.calls 20 s 104 _ _ HHh.out).mono ?_) | (with_reducible refine (packthreadref_has.calls 20 s 110 _ _ HHn.out).mono ?_) | (with_reducible refine (packthreadref_has.calls 20 s 97 _ _ HHa.out).mono ?_) | (with_reducible refine (packthreadref_has.calls 20 s 99 _ _ HHc.out).mono ?_) | (with_reducible refine (packthreadref_has.calls 20 s 100 _ _ HHd.out).mono ?_)); rintro e w_ ⟨rfl, hd_⟩; have hb_ := Drawn0.below hd_; have HB2 := Aside0.mk (HB2.out.trans (hb_.mono HB2.out.size)); have HQ2 := Aside0.mk ((hb_.block _ (blk_ltn HQ2.out)).trans HQ2.out); clear hb_ hd_ hy0 hy1 hy2 hy3 hy4 hy5 hy6 hy7 hy8; obtain ⟨hy0, hy1, hy2, hy3, hy4, hy5, hy6, hy7, hy8⟩ := nine_cells HQ2.out))
    go_ret
    exact ⟨rfl, HB2.out⟩
  have fp : q.path.toList.isEmpty = true := by rw [cp]; rfl
  by_cases ct : q.to_.toList = []
  case neg =>
    have ft : q.to_.toList.isEmpty = false := by cases h : q.to_.toList with | nil => exact absurd h ct | cons _ _ => rfl
    have hR : (4 : Int) = RES := by rw [HF1.out]; simp [formB, rangeB, sizeB, HNp.out, HNt.out, HNh.out, HNn.out, HNa.out, HNc.out, HNd.out, fp, ft]
    clear HF1
    subst hR
    go_wp2_with (first | (go_at_call 79; (try (refine gate_guard (by rfl) ?_; dsimp only)); (first | (with_reducible refine (packthreadref_has.calls 20 s 112 _ _ HHp.out).mono ?_) | (with_reducible refine (packthreadref_has.calls 20 s 116 _ _ HHt.out).mono ?_) | (with_reducible refine (packthreadref_has.calls 20 s 104 _ _ HHh.out).mono ?_) | (with_reducible refine (packthreadref_has.calls 20 s 110 _ _ HHn.out).mono ?_) | (with_reducible refine (packthreadref_has.calls 20 s 97 _ _ HHa.out).mono ?_) | (with_reducible refine (packthreadref_has.calls 20 s 99 _ _ HHc.out).mono ?_) | (with_reducible refine (packthreadref_has.calls 20 s 100 _ _ HHd.out).mono ?_)); rintro e w_ ⟨rfl, hd_⟩; have hb_ := Drawn0.below hd_; have HB2 := Aside0.mk (HB2.out.trans (hb_.mono HB2.out.size)); have HQ2 := Aside0.mk ((hb_.block _ (blk_ltn HQ2.out)).trans HQ2.out); clear hb_ hd_ hy0 hy1 hy2 hy3 hy4 hy5 hy6 hy7 hy8; obtain ⟨hy0, hy1, hy2, hy3, hy4, hy5, hy6, hy7, hy8⟩ := nine_cells HQ2.out))
    go_ret
    exact ⟨rfl, HB2.out⟩
  have ft : q.to_.toList.isEmpty = true := by rw [ct]; rfl
  by_cases ch : q.how = 0
  case neg =>
    have fh : (q.how != 0) = true := bne_iff_ne.2 ch
    have fhe : (q.how == 0) = false := beq_eq_false_iff_ne.2 ch
    have hR : (4 : Int) = RES := by rw [HF1.out]; simp [formB, rangeB, sizeB, HNp.out, HNt.out, HNh.out, HNn.out, HNa.out, HNc.out, HNd.out, fp, ft, fh, fhe]
    clear HF1
    subst hR
    go_wp2_with (first | (go_at_call 79; (try (refine gate_guard (by rfl) ?_; dsimp only)); (first | (with_reducible refine (packthreadref_has.calls 20 s 112 _ _ HHp.out).mono ?_) | (with_reducible refine (packthreadref_has.calls 20 s 116 _ _ HHt.out).mono ?_) | (with_reducible refine (packthreadref_has.calls 20 s 104 _ _ HHh.out).mono ?_) | (with_reducible refine (packthreadref_has.calls 20 s 110 _ _ HHn.out).mono ?_) | (with_reducible refine (packthreadref_has.calls 20 s 97 _ _ HHa.out).mono ?_) | (with_reducible refine (packthreadref_has.calls 20 s 99 _ _ HHc.out).mono ?_) | (with_reducible refine (packthreadref_has.calls 20 s 100 _ _ HHd.out).mono ?_)); rintro e w_ ⟨rfl, hd_⟩; have hb_ := Drawn0.below hd_; have HB2 := Aside0.mk (HB2.out.trans (hb_.mono HB2.out.size)); have HQ2 := Aside0.mk ((hb_.block _ (blk_ltn HQ2.out)).trans HQ2.out); clear hb_ hd_ hy0 hy1 hy2 hy3 hy4 hy5 hy6 hy7 hy8; obtain ⟨hy0, hy1, hy2, hy3, hy4, hy5, hy6, hy7, hy8⟩ := nine_cells HQ2.out))
    go_ret
    exact ⟨rfl, HB2.out⟩
  have fh : (q.how != 0) = false := by rw [ch]; rfl
  have fhe : (q.how == 0) = true := by rw [ch]; rfl
  have HCh := Aside0.mk ch
  clear ch
  by_cases cd : q.data.length = 0
  case neg =>
    have fd : ((q.data.length : Int) != 0) = true := bne_iff_ne.2 (by omega)
    have fde : (q.data.length != 0) = true := bne_iff_ne.2 cd
    have fdg : (q.data.length == 0) = false := beq_eq_false_iff_ne.2 cd
    have hR : (4 : Int) = RES := by rw [HF1.out]; simp [formB, rangeB, sizeB, HNp.out, HNt.out, HNh.out, HNn.out, HNa.out, HNc.out, HNd.out, fp, ft, fh, fhe, fd, fde, fdg]
    clear HF1
    subst hR
    go_wp2_with (first | (go_at_call 79; (try (refine gate_guard (by rfl) ?_; dsimp only)); (first | (with_reducible refine (packthreadref_has.calls 20 s 112 _ _ HHp.out).mono ?_) | (with_reducible refine (packthreadref_has.calls 20 s 116 _ _ HHt.out).mono ?_) | (with_reducible refine (packthreadref_has.calls 20 s 104 _ _ HHh.out).mono ?_) | (with_reducible refine (packthreadref_has.calls 20 s 110 _ _ HHn.out).mono ?_) | (with_reducible refine (packthreadref_has.calls 20 s 97 _ _ HHa.out).mono ?_) | (with_reducible refine (packthreadref_has.calls 20 s 99 _ _ HHc.out).mono ?_) | (with_reducible refine (packthreadref_has.calls 20 s 100 _ _ HHd.out).mono ?_)); rintro e w_ ⟨rfl, hd_⟩; have hb_ := Drawn0.below hd_; have HB2 := Aside0.mk (HB2.out.trans (hb_.mono HB2.out.size)); have HQ2 := Aside0.mk ((hb_.block _ (blk_ltn HQ2.out)).trans HQ2.out); clear hb_ hd_ hy0 hy1 hy2 hy3 hy4 hy5 hy6 hy7 hy8; obtain ⟨hy0, hy1, hy2, hy3, hy4, hy5, hy6, hy7, hy8⟩ := nine_cells HQ2.out))
    go_ret
    exact ⟨rfl, HB2.out⟩
  have fd : ((q.data.length : Int) != 0) = false := by rw [cd]; rfl
  have fde : (q.data.length != 0) = false := by rw [cd]; rfl
  have fdg : (q.data.length == 0) = true := by rw [cd]; rfl
  have HCd := Aside0.mk cd
  clear cd
  have HF2 := Aside0.mk (show RES = if rangeB q = true then 2 else if sizeB q = true then 1 else 0 by rw [HF1.out, if_neg (by simp [formB, HNp.out, HNt.out, HNh.out, HNn.out, HNa.out, HNc.out, HNd.out, fp, ft, fh, fhe, fd, fde, fdg])])
  clear HF1
  have HF1 := HF2
  clear HF2
  go_upto_region 7 with (first | (go_at_call 79; (try (refine gate_guard (by rfl) ?_; dsimp only)); (first | (with_reducible refine (packthreadref_has.calls 20 s 112 _ _ HHp.out).mono ?_) | (with_reducible refine (packthreadref_has.calls 20 s 116 _ _ HHt.out).mono ?_) | (with_reducible refine (packthreadref_has.calls 20 s 104 _ _ HHh.out).mono ?_) | (with_reducible refine (packthreadref_has.calls 20 s 110 _ _ HHn.out).mono ?_) | (with_reducible refine (packthreadref_has.calls 20 s 97 _ _ HHa.out).mono ?_) | (with_reducible refine (packthreadref_has.calls 20 s 99 _ _ HHc.out).mono ?_) | (with_reducible refine (packthreadref_has.calls 20 s 100 _ _ HHd.out).mono ?_)); rintro e w_ ⟨rfl, hd_⟩; have hb_ := Drawn0.below hd_; have HB2 := Aside0.mk (HB2.out.trans (hb_.mono HB2.out.size)); have HQ2 := Aside0.mk ((hb_.block _ (blk_ltn HQ2.out)).trans HQ2.out); clear hb_ hd_ hy0 hy1 hy2 hy3 hy4 hy5 hy6 hy7 hy8; obtain ⟨hy0, hy1, hy2, hy3, hy4, hy5, hy6, hy7, hy8⟩ := nine_cells HQ2.out))
  try dsimp only [List.append]
  by_cases rm : four q.mark = false
  case pos =>
    have hR : (2 : Int) = RES := by rw [HF1.out]; simp [formB, rangeB, sizeB, rm]
    clear HF1
    subst hR
    go_wp2_with (first | (go_at_call 80; (try (refine gate_guard (by rfl) ?_; dsimp only)); (first | (with_reducible refine (four_calls q.mark _).mono ?_) | (with_reducible refine (four_calls q.handle _).mono ?_) | (with_reducible refine (four_calls q.at_ _).mono ?_)); rintro e w_ ⟨rfl, rfl⟩; (first | rw [rm] | rw [rn] | rw [ra])))
    go_ret
    exact ⟨rfl, HB2.out⟩
  have rm : four q.mark = true := by cases h : four q.mark with | true => rfl | false => exact absurd h rm
  by_cases rn : four q.handle = false
  case pos =>
    have hR : (2 : Int) = RES := by rw [HF1.out]; simp [formB, rangeB, sizeB, rm, rn]
    clear HF1
    subst hR
    go_wp2_with (first | (go_at_call 80; (try (refine gate_guard (by rfl) ?_; dsimp only)); (first | (with_reducible refine (four_calls q.mark _).mono ?_) | (with_reducible refine (four_calls q.handle _).mono ?_) | (with_reducible refine (four_calls q.at_ _).mono ?_)); rintro e w_ ⟨rfl, rfl⟩; (first | rw [rm] | rw [rn] | rw [ra])))
    go_ret
    exact ⟨rfl, HB2.out⟩
  have rn : four q.handle = true := by cases h : four q.handle with | true => rfl | false => exact absurd h rn
  by_cases ra : four q.at_ = false
  case pos =>
    have hR : (2 : Int) = RES := by rw [HF1.out]; simp [formB, rangeB, sizeB, rm, rn, ra]
    clear HF1
    subst hR
    go_wp2_with (first | (go_at_call 80; (try (refine gate_guard (by rfl) ?_; dsimp only)); (first | (with_reducible refine (four_calls q.mark _).mono ?_) | (with_reducible refine (four_calls q.handle _).mono ?_) | (with_reducible refine (four_calls q.at_ _).mono ?_)); rintro e w_ ⟨rfl, rfl⟩; (first | rw [rm] | rw [rn] | rw [ra])))
    go_ret
    exact ⟨rfl, HB2.out⟩
  have ra : four q.at_ = true := by cases h : four q.at_ with | true => rfl | false => exact absurd h ra
  have rh0 : decide (q.how < 0) = false := by rw [HCh.out]; rfl
  have rh1 : decide (255 < q.how) = false := by rw [HCh.out]; rfl
  by_cases rc0 : q.count < 0
  case pos =>
    have rc0 : decide (q.count < 0) = true := decide_eq_true rc0
    have hR : (2 : Int) = RES := by rw [HF1.out]; simp [formB, rangeB, sizeB, rm, rn, ra, rh0, rh1, rc0]
    clear HF1
    subst hR
    go_wp2_with (first | (go_at_call 80; (try (refine gate_guard (by rfl) ?_; dsimp only)); (first | (with_reducible refine (four_calls q.mark _).mono ?_) | (with_reducible refine (four_calls q.handle _).mono ?_) | (with_reducible refine (four_calls q.at_ _).mono ?_)); rintro e w_ ⟨rfl, rfl⟩; (first | rw [rm] | rw [rn] | rw [ra])))
    go_ret
    exact ⟨rfl, HB2.out⟩
  have rc0 : decide (q.count < 0) = false := decide_eq_false rc0
  by_cases rc1 : 65535 < q.count
  case pos =>
    have rc1 : decide (65535 < q.count) = true := decide_eq_true rc1
    have hR : (2 : Int) = RES := by rw [HF1.out]; simp [formB, rangeB, sizeB, rm, rn, ra, rh0, rh1, rc0, rc1]
    clear HF1
    subst hR
    go_wp2_with (first | (go_at_call 80; (try (refine gate_guard (by rfl) ?_; dsimp only)); (first | (with_reducible refine (four_calls q.mark _).mono ?_) | (with_reducible refine (four_calls q.handle _).mono ?_) | (with_reducible refine (four_calls q.at_ _).mono ?_)); rintro e w_ ⟨rfl, rfl⟩; (first | rw [rm] | rw [rn] | rw [ra])))
    go_ret
    exact ⟨rfl, HB2.out⟩
  have rc1 : decide (65535 < q.count) = false := decide_eq_false rc1
  have HF2 := Aside0.mk (show RES = if sizeB q = true then 1 else 0 by rw [HF1.out, if_neg (by simp [rangeB, rm, rn, ra, rh0, rh1, rc0, rc1])])
  clear HF1
  have HF1 := HF2
  clear HF2
  go_upto_region 9 with (first | (go_at_call 80; (try (refine gate_guard (by rfl) ?_; dsimp only)); (first | (with_reducible refine (four_calls q.mark _).mono ?_) | (with_reducible refine (four_calls q.handle _).mono ?_) | (with_reducible refine (four_calls q.at_ _).mono ?_)); rintro e w_ ⟨rfl, rfl⟩; (first | rw [rm] | rw [rn] | rw [ra])))
  have zp : q.path.size = 0 := by have := Lib.size_eq q.path; rw [← Lib.toList_data, cp] at this; simpa using this
  have zpi : decide ((200 : Int) < (q.path.size : Int)) = false := decide_eq_false (by omega)
  have zpn : decide (200 < q.path.size) = false := decide_eq_false (by omega)
  clear zp
  have zt : q.to_.size = 0 := by have := Lib.size_eq q.to_; rw [← Lib.toList_data, ct] at this; simpa using this
  have zti : decide ((200 : Int) < (q.to_.size : Int)) = false := decide_eq_false (by omega)
  have ztn : decide (200 < q.to_.size) = false := decide_eq_false (by omega)
  clear zt
  have zd : q.data.length = 0 := HCd.out
  have zdi : decide ((100 : Int) < (q.data.length : Int)) = false := decide_eq_false (by omega)
  have zdn : decide (100 < q.data.length) = false := decide_eq_false (by omega)
  clear zd
  have hR : (0 : Int) = RES := by rw [HF1.out]; simp [formB, rangeB, sizeB, zpn, ztn, zdn]
  clear HF1
  subst hR
  go_wp2
  go_ret
  exact ⟨rfl, HB2.out⟩
end Go.Proofs.Ytkghoodhgihokaa.Msg
