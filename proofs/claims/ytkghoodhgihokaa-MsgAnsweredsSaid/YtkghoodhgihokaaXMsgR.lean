/- XMsgQ, XMsgR. -/
import Derived.Test.YtkghoodhgihokaaXMsgP
import Derived.Test.YtkghoodhgihokaaXMsgF
namespace Go.Proofs.Ytkghoodhgihokaa.Msg
open Go.RowKit Go.Lib Go.Proofs.YtkghoodhgihokaaW.PrintWords Go.Proofs.YtkghoodhgihokaaW.PrintLast Go.Proofs.YtkghoodhgihokaaW.PrintMore
set_option linter.unusedVariables false
set_option linter.unusedSimpArgs false
theorem get_calls (p : Pv) (hw : p.wok) (g o : Nat) (hp : p.addr = ⟨g, o, none⟩) (cells : Array Value) (ty : TypeId) (A : Option Addr) (c : Nat) (l : List Int) (w0 w : World) (hB0 : Below w0.heap.size w0 w) (hr : Kd.C (Kd.int .u8) w0 A l.length l) (hc : l.length ≤ c) (hb : ∀ x ∈ l, 0 ≤ x ∧ x ≤ 255) (hl : l.length ≤ 140737488351232) (hg : w.heap[g]? = some (.cells cells ty (0, 0))) (ho : o < cells.size) :
    Calls Try.prog 57 #[p.val, .slice A l.length c] w fun e w' => GPost w0 w ⟨g, o, none⟩ (getG p l) e w' := by
  cases p with
  | num wd a n =>
    have ha : a = ⟨g, o, none⟩ := hp
    subst ha
    exact get_num wd hw n w0 g o cells ty A c l w hB0 hr hc hb hl hg ho
  | text a s =>
    have ha : a = ⟨g, o, none⟩ := hp
    subst ha
    exact get_text s w0 g o cells ty A c l w hB0 hr hc hb hl hg ho
  | data a A0 l0 c0 =>
    have ha : a = ⟨g, o, none⟩ := hp
    subst ha
    exact get_data A0 l0 c0 w0 g o cells ty A c l w hB0 hr hc hb hl hg ho
/-- What is read is of the part's kind. -/
def GV.of (p : Pv) (x : GV) : Prop := match p with | .num _ _ _ => ∃ n, x = .num n | .text _ _ => ∃ s, x = .text s | .data _ _ _ _ => ∃ l, x = .data l
/-- What parts read of bytes, one behind the other. -/
def takeG {σ : Type} (upd : σ → Pv → GV → σ) : List Pv → σ → List Int → Option (σ × List Int)
  | [], s, l => some (s, l)
  | p :: t, s, l => match getG p l with
    | none => none
    | some (x, r) => takeG upd t (upd s p x) r
@[simp] theorem takeG_nil {σ : Type} (upd : σ → Pv → GV → σ) (s : σ) (l : List Int) : takeG upd [] s l = some (s, l) := rfl
theorem takeG_no {σ : Type} {upd : σ → Pv → GV → σ} {p : Pv} {t : List Pv} {s : σ} {l : List Int} (h : getG p l = none) : takeG upd (p :: t) s l = none := by
  rw [takeG, h]
theorem takeG_yes {σ : Type} {upd : σ → Pv → GV → σ} {p : Pv} {t : List Pv} {s : σ} {l r : List Int} {x : GV} (h : getG p l = some (x, r)) : takeG upd (p :: t) s l = takeG upd t (upd s p x) r := by
  rw [takeG, h]
theorem getG_part {p : Pv} {l r : List Int} {x : GV} (h : getG p l = some (x, r)) : r.length ≤ l.length ∧ ((∀ y ∈ l, 0 ≤ y ∧ y ≤ 255) → ∀ y ∈ r, 0 ≤ y ∧ y ≤ 255) ∧ x.of p := by
  cases p with
  | num wd a n =>
    have h : (if l.length < wd then none else some (GV.num (valN (l.take wd)), l.drop wd)) = some (x, r) := h
    by_cases h1 : l.length < wd
    · rw [if_pos h1] at h; cases h
    · rw [if_neg h1] at h; cases h; exact ⟨by rw [List.length_drop]; omega, fun hb => bytes_drop hb _, ⟨_, rfl⟩⟩
  | text a s =>
    have h : (if l.length < 2 then none else if (l.drop 2).length < valN (l.take 2) then none else some (GV.text (strOfNums ((l.drop 2).take (valN (l.take 2)))), (l.drop 2).drop (valN (l.take 2)))) = some (x, r) := h
    by_cases h1 : l.length < 2
    · rw [if_pos h1] at h; cases h
    rw [if_neg h1] at h
    by_cases h2 : (l.drop 2).length < valN (l.take 2)
    · rw [if_pos h2] at h; cases h
    · rw [if_neg h2] at h; cases h; exact ⟨by rw [List.length_drop, List.length_drop]; omega, fun hb => bytes_drop (bytes_drop hb _) _, ⟨_, rfl⟩⟩
  | data a A0 l0 c0 =>
    have h : (if l.length < 2 then none else if (l.drop 2).length < valN (l.take 2) then none else some (GV.data ((l.drop 2).take (valN (l.take 2))), (l.drop 2).drop (valN (l.take 2)))) = some (x, r) := h
    by_cases h1 : l.length < 2
    · rw [if_pos h1] at h; cases h
    rw [if_neg h1] at h
    by_cases h2 : (l.drop 2).length < valN (l.take 2)
    · rw [if_pos h2] at h; cases h
    · rw [if_neg h2] at h; cases h; exact ⟨by rw [List.length_drop, List.length_drop]; omega, fun hb => bytes_drop (bytes_drop hb _) _, ⟨_, rfl⟩⟩
/-- What take leaves. -/
inductive TPost {σ : Type} (I : σ → World → Prop) (w0 : World) (v : Value) (ps : List Pv) (l : List Int) (out : Option (σ × List Int)) (e : Ending) (w' : World) : Prop
  | no (s : σ) (h : out = none) (he : e = .returned (.tuple #[.slice none 0 0, .bool false])) (hi : I s w') (hb : Below w0.heap.size w0 w')
  | yes (s : σ) (r : List Int) (A : Option Addr) (c : Nat) (h : out = some (s, r)) (he : e = .returned (.tuple #[.slice A r.length c, .bool true])) (hc : r.length ≤ c) (hr : Kd.C (Kd.int .u8) w0 A r.length r) (hrl : r.length ≤ l.length) (hrb : ∀ x ∈ r, 0 ≤ x ∧ x ≤ 255) (hi : I s w') (hb : Below w0.heap.size w0 w') (hv : kpv.R 78 w' w0.heap.size (fun _ => True) v ps)
theorem left_step {σ : Type} {I : σ → World → Prop} {upd : σ → Pv → GV → σ} {ps : List Pv} {w0 : World} {t : σ} {w w' : World} {v : Value} {p : Pv} {x : GV} (hL : Left w ⟨p.addr.block, p.addr.off, none⟩ x w')
    (hI : ∀ s w w', I s w → Below w.heap.size w w' → I s w')
    (hU : ∀ s w p x u, p ∈ ps → x.of p → w0.heap.size ≤ w.heap.size → I s w → x.is w w0.heap.size u → I (upd s p x) (w.setCell p.addr u))
    (hP : p.wok ∧ w0.heap.size ≤ p.addr.block ∧ p.addr = ⟨p.addr.block, p.addr.off, none⟩ ∧ ∀ s w, I s w → ∃ cells ty, w.heap[p.addr.block]? = some (.cells cells ty (0, 0)) ∧ p.addr.off < cells.size ∧ ty ≠ 78)
    (hp : p ∈ ps) (hof : x.of p) (hB : Below w0.heap.size w0 w) (hs : I t w) (hv : kpv.R 78 w w0.heap.size (fun _ => True) v ps) : I (upd t p x) w' ∧ Below w0.heap.size w0 w' ∧ kpv.R 78 w' w0.heap.size (fun _ => True) v ps := by
  obtain ⟨wm, u, hb, hx, rfl⟩ := hL
  obtain ⟨hwk, hge, had, hcl⟩ := hP
  have hBm := hB.trans (hb.mono hB.size)
  have hIm := hI _ _ _ hs hb
  obtain ⟨cells, ty, hg, ho, hne⟩ := hcl t wm hIm
  have hx2 : x.is wm w0.heap.size u := by
    cases x with
    | num n => exact hx
    | text s => exact hx
    | data d => exact Kd.R_lower hx hB.size
  refine ⟨?_, hBm.setCell (p := ⟨p.addr.block, p.addr.off, none⟩) hge u, Kd.R_set (Kd.R_below hv hb) hg (fun q hq => ?_) p.addr.off u⟩
  · have h := hU t wm p x u hp hof hBm.size hIm hx2
    rw [had] at h
    exact h
  · rcases List.mem_cons.1 hq with rfl | hq
    · exact fun e => hne e.symm
    · cases hq
set_option maxHeartbeats 8000000 in
set_option maxRecDepth 100000 in
theorem take_calls {σ : Type} (I : σ → World → Prop) (upd : σ → Pv → GV → σ) (ps : List Pv) (w0 : World) (l : List Int) (A : Option Addr) (c : Nat) (s : σ) (w : World) (v : Value)
    (hI : ∀ s w w', I s w → Below w.heap.size w w' → I s w')
    (hU : ∀ s w p x u, p ∈ ps → x.of p → w0.heap.size ≤ w.heap.size → I s w → x.is w w0.heap.size u → I (upd s p x) (w.setCell p.addr u))
    (hP : ∀ p ∈ ps, p.wok ∧ w0.heap.size ≤ p.addr.block ∧ p.addr = ⟨p.addr.block, p.addr.off, none⟩ ∧ ∀ s w, I s w → ∃ cells ty, w.heap[p.addr.block]? = some (.cells cells ty (0, 0)) ∧ p.addr.off < cells.size ∧ ty ≠ 78)
    (hl4 : ps.length ≤ 1000) (hr : Kd.C (Kd.int .u8) w0 A l.length l) (hc : l.length ≤ c) (hb : ∀ x ∈ l, 0 ≤ x ∧ x ≤ 255) (hl : l.length ≤ 140737488351232) (hB : Below w0.heap.size w0 w) (hs : I s w) (hv : kpv.R 78 w w0.heap.size (fun _ => True) v ps) :
    Calls Try.prog 50 #[.slice A l.length c, v] w fun e w' => TPost I w0 v ps l (takeG upd ps s l) e w' := by
  obtain ⟨Av, cv, hve⟩ := Kd.R_slice hv
  subst hve
  have HV := Aside0.mk hv
  have HI := Aside0.mk hI
  have HU := Aside0.mk hU
  have HP := Aside0.mk hP
  have HR := Aside0.mk hr
  have HC := Aside0.mk hc
  have HBY := Aside0.mk hb
  have HL := Aside0.mk hl
  have HB := Aside0.mk hB
  have HS := Aside0.mk hs
  clear hv hI hU hP hr hc hb hl hB hs
  go_enter Try.func50, Try.ntmps50
  go_wp2
  go_loopg [0, 12] ps.length (fun g s0 s12 wx => ∃ (i : Nat) (A1 : Option Addr) (c1 : Nat) (l1 : List Int) (t : σ), i + g = ps.length ∧ s12 = .int .i64 (i : Int) ∧ s0 = .slice A1 l1.length c1 ∧ Aside0 (l1.length ≤ c1 ∧ l1.length ≤ l.length ∧ (∀ x ∈ l1, 0 ≤ x ∧ x ≤ 255) ∧ Kd.C (Kd.int .u8) w0 A1 l1.length l1) ∧ Aside0 (takeG upd ps s l = takeG upd (ps.drop i) t l1) ∧ Aside0 (I t wx) ∧ Aside0 (Below w0.heap.size w0 wx) ∧ Aside0 (kpv.R 78 wx w0.heap.size (fun _ => True) (.slice Av ps.length cv) ps))
  case atStart => exact ⟨0, A, c, l, s, by omega, rfl, rfl, ⟨HC.out, Nat.le_refl _, HBY.out, HR.out⟩, ⟨rfl⟩, HS, HB, HV⟩
  case round =>
    obtain ⟨i, A1, c1, l1, t, hig, rfl, rfl, HL1, HT, HIt, HBx, HVx⟩ := hrel
    have HIG := Aside0.mk hig
    cases gk with
    | zero =>
      obtain rfl : i = ps.length := by omega
      have d1 : decide (((ps.length : Nat) : Int) < ((ps.length : Nat) : Int)) = false := decide_eq_false (by omega)
      have ht := HT.out
      rw [List.drop_length] at ht
      have HT2 := Aside0.mk (show takeG upd ps s l = some (t, l1) from ht)
      clear ht HT
      go_wp2
      go_ret2
      exact .yes t l1 A1 c1 HT2.out rfl HL1.out.1 HL1.out.2.2.2 HL1.out.2.1 HL1.out.2.2.1 HIt.out HBx.out HVx.out
    | succ g =>
      have hi : i < ps.length := by omega
      have d1 : decide ((i : Int) < (ps.length : Int)) = true := decide_eq_true (by omega)
      have d1n : decide (i < ps.length) = true := decide_eq_true hi
      have i0 : (0 : Int) ≤ (i : Int) := by omega
      have i1 : (i : Int) < (ps.length : Int) := by omega
      obtain ⟨g0, cap, hvf, _, _, _⟩ := Kd.R_form HVx.out (by omega)
      injection hvf with hv1 hv2 hv3
      subst hv1
      subst hv3
      have hrg := kpv_at HVx.out hi
      have hpm := List.getElem_mem hi
      have hdr : ps.drop i = ps[i] :: ps.drop (i + 1) := List.drop_eq_getElem_cons hi
      obtain ⟨p, hpp⟩ : ∃ p, ps[i] = p := ⟨_, rfl⟩
      rw [hpp] at hrg hpm hdr
      clear hpp
      have ht := HT.out
      rw [hdr] at ht
      have HT2 := Aside0.mk ht
      have HPM := Aside0.mk hpm
      obtain ⟨x0, x1, x2, x3, hx⟩ : ∃ x0 x1 x2 x3, p.cells = [x0, x1, x2, x3] ∧ (∃ z, x0 = .int .i64 z) ∧ (∃ y, x1 = .pointer y) ∧ (∃ y, x2 = .pointer y) ∧ (∃ y, x3 = .pointer y) := by
        cases p <;> exact ⟨_, _, _, _, rfl, ⟨_, rfl⟩, ⟨_, rfl⟩, ⟨_, rfl⟩, ⟨_, rfl⟩⟩
      obtain ⟨hx, ⟨z0, rfl⟩, ⟨z1, rfl⟩, ⟨z2, rfl⟩, ⟨z3, rfl⟩⟩ := hx
      have hval : p.val = .agg #[.int .i64 z0, .pointer z1, .pointer z2, .pointer z3] := by unfold Pv.val; rw [hx]
      rw [hx] at hrg
      have HCALL := Aside0.mk fun (W : World) (hB1 : Below w0.heap.size w0 W) (hI1 : I t W) => by
        obtain ⟨hwk, hge, had, hcl⟩ := HP.out p HPM.out
        obtain ⟨cells, ty, hg, ho, hne⟩ := hcl t W hI1
        exact get_calls p hwk p.addr.block p.addr.off had cells ty A1 c1 l1 w0 W hB1 HL1.out.2.2.2 HL1.out.1 HL1.out.2.2.1 (by have := HL1.out.2.1; have := HL.out; omega) hg ho
      rw [hval] at HCALL
      clear hval hx hpm hdr ht HT
      cases hG : getG p l1 with
      | none =>
        rw [hG] at HCALL
        have HNO := Aside0.mk (HT2.out.trans (takeG_no hG))
        clear hG
        go_wp2_with (first | (refine wpList_load_mid rfl 78 (.tmp 14) rfl g0 (i * 4) ?hx78 _ _ hrg Try.underlying78 rfl (by kernel_rfl) ?_) | (go_at_call 57; refine (HCALL.out _ (HBx.out.alloc HBx.out.size _) (HI.out _ _ _ HIt.out ((Below.refl _ _).alloc (Nat.le_refl _) _))).mono ?_; rintro e w3 hpost; have hpost := no_of hpost; obtain ⟨rfl, hb3⟩ := hpost; have HB3 := Aside0.mk ((HBx.out.alloc HBx.out.size _).trans (hb3.mono (HBx.out.alloc HBx.out.size _).size)); have HI3 := Aside0.mk (HI.out _ _ _ (HI.out _ _ _ HIt.out ((Below.refl _ _).alloc (Nat.le_refl _) _)) hb3); clear hb3))
        go_ret2
        exact .no t HNO.out rfl HI3.out HB3.out
      | some xr =>
        obtain ⟨x, r⟩ := xr
        rw [hG] at HCALL
        have HYES := Aside0.mk (HT2.out.trans (takeG_yes hG))
        have HPT := Aside0.mk (getG_part hG)
        clear hG
        go_wp2_with (first | (refine wpList_load_mid rfl 78 (.tmp 14) rfl g0 (i * 4) ?hx78 _ _ hrg Try.underlying78 rfl (by kernel_rfl) ?_) | (go_at_call 57; refine (HCALL.out _ (HBx.out.alloc HBx.out.size _) (HI.out _ _ _ HIt.out ((Below.refl _ _).alloc (Nat.le_refl _) _))).mono ?_; rintro e w3 hpost; obtain ⟨A3, c3, rfl, hc3, hr3, hpost⟩ := yes_of hpost; have HL3 := Aside0.mk (show r.length ≤ c3 ∧ r.length ≤ l.length ∧ (∀ y ∈ r, 0 ≤ y ∧ y ≤ 255) ∧ Kd.C (Kd.int .u8) w0 A3 r.length r from ⟨hc3, Nat.le_trans HPT.out.1 HL1.out.2.1, HPT.out.2.1 HL1.out.2.2.1, hr3⟩); have HQ3 := Aside0.mk (left_step hpost HI.out HU.out (HP.out p HPM.out) HPM.out HPT.out.2.2 (HBx.out.alloc HBx.out.size _) (HI.out _ _ _ HIt.out ((Below.refl _ _).alloc (Nat.le_refl _) _)) (Kd.R_alloc HVx.out _)); clear hpost hr3 hc3))
        go_roundg g
        case measure => omega
        case rel => exact ⟨i + 1, A3, c3, r, _, by have := HIG.out; omega, by rfl, rfl, HL3, HYES, ⟨HQ3.out.1⟩, ⟨HQ3.out.2.1⟩, ⟨HQ3.out.2.2⟩⟩
end Go.Proofs.Ytkghoodhgihokaa.Msg
namespace Go.Proofs.Ytkghoodhgihokaa.Msg
open Go.RowKit Go.Lib Go.Proofs.YtkghoodhgihokaaW.PrintWords Go.Proofs.YtkghoodhgihokaaW.PrintLast Go.Proofs.YtkghoodhgihokaaW.PrintMore
set_option linter.unusedVariables false
set_option linter.unusedSimpArgs false
set_option maxHeartbeats 8000000 in
set_option maxRecDepth 100000 in
theorem parts_none (b : Nat) (q : Rq) (w : World) (hk : w.cell? ⟨b, 0, none⟩ = some (.int .i64 q.kind)) (hn : ¬ (1 ≤ q.kind ∧ q.kind ≤ 10)) : Calls Try.prog 42 #[.pointer (some ⟨b, 0, none⟩)] w fun e w' => e = .returned (.slice none 0 0) ∧ Below w.heap.size w w' := by
  have e1 : (q.kind == 1) = false := beq_eq_false_iff_ne.2 (by omega)
  have e2 : (q.kind == 2) = false := beq_eq_false_iff_ne.2 (by omega)
  have e3 : (q.kind == 3) = false := beq_eq_false_iff_ne.2 (by omega)
  have e4 : (q.kind == 4) = false := beq_eq_false_iff_ne.2 (by omega)
  have e5 : (q.kind == 5) = false := beq_eq_false_iff_ne.2 (by omega)
  have e6 : (q.kind == 6) = false := beq_eq_false_iff_ne.2 (by omega)
  have e7 : (q.kind == 7) = false := beq_eq_false_iff_ne.2 (by omega)
  have e8 : (q.kind == 8) = false := beq_eq_false_iff_ne.2 (by omega)
  have e9 : (q.kind == 9) = false := beq_eq_false_iff_ne.2 (by omega)
  have e10 : (q.kind == 10) = false := beq_eq_false_iff_ne.2 (by omega)
  clear hn
  have HB := Aside0.mk (Below.refl w.heap.size w)
  have HK := Aside0.mk hk
  have HKB := Aside0.mk (World.block_lt_of_cell? w _ hk)
  clear hk
  go_enter Try.func42, Try.ntmps42
  go_upto_region 1 with fail
  refine start_ (n := 12) (S := fun w' => True) (ds := [10, 11]) #[false, false, false, false, false, false, false, false, false, false, false, false] (by kernel_rfl) rfl rfl trivial (fun hHeld => ?_)
  refine with_tabW parts1.tab1 parts1.bits1 (fun HT_ HW_ => ?_)
  have HB := Aside0.mk (below_drew1 HB.out)
  generalize w.drew = wd at HB hHeld ⊢
  refine pure_ (i := 0) (N := some 5) (v := ?_) (a' := ?_) #[true, false, false, false, false, false, false, false, false, false, false, false] rfl rfl (any_of HT_.out (by kernel_rfl)) (fun _ _ _ h => h) (Or.inl ⟨by rfl, ?_⟩) ?_ ?_
  rotate_left
  · intro w'
    go_simp
    with_reducible rfl
  rotate_left
  · simp only [Act.put, List.setIfInBounds_toArray, List.set_cons_zero, List.set_cons_succ, i64_w, i32_w]
    rfl
  refine pure_ (i := 1) (N := some 6) (v := ?_) (a' := ?_) #[true, true, false, false, false, false, false, false, false, false, false, false] rfl rfl (any_of HT_.out (by kernel_rfl)) (fun _ _ _ h => h) (Or.inl ⟨by rfl, ?_⟩) ?_ ?_
  rotate_left
  · intro w'
    go_simp
    with_reducible rfl
  rotate_left
  · simp only [Act.put, List.setIfInBounds_toArray, List.set_cons_zero, List.set_cons_succ, i64_w, i32_w]
    rfl
  refine pure_ (i := 2) (N := some 7) (v := ?_) (a' := ?_) #[true, true, true, false, false, false, false, false, false, false, false, false] rfl rfl (any_of HT_.out (by kernel_rfl)) (fun _ _ _ h => h) (Or.inl ⟨by rfl, ?_⟩) ?_ ?_
  rotate_left
  · intro w'
    go_simp
    with_reducible rfl
  rotate_left
  · simp only [Act.put, List.setIfInBounds_toArray, List.set_cons_zero, List.set_cons_succ, i64_w, i32_w]
    rfl
  refine pure_ (i := 4) (N := some 9) (v := ?_) (a' := ?_) #[true, true, true, false, true, false, false, false, false, false, false, false] rfl rfl (any_of HT_.out (by kernel_rfl)) (fun _ _ _ h => h) (Or.inl ⟨by rfl, ?_⟩) ?_ ?_
  rotate_left
  · intro w'
    go_simp
    with_reducible rfl
  rotate_left
  · simp only [Act.put, List.setIfInBounds_toArray, List.set_cons_zero, List.set_cons_succ, i64_w, i32_w]
    rfl
  refine pure_ (i := 5) (N := some 10) (v := ?_) (a' := ?_) #[true, true, true, false, true, true, false, false, false, false, false, false] rfl rfl (any_of HT_.out (by kernel_rfl)) (fun _ _ _ h => h) (Or.inl ⟨by rfl, ?_⟩) ?_ ?_
  rotate_left
  · intro w'
    go_simp
    with_reducible rfl
  rotate_left
  · simp only [Act.put, List.setIfInBounds_toArray, List.set_cons_zero, List.set_cons_succ, i64_w, i32_w]
    rfl
  refine pure_ (i := 6) (N := some 11) (v := ?_) (a' := ?_) #[true, true, true, false, true, true, true, false, false, false, false, false] rfl rfl (any_of HT_.out (by kernel_rfl)) (fun _ _ _ h => h) (Or.inl ⟨by rfl, ?_⟩) ?_ ?_
  rotate_left
  · intro w'
    go_simp
    with_reducible rfl
  rotate_left
  · simp only [Act.put, List.setIfInBounds_toArray, List.set_cons_zero, List.set_cons_succ, i64_w, i32_w]
    rfl
  refine join_ (σ := Nat × Nat) 2 #[true, true, true, true, true, true, true, true, true, true, false, false] (fun s => [(8, .agg #[.int .i64 4, .pointer (some ⟨b, 5, none⟩), .pointer none, .pointer none]), (12, .agg #[.int .i64 4, .pointer (some ⟨b, 6, none⟩), .pointer none, .pointer none]), (3, .pointer (some ⟨s.1, 0, none⟩)), (4, .pointer (some ⟨s.2, 0, none⟩))]) (fun s w' => w'.heap[s.1]? = some (.cells #[.int .i64 0, .pointer none, .pointer none, .pointer none] 78 (0, 0)) ∧ w'.heap[s.2]? = some (.cells #[.int .i64 0, .pointer none, .pointer none, .pointer none] 78 (0, 0)) ∧ s.1 ≠ s.2 ∧ w.heap.size ≤ s.1 ∧ w.heap.size ≤ s.2 ∧ Below w.heap.size w w') ?_ ?_
  rotate_left
  · intro hCont
    refine three_ (i := 3) (j := 8) (k := 9) (Ni := some 8) (Nj := some 3) (Nk := some 4) #[true, true, true, true, true, true, true, false, false, false, false, false] #[true, true, true, false, true, true, true, false, true, false, false, false] #[true, true, true, false, true, true, true, false, false, true, false, false] rfl rfl rfl rfl rfl rfl (three_of HT_.out (by kernel_rfl)) (by decide) (by decide) (by decide) (fun K hK => ?_) (fun K hK => ?_) (fun K hK => ?_)
    · skip
      refine call_ 75 #[.int .i64 4, .pointer (some ⟨b, 5, none⟩)] (by rfl) rfl ?hr ?_
      (case hr => first | rfl | (go_simp; done) | (go_simp; rfl))
      refine (number_calls 4 b 5 _).mono ?_
      rintro e' w1 ⟨rfl, hb⟩
      refine ⟨_, rfl, ?_⟩
      have HB := Aside0.mk (HB.out.trans (hb.mono HB.out.size))
      clear hb
      refine hK.out _ _ trivial (fun hHeld => ?_)
      clear hK K
      refine norm_ (a' := ?_) ?_ ?_
      rotate_left
      · show Act.put _ (some 8) _ = _
        simp only [Act.put, List.setIfInBounds_toArray, List.set_cons_zero, List.set_cons_succ, i64_w, i32_w]
        rfl
      refine three_ (i := 7) (j := 8) (k := 9) (Ni := some 12) (Nj := some 3) (Nk := some 4) #[true, true, true, true, true, true, true, true, false, false, false, false] #[true, true, true, true, true, true, true, false, true, false, false, false] #[true, true, true, true, true, true, true, false, false, true, false, false] rfl rfl rfl rfl rfl rfl (three_of HT_.out (by kernel_rfl)) (by decide) (by decide) (by decide) (fun K hK => ?_) (fun K hK => ?_) (fun K hK => ?_)
      · skip
        refine call_ 75 #[.int .i64 4, .pointer (some ⟨b, 6, none⟩)] (by rfl) rfl ?hr ?_
        (case hr => first | rfl | (go_simp; done) | (go_simp; rfl))
        refine (number_calls 4 b 6 _).mono ?_
        rintro e' w2 ⟨rfl, hb⟩
        refine ⟨_, rfl, ?_⟩
        have HB := Aside0.mk (HB.out.trans (hb.mono HB.out.size))
        clear hb
        refine hK.out _ _ trivial (fun hHeld => ?_)
        clear hK K
        refine norm_ (a' := ?_) ?_ ?_
        rotate_left
        · show Act.put _ (some 12) _ = _
          simp only [Act.put, List.setIfInBounds_toArray, List.set_cons_zero, List.set_cons_succ, i64_w, i32_w]
          rfl
        refine two_ (i := 8) (j := 9) (Ni := some 3) (Nj := some 4) #[true, true, true, true, true, true, true, true, true, false, false, false] #[true, true, true, true, true, true, true, true, false, true, false, false] rfl rfl rfl rfl (two_of HT_.out (by kernel_rfl)) (by decide) (by decide) (fun K hK => ?_) (fun K hK => ?_)
        · skip
          refine value_ (w1 := ?_) (v := ?_) (by rfl) rfl ?_ ?_
          rotate_left 2
          · go_simp
            constructor
            · rfl
            · rfl
          have hb := (Below.refl w2.heap.size w2).alloc (Nat.le_refl _) (.cells #[.int .i64 0, .pointer none, .pointer none, .pointer none] 78)
          have hn := heap_alloc_new w2 (.cells #[.int .i64 0, .pointer none, .pointer none, .pointer none] 78)
          have hle := HB.out.size
          have HB := Aside0.mk (HB.out.trans (hb.mono HB.out.size))
          obtain ⟨w3, hw_⟩ : ∃ W, w2.alloc (.cells #[.int .i64 0, .pointer none, .pointer none, .pointer none] 78) = W := ⟨_, rfl⟩
          obtain ⟨b8, hb_⟩ : ∃ x, w2.heap.size = x := ⟨_, rfl⟩
          rw [hw_] at HB hn ⊢
          rw [hb_] at hn hle ⊢
          have H8 := Aside0.mk hn
          have HL8 := Aside0.mk hle
          clear hb hn hw_ hb_ hle
          refine hK.out _ _ trivial (fun hHeld => ?_)
          clear hK K
          refine norm_ (a' := ?_) ?_ ?_
          rotate_left
          · show Act.put _ (some 3) _ = _
            simp only [Act.put, List.setIfInBounds_toArray, List.set_cons_zero, List.set_cons_succ, i64_w, i32_w]
            rfl
          refine one_ (i := 9) (N := some 4) #[true, true, true, true, true, true, true, true, true, true, false, false] rfl rfl (one_of HT_.out (by kernel_rfl)) (by decide) (fun K hK => ?_)
          refine value_ (w1 := ?_) (v := ?_) (by rfl) rfl ?_ ?_
          rotate_left 2
          · go_simp
            constructor
            · rfl
            · rfl
          have hb := (Below.refl w3.heap.size w3).alloc (Nat.le_refl _) (.cells #[.int .i64 0, .pointer none, .pointer none, .pointer none] 78)
          have hn := heap_alloc_new w3 (.cells #[.int .i64 0, .pointer none, .pointer none, .pointer none] 78)
          have hlt8 := blk_ltn H8.out
          have H8 := Aside0.mk ((hb.block _ (blk_ltn H8.out)).trans H8.out)
          have hle := HB.out.size
          have HB := Aside0.mk (HB.out.trans (hb.mono HB.out.size))
          obtain ⟨w4, hw_⟩ : ∃ W, w3.alloc (.cells #[.int .i64 0, .pointer none, .pointer none, .pointer none] 78) = W := ⟨_, rfl⟩
          obtain ⟨b9, hb_⟩ : ∃ x, w3.heap.size = x := ⟨_, rfl⟩
          rw [hw_] at HB hn H8 ⊢
          rw [hb_] at hn hle hlt8 ⊢
          have HN := Aside0.mk (show b8 ≠ b9 by omega)
          have H9 := Aside0.mk hn
          have HL9 := Aside0.mk hle
          clear hb hn hw_ hb_ hle hlt8
          refine hK.out _ _ trivial (fun hHeld => ?_)
          clear hK K
          refine norm_ (a' := ?_) ?_ ?_
          rotate_left
          · show Act.put _ (some 4) _ = _
            simp only [Act.put, List.setIfInBounds_toArray, List.set_cons_zero, List.set_cons_succ, i64_w, i32_w]
            rfl
          exact norm_ (by simp only [putAll, Act.put, List.setIfInBounds_toArray, List.set_cons_zero, List.set_cons_succ]) (hCont (b8, b9) _ ⟨H8.out, H9.out, HN.out, HL8.out, HL9.out, HB.out⟩)
        · skip
          refine value_ (w1 := ?_) (v := ?_) (by rfl) rfl ?_ ?_
          rotate_left 2
          · go_simp
            constructor
            · rfl
            · rfl
          have hb := (Below.refl w2.heap.size w2).alloc (Nat.le_refl _) (.cells #[.int .i64 0, .pointer none, .pointer none, .pointer none] 78)
          have hn := heap_alloc_new w2 (.cells #[.int .i64 0, .pointer none, .pointer none, .pointer none] 78)
          have hle := HB.out.size
          have HB := Aside0.mk (HB.out.trans (hb.mono HB.out.size))
          obtain ⟨w3, hw_⟩ : ∃ W, w2.alloc (.cells #[.int .i64 0, .pointer none, .pointer none, .pointer none] 78) = W := ⟨_, rfl⟩
          obtain ⟨b9, hb_⟩ : ∃ x, w2.heap.size = x := ⟨_, rfl⟩
          rw [hw_] at HB hn ⊢
          rw [hb_] at hn hle ⊢
          have H9 := Aside0.mk hn
          have HL9 := Aside0.mk hle
          clear hb hn hw_ hb_ hle
          refine hK.out _ _ trivial (fun hHeld => ?_)
          clear hK K
          refine norm_ (a' := ?_) ?_ ?_
          rotate_left
          · show Act.put _ (some 4) _ = _
            simp only [Act.put, List.setIfInBounds_toArray, List.set_cons_zero, List.set_cons_succ, i64_w, i32_w]
            rfl
          refine one_ (i := 8) (N := some 3) #[true, true, true, true, true, true, true, true, true, true, false, false] rfl rfl (one_of HT_.out (by kernel_rfl)) (by decide) (fun K hK => ?_)
          refine value_ (w1 := ?_) (v := ?_) (by rfl) rfl ?_ ?_
          rotate_left 2
          · go_simp
            constructor
            · rfl
            · rfl
          have hb := (Below.refl w3.heap.size w3).alloc (Nat.le_refl _) (.cells #[.int .i64 0, .pointer none, .pointer none, .pointer none] 78)
          have hn := heap_alloc_new w3 (.cells #[.int .i64 0, .pointer none, .pointer none, .pointer none] 78)
          have hlt9 := blk_ltn H9.out
          have H9 := Aside0.mk ((hb.block _ (blk_ltn H9.out)).trans H9.out)
          have hle := HB.out.size
          have HB := Aside0.mk (HB.out.trans (hb.mono HB.out.size))
          obtain ⟨w4, hw_⟩ : ∃ W, w3.alloc (.cells #[.int .i64 0, .pointer none, .pointer none, .pointer none] 78) = W := ⟨_, rfl⟩
          obtain ⟨b8, hb_⟩ : ∃ x, w3.heap.size = x := ⟨_, rfl⟩
          rw [hw_] at HB hn H9 ⊢
          rw [hb_] at hn hle hlt9 ⊢
          have HN := Aside0.mk (show b8 ≠ b9 by omega)
          have H8 := Aside0.mk hn
          have HL8 := Aside0.mk hle
          clear hb hn hw_ hb_ hle hlt9
          refine hK.out _ _ trivial (fun hHeld => ?_)
          clear hK K
          refine norm_ (a' := ?_) ?_ ?_
          rotate_left
          · show Act.put _ (some 3) _ = _
            simp only [Act.put, List.setIfInBounds_toArray, List.set_cons_zero, List.set_cons_succ, i64_w, i32_w]
            rfl
          exact norm_ (by simp only [putAll, Act.put, List.setIfInBounds_toArray, List.set_cons_zero, List.set_cons_succ]) (hCont (b8, b9) _ ⟨H8.out, H9.out, HN.out, HL8.out, HL9.out, HB.out⟩)
      · skip
        refine value_ (w1 := ?_) (v := ?_) (by rfl) rfl ?_ ?_
        rotate_left 2
        · go_simp
          constructor
          · rfl
          · rfl
        have hb := (Below.refl w1.heap.size w1).alloc (Nat.le_refl _) (.cells #[.int .i64 0, .pointer none, .pointer none, .pointer none] 78)
        have hn := heap_alloc_new w1 (.cells #[.int .i64 0, .pointer none, .pointer none, .pointer none] 78)
        have hle := HB.out.size
        have HB := Aside0.mk (HB.out.trans (hb.mono HB.out.size))
        obtain ⟨w2, hw_⟩ : ∃ W, w1.alloc (.cells #[.int .i64 0, .pointer none, .pointer none, .pointer none] 78) = W := ⟨_, rfl⟩
        obtain ⟨b8, hb_⟩ : ∃ x, w1.heap.size = x := ⟨_, rfl⟩
        rw [hw_] at HB hn ⊢
        rw [hb_] at hn hle ⊢
        have H8 := Aside0.mk hn
        have HL8 := Aside0.mk hle
        clear hb hn hw_ hb_ hle
        refine hK.out _ _ trivial (fun hHeld => ?_)
        clear hK K
        refine norm_ (a' := ?_) ?_ ?_
        rotate_left
        · show Act.put _ (some 3) _ = _
          simp only [Act.put, List.setIfInBounds_toArray, List.set_cons_zero, List.set_cons_succ, i64_w, i32_w]
          rfl
        refine two_ (i := 7) (j := 9) (Ni := some 12) (Nj := some 4) #[true, true, true, true, true, true, true, true, true, false, false, false] #[true, true, true, true, true, true, true, false, true, true, false, false] rfl rfl rfl rfl (two_of HT_.out (by kernel_rfl)) (by decide) (by decide) (fun K hK => ?_) (fun K hK => ?_)
        · skip
          refine call_ 75 #[.int .i64 4, .pointer (some ⟨b, 6, none⟩)] (by rfl) rfl ?hr ?_
          (case hr => first | rfl | (go_simp; done) | (go_simp; rfl))
          refine (number_calls 4 b 6 _).mono ?_
          rintro e' w3 ⟨rfl, hb⟩
          refine ⟨_, rfl, ?_⟩
          have HB := Aside0.mk (HB.out.trans (hb.mono HB.out.size))
          have H8 := Aside0.mk ((hb.block _ (blk_ltn H8.out)).trans H8.out)
          clear hb
          refine hK.out _ _ trivial (fun hHeld => ?_)
          clear hK K
          refine norm_ (a' := ?_) ?_ ?_
          rotate_left
          · show Act.put _ (some 12) _ = _
            simp only [Act.put, List.setIfInBounds_toArray, List.set_cons_zero, List.set_cons_succ, i64_w, i32_w]
            rfl
          refine one_ (i := 9) (N := some 4) #[true, true, true, true, true, true, true, true, true, true, false, false] rfl rfl (one_of HT_.out (by kernel_rfl)) (by decide) (fun K hK => ?_)
          refine value_ (w1 := ?_) (v := ?_) (by rfl) rfl ?_ ?_
          rotate_left 2
          · go_simp
            constructor
            · rfl
            · rfl
          have hb := (Below.refl w3.heap.size w3).alloc (Nat.le_refl _) (.cells #[.int .i64 0, .pointer none, .pointer none, .pointer none] 78)
          have hn := heap_alloc_new w3 (.cells #[.int .i64 0, .pointer none, .pointer none, .pointer none] 78)
          have hlt8 := blk_ltn H8.out
          have H8 := Aside0.mk ((hb.block _ (blk_ltn H8.out)).trans H8.out)
          have hle := HB.out.size
          have HB := Aside0.mk (HB.out.trans (hb.mono HB.out.size))
          obtain ⟨w4, hw_⟩ : ∃ W, w3.alloc (.cells #[.int .i64 0, .pointer none, .pointer none, .pointer none] 78) = W := ⟨_, rfl⟩
          obtain ⟨b9, hb_⟩ : ∃ x, w3.heap.size = x := ⟨_, rfl⟩
          rw [hw_] at HB hn H8 ⊢
          rw [hb_] at hn hle hlt8 ⊢
          have HN := Aside0.mk (show b8 ≠ b9 by omega)
          have H9 := Aside0.mk hn
          have HL9 := Aside0.mk hle
          clear hb hn hw_ hb_ hle hlt8
          refine hK.out _ _ trivial (fun hHeld => ?_)
          clear hK K
          refine norm_ (a' := ?_) ?_ ?_
          rotate_left
          · show Act.put _ (some 4) _ = _
            simp only [Act.put, List.setIfInBounds_toArray, List.set_cons_zero, List.set_cons_succ, i64_w, i32_w]
            rfl
          exact norm_ (by simp only [putAll, Act.put, List.setIfInBounds_toArray, List.set_cons_zero, List.set_cons_succ]) (hCont (b8, b9) _ ⟨H8.out, H9.out, HN.out, HL8.out, HL9.out, HB.out⟩)
        · skip
          refine value_ (w1 := ?_) (v := ?_) (by rfl) rfl ?_ ?_
          rotate_left 2
          · go_simp
            constructor
            · rfl
            · rfl
          have hb := (Below.refl w2.heap.size w2).alloc (Nat.le_refl _) (.cells #[.int .i64 0, .pointer none, .pointer none, .pointer none] 78)
          have hn := heap_alloc_new w2 (.cells #[.int .i64 0, .pointer none, .pointer none, .pointer none] 78)
          have hlt8 := blk_ltn H8.out
          have H8 := Aside0.mk ((hb.block _ (blk_ltn H8.out)).trans H8.out)
          have hle := HB.out.size
          have HB := Aside0.mk (HB.out.trans (hb.mono HB.out.size))
          obtain ⟨w3, hw_⟩ : ∃ W, w2.alloc (.cells #[.int .i64 0, .pointer none, .pointer none, .pointer none] 78) = W := ⟨_, rfl⟩
          obtain ⟨b9, hb_⟩ : ∃ x, w2.heap.size = x := ⟨_, rfl⟩
          rw [hw_] at HB hn H8 ⊢
          rw [hb_] at hn hle hlt8 ⊢
          have HN := Aside0.mk (show b8 ≠ b9 by omega)
          have H9 := Aside0.mk hn
          have HL9 := Aside0.mk hle
          clear hb hn hw_ hb_ hle hlt8
          refine hK.out _ _ trivial (fun hHeld => ?_)
          clear hK K
          refine norm_ (a' := ?_) ?_ ?_
          rotate_left
          · show Act.put _ (some 4) _ = _
            simp only [Act.put, List.setIfInBounds_toArray, List.set_cons_zero, List.set_cons_succ, i64_w, i32_w]
            rfl
          refine one_ (i := 7) (N := some 12) #[true, true, true, true, true, true, true, true, true, true, false, false] rfl rfl (one_of HT_.out (by kernel_rfl)) (by decide) (fun K hK => ?_)
          refine call_ 75 #[.int .i64 4, .pointer (some ⟨b, 6, none⟩)] (by rfl) rfl ?hr ?_
          (case hr => first | rfl | (go_simp; done) | (go_simp; rfl))
          refine (number_calls 4 b 6 _).mono ?_
          rintro e' w4 ⟨rfl, hb⟩
          refine ⟨_, rfl, ?_⟩
          have HB := Aside0.mk (HB.out.trans (hb.mono HB.out.size))
          have H8 := Aside0.mk ((hb.block _ (blk_ltn H8.out)).trans H8.out)
          have H9 := Aside0.mk ((hb.block _ (blk_ltn H9.out)).trans H9.out)
          clear hb
          refine hK.out _ _ trivial (fun hHeld => ?_)
          clear hK K
          refine norm_ (a' := ?_) ?_ ?_
          rotate_left
          · show Act.put _ (some 12) _ = _
            simp only [Act.put, List.setIfInBounds_toArray, List.set_cons_zero, List.set_cons_succ, i64_w, i32_w]
            rfl
          exact norm_ (by simp only [putAll, Act.put, List.setIfInBounds_toArray, List.set_cons_zero, List.set_cons_succ]) (hCont (b8, b9) _ ⟨H8.out, H9.out, HN.out, HL8.out, HL9.out, HB.out⟩)
      · skip
        refine value_ (w1 := ?_) (v := ?_) (by rfl) rfl ?_ ?_
        rotate_left 2
        · go_simp
          constructor
          · rfl
          · rfl
        have hb := (Below.refl w1.heap.size w1).alloc (Nat.le_refl _) (.cells #[.int .i64 0, .pointer none, .pointer none, .pointer none] 78)
        have hn := heap_alloc_new w1 (.cells #[.int .i64 0, .pointer none, .pointer none, .pointer none] 78)
        have hle := HB.out.size
        have HB := Aside0.mk (HB.out.trans (hb.mono HB.out.size))
        obtain ⟨w2, hw_⟩ : ∃ W, w1.alloc (.cells #[.int .i64 0, .pointer none, .pointer none, .pointer none] 78) = W := ⟨_, rfl⟩
        obtain ⟨b9, hb_⟩ : ∃ x, w1.heap.size = x := ⟨_, rfl⟩
        rw [hw_] at HB hn ⊢
        rw [hb_] at hn hle ⊢
        have H9 := Aside0.mk hn
        have HL9 := Aside0.mk hle
        clear hb hn hw_ hb_ hle
        refine hK.out _ _ trivial (fun hHeld => ?_)
        clear hK K
        refine norm_ (a' := ?_) ?_ ?_
        rotate_left
        · show Act.put _ (some 4) _ = _
          simp only [Act.put, List.setIfInBounds_toArray, List.set_cons_zero, List.set_cons_succ, i64_w, i32_w]
          rfl
        refine two_ (i := 7) (j := 8) (Ni := some 12) (Nj := some 3) #[true, true, true, true, true, true, true, true, false, true, false, false] #[true, true, true, true, true, true, true, false, true, true, false, false] rfl rfl rfl rfl (two_of HT_.out (by kernel_rfl)) (by decide) (by decide) (fun K hK => ?_) (fun K hK => ?_)
        · skip
          refine call_ 75 #[.int .i64 4, .pointer (some ⟨b, 6, none⟩)] (by rfl) rfl ?hr ?_
          (case hr => first | rfl | (go_simp; done) | (go_simp; rfl))
          refine (number_calls 4 b 6 _).mono ?_
          rintro e' w3 ⟨rfl, hb⟩
          refine ⟨_, rfl, ?_⟩
          have HB := Aside0.mk (HB.out.trans (hb.mono HB.out.size))
          have H9 := Aside0.mk ((hb.block _ (blk_ltn H9.out)).trans H9.out)
          clear hb
          refine hK.out _ _ trivial (fun hHeld => ?_)
          clear hK K
          refine norm_ (a' := ?_) ?_ ?_
          rotate_left
          · show Act.put _ (some 12) _ = _
            simp only [Act.put, List.setIfInBounds_toArray, List.set_cons_zero, List.set_cons_succ, i64_w, i32_w]
            rfl
          refine one_ (i := 8) (N := some 3) #[true, true, true, true, true, true, true, true, true, true, false, false] rfl rfl (one_of HT_.out (by kernel_rfl)) (by decide) (fun K hK => ?_)
          refine value_ (w1 := ?_) (v := ?_) (by rfl) rfl ?_ ?_
          rotate_left 2
          · go_simp
            constructor
            · rfl
            · rfl
          have hb := (Below.refl w3.heap.size w3).alloc (Nat.le_refl _) (.cells #[.int .i64 0, .pointer none, .pointer none, .pointer none] 78)
          have hn := heap_alloc_new w3 (.cells #[.int .i64 0, .pointer none, .pointer none, .pointer none] 78)
          have hlt9 := blk_ltn H9.out
          have H9 := Aside0.mk ((hb.block _ (blk_ltn H9.out)).trans H9.out)
          have hle := HB.out.size
          have HB := Aside0.mk (HB.out.trans (hb.mono HB.out.size))
          obtain ⟨w4, hw_⟩ : ∃ W, w3.alloc (.cells #[.int .i64 0, .pointer none, .pointer none, .pointer none] 78) = W := ⟨_, rfl⟩
          obtain ⟨b8, hb_⟩ : ∃ x, w3.heap.size = x := ⟨_, rfl⟩
          rw [hw_] at HB hn H9 ⊢
          rw [hb_] at hn hle hlt9 ⊢
          have HN := Aside0.mk (show b8 ≠ b9 by omega)
          have H8 := Aside0.mk hn
          have HL8 := Aside0.mk hle
          clear hb hn hw_ hb_ hle hlt9
          refine hK.out _ _ trivial (fun hHeld => ?_)
          clear hK K
          refine norm_ (a' := ?_) ?_ ?_
          rotate_left
          · show Act.put _ (some 3) _ = _
            simp only [Act.put, List.setIfInBounds_toArray, List.set_cons_zero, List.set_cons_succ, i64_w, i32_w]
            rfl
          exact norm_ (by simp only [putAll, Act.put, List.setIfInBounds_toArray, List.set_cons_zero, List.set_cons_succ]) (hCont (b8, b9) _ ⟨H8.out, H9.out, HN.out, HL8.out, HL9.out, HB.out⟩)
        · skip
          refine value_ (w1 := ?_) (v := ?_) (by rfl) rfl ?_ ?_
          rotate_left 2
          · go_simp
            constructor
            · rfl
            · rfl
          have hb := (Below.refl w2.heap.size w2).alloc (Nat.le_refl _) (.cells #[.int .i64 0, .pointer none, .pointer none, .pointer none] 78)
          have hn := heap_alloc_new w2 (.cells #[.int .i64 0, .pointer none, .pointer none, .pointer none] 78)
          have hlt9 := blk_ltn H9.out
          have H9 := Aside0.mk ((hb.block _ (blk_ltn H9.out)).trans H9.out)
          have hle := HB.out.size
          have HB := Aside0.mk (HB.out.trans (hb.mono HB.out.size))
          obtain ⟨w3, hw_⟩ : ∃ W, w2.alloc (.cells #[.int .i64 0, .pointer none, .pointer none, .pointer none] 78) = W := ⟨_, rfl⟩
          obtain ⟨b8, hb_⟩ : ∃ x, w2.heap.size = x := ⟨_, rfl⟩
          rw [hw_] at HB hn H9 ⊢
          rw [hb_] at hn hle hlt9 ⊢
          have HN := Aside0.mk (show b8 ≠ b9 by omega)
          have H8 := Aside0.mk hn
          have HL8 := Aside0.mk hle
          clear hb hn hw_ hb_ hle hlt9
          refine hK.out _ _ trivial (fun hHeld => ?_)
          clear hK K
          refine norm_ (a' := ?_) ?_ ?_
          rotate_left
          · show Act.put _ (some 3) _ = _
            simp only [Act.put, List.setIfInBounds_toArray, List.set_cons_zero, List.set_cons_succ, i64_w, i32_w]
            rfl
          refine one_ (i := 7) (N := some 12) #[true, true, true, true, true, true, true, true, true, true, false, false] rfl rfl (one_of HT_.out (by kernel_rfl)) (by decide) (fun K hK => ?_)
          refine call_ 75 #[.int .i64 4, .pointer (some ⟨b, 6, none⟩)] (by rfl) rfl ?hr ?_
          (case hr => first | rfl | (go_simp; done) | (go_simp; rfl))
          refine (number_calls 4 b 6 _).mono ?_
          rintro e' w4 ⟨rfl, hb⟩
          refine ⟨_, rfl, ?_⟩
          have HB := Aside0.mk (HB.out.trans (hb.mono HB.out.size))
          have H8 := Aside0.mk ((hb.block _ (blk_ltn H8.out)).trans H8.out)
          have H9 := Aside0.mk ((hb.block _ (blk_ltn H9.out)).trans H9.out)
          clear hb
          refine hK.out _ _ trivial (fun hHeld => ?_)
          clear hK K
          refine norm_ (a' := ?_) ?_ ?_
          rotate_left
          · show Act.put _ (some 12) _ = _
            simp only [Act.put, List.setIfInBounds_toArray, List.set_cons_zero, List.set_cons_succ, i64_w, i32_w]
            rfl
          exact norm_ (by simp only [putAll, Act.put, List.setIfInBounds_toArray, List.set_cons_zero, List.set_cons_succ]) (hCont (b8, b9) _ ⟨H8.out, H9.out, HN.out, HL8.out, HL9.out, HB.out⟩)
    · skip
      refine value_ (w1 := ?_) (v := ?_) (by rfl) rfl ?_ ?_
      rotate_left 2
      · go_simp
        constructor
        · rfl
        · rfl
      have hb := (Below.refl wd.heap.size wd).alloc (Nat.le_refl _) (.cells #[.int .i64 0, .pointer none, .pointer none, .pointer none] 78)
      have hn := heap_alloc_new wd (.cells #[.int .i64 0, .pointer none, .pointer none, .pointer none] 78)
      have hle := HB.out.size
      have HB := Aside0.mk (HB.out.trans (hb.mono HB.out.size))
      obtain ⟨w1, hw_⟩ : ∃ W, wd.alloc (.cells #[.int .i64 0, .pointer none, .pointer none, .pointer none] 78) = W := ⟨_, rfl⟩
      obtain ⟨b8, hb_⟩ : ∃ x, wd.heap.size = x := ⟨_, rfl⟩
      rw [hw_] at HB hn ⊢
      rw [hb_] at hn hle ⊢
      have H8 := Aside0.mk hn
      have HL8 := Aside0.mk hle
      clear hb hn hw_ hb_ hle
      refine hK.out _ _ trivial (fun hHeld => ?_)
      clear hK K
      refine norm_ (a' := ?_) ?_ ?_
      rotate_left
      · show Act.put _ (some 3) _ = _
        simp only [Act.put, List.setIfInBounds_toArray, List.set_cons_zero, List.set_cons_succ, i64_w, i32_w]
        rfl
      refine two_ (i := 3) (j := 9) (Ni := some 8) (Nj := some 4) #[true, true, true, true, true, true, true, false, true, false, false, false] #[true, true, true, false, true, true, true, false, true, true, false, false] rfl rfl rfl rfl (two_of HT_.out (by kernel_rfl)) (by decide) (by decide) (fun K hK => ?_) (fun K hK => ?_)
      · skip
        refine call_ 75 #[.int .i64 4, .pointer (some ⟨b, 5, none⟩)] (by rfl) rfl ?hr ?_
        (case hr => first | rfl | (go_simp; done) | (go_simp; rfl))
        refine (number_calls 4 b 5 _).mono ?_
        rintro e' w2 ⟨rfl, hb⟩
        refine ⟨_, rfl, ?_⟩
        have HB := Aside0.mk (HB.out.trans (hb.mono HB.out.size))
        have H8 := Aside0.mk ((hb.block _ (blk_ltn H8.out)).trans H8.out)
        clear hb
        refine hK.out _ _ trivial (fun hHeld => ?_)
        clear hK K
        refine norm_ (a' := ?_) ?_ ?_
        rotate_left
        · show Act.put _ (some 8) _ = _
          simp only [Act.put, List.setIfInBounds_toArray, List.set_cons_zero, List.set_cons_succ, i64_w, i32_w]
          rfl
        refine two_ (i := 7) (j := 9) (Ni := some 12) (Nj := some 4) #[true, true, true, true, true, true, true, true, true, false, false, false] #[true, true, true, true, true, true, true, false, true, true, false, false] rfl rfl rfl rfl (two_of HT_.out (by kernel_rfl)) (by decide) (by decide) (fun K hK => ?_) (fun K hK => ?_)
        · skip
          refine call_ 75 #[.int .i64 4, .pointer (some ⟨b, 6, none⟩)] (by rfl) rfl ?hr ?_
          (case hr => first | rfl | (go_simp; done) | (go_simp; rfl))
          refine (number_calls 4 b 6 _).mono ?_
          rintro e' w3 ⟨rfl, hb⟩
          refine ⟨_, rfl, ?_⟩
          have HB := Aside0.mk (HB.out.trans (hb.mono HB.out.size))
          have H8 := Aside0.mk ((hb.block _ (blk_ltn H8.out)).trans H8.out)
          clear hb
          refine hK.out _ _ trivial (fun hHeld => ?_)
          clear hK K
          refine norm_ (a' := ?_) ?_ ?_
          rotate_left
          · show Act.put _ (some 12) _ = _
            simp only [Act.put, List.setIfInBounds_toArray, List.set_cons_zero, List.set_cons_succ, i64_w, i32_w]
            rfl
          refine one_ (i := 9) (N := some 4) #[true, true, true, true, true, true, true, true, true, true, false, false] rfl rfl (one_of HT_.out (by kernel_rfl)) (by decide) (fun K hK => ?_)
          refine value_ (w1 := ?_) (v := ?_) (by rfl) rfl ?_ ?_
          rotate_left 2
          · go_simp
            constructor
            · rfl
            · rfl
          have hb := (Below.refl w3.heap.size w3).alloc (Nat.le_refl _) (.cells #[.int .i64 0, .pointer none, .pointer none, .pointer none] 78)
          have hn := heap_alloc_new w3 (.cells #[.int .i64 0, .pointer none, .pointer none, .pointer none] 78)
          have hlt8 := blk_ltn H8.out
          have H8 := Aside0.mk ((hb.block _ (blk_ltn H8.out)).trans H8.out)
          have hle := HB.out.size
          have HB := Aside0.mk (HB.out.trans (hb.mono HB.out.size))
          obtain ⟨w4, hw_⟩ : ∃ W, w3.alloc (.cells #[.int .i64 0, .pointer none, .pointer none, .pointer none] 78) = W := ⟨_, rfl⟩
          obtain ⟨b9, hb_⟩ : ∃ x, w3.heap.size = x := ⟨_, rfl⟩
          rw [hw_] at HB hn H8 ⊢
          rw [hb_] at hn hle hlt8 ⊢
          have HN := Aside0.mk (show b8 ≠ b9 by omega)
          have H9 := Aside0.mk hn
          have HL9 := Aside0.mk hle
          clear hb hn hw_ hb_ hle hlt8
          refine hK.out _ _ trivial (fun hHeld => ?_)
          clear hK K
          refine norm_ (a' := ?_) ?_ ?_
          rotate_left
          · show Act.put _ (some 4) _ = _
            simp only [Act.put, List.setIfInBounds_toArray, List.set_cons_zero, List.set_cons_succ, i64_w, i32_w]
            rfl
          exact norm_ (by simp only [putAll, Act.put, List.setIfInBounds_toArray, List.set_cons_zero, List.set_cons_succ]) (hCont (b8, b9) _ ⟨H8.out, H9.out, HN.out, HL8.out, HL9.out, HB.out⟩)
        · skip
          refine value_ (w1 := ?_) (v := ?_) (by rfl) rfl ?_ ?_
          rotate_left 2
          · go_simp
            constructor
            · rfl
            · rfl
          have hb := (Below.refl w2.heap.size w2).alloc (Nat.le_refl _) (.cells #[.int .i64 0, .pointer none, .pointer none, .pointer none] 78)
          have hn := heap_alloc_new w2 (.cells #[.int .i64 0, .pointer none, .pointer none, .pointer none] 78)
          have hlt8 := blk_ltn H8.out
          have H8 := Aside0.mk ((hb.block _ (blk_ltn H8.out)).trans H8.out)
          have hle := HB.out.size
          have HB := Aside0.mk (HB.out.trans (hb.mono HB.out.size))
          obtain ⟨w3, hw_⟩ : ∃ W, w2.alloc (.cells #[.int .i64 0, .pointer none, .pointer none, .pointer none] 78) = W := ⟨_, rfl⟩
          obtain ⟨b9, hb_⟩ : ∃ x, w2.heap.size = x := ⟨_, rfl⟩
          rw [hw_] at HB hn H8 ⊢
          rw [hb_] at hn hle hlt8 ⊢
          have HN := Aside0.mk (show b8 ≠ b9 by omega)
          have H9 := Aside0.mk hn
          have HL9 := Aside0.mk hle
          clear hb hn hw_ hb_ hle hlt8
          refine hK.out _ _ trivial (fun hHeld => ?_)
          clear hK K
          refine norm_ (a' := ?_) ?_ ?_
          rotate_left
          · show Act.put _ (some 4) _ = _
            simp only [Act.put, List.setIfInBounds_toArray, List.set_cons_zero, List.set_cons_succ, i64_w, i32_w]
            rfl
          refine one_ (i := 7) (N := some 12) #[true, true, true, true, true, true, true, true, true, true, false, false] rfl rfl (one_of HT_.out (by kernel_rfl)) (by decide) (fun K hK => ?_)
          refine call_ 75 #[.int .i64 4, .pointer (some ⟨b, 6, none⟩)] (by rfl) rfl ?hr ?_
          (case hr => first | rfl | (go_simp; done) | (go_simp; rfl))
          refine (number_calls 4 b 6 _).mono ?_
          rintro e' w4 ⟨rfl, hb⟩
          refine ⟨_, rfl, ?_⟩
          have HB := Aside0.mk (HB.out.trans (hb.mono HB.out.size))
          have H8 := Aside0.mk ((hb.block _ (blk_ltn H8.out)).trans H8.out)
          have H9 := Aside0.mk ((hb.block _ (blk_ltn H9.out)).trans H9.out)
          clear hb
          refine hK.out _ _ trivial (fun hHeld => ?_)
          clear hK K
          refine norm_ (a' := ?_) ?_ ?_
          rotate_left
          · show Act.put _ (some 12) _ = _
            simp only [Act.put, List.setIfInBounds_toArray, List.set_cons_zero, List.set_cons_succ, i64_w, i32_w]
            rfl
          exact norm_ (by simp only [putAll, Act.put, List.setIfInBounds_toArray, List.set_cons_zero, List.set_cons_succ]) (hCont (b8, b9) _ ⟨H8.out, H9.out, HN.out, HL8.out, HL9.out, HB.out⟩)
      · skip
        refine value_ (w1 := ?_) (v := ?_) (by rfl) rfl ?_ ?_
        rotate_left 2
        · go_simp
          constructor
          · rfl
          · rfl
        have hb := (Below.refl w1.heap.size w1).alloc (Nat.le_refl _) (.cells #[.int .i64 0, .pointer none, .pointer none, .pointer none] 78)
        have hn := heap_alloc_new w1 (.cells #[.int .i64 0, .pointer none, .pointer none, .pointer none] 78)
        have hlt8 := blk_ltn H8.out
        have H8 := Aside0.mk ((hb.block _ (blk_ltn H8.out)).trans H8.out)
        have hle := HB.out.size
        have HB := Aside0.mk (HB.out.trans (hb.mono HB.out.size))
        obtain ⟨w2, hw_⟩ : ∃ W, w1.alloc (.cells #[.int .i64 0, .pointer none, .pointer none, .pointer none] 78) = W := ⟨_, rfl⟩
        obtain ⟨b9, hb_⟩ : ∃ x, w1.heap.size = x := ⟨_, rfl⟩
        rw [hw_] at HB hn H8 ⊢
        rw [hb_] at hn hle hlt8 ⊢
        have HN := Aside0.mk (show b8 ≠ b9 by omega)
        have H9 := Aside0.mk hn
        have HL9 := Aside0.mk hle
        clear hb hn hw_ hb_ hle hlt8
        refine hK.out _ _ trivial (fun hHeld => ?_)
        clear hK K
        refine norm_ (a' := ?_) ?_ ?_
        rotate_left
        · show Act.put _ (some 4) _ = _
          simp only [Act.put, List.setIfInBounds_toArray, List.set_cons_zero, List.set_cons_succ, i64_w, i32_w]
          rfl
        refine one_ (i := 3) (N := some 8) #[true, true, true, true, true, true, true, false, true, true, false, false] rfl rfl (one_of HT_.out (by kernel_rfl)) (by decide) (fun K hK => ?_)
        refine call_ 75 #[.int .i64 4, .pointer (some ⟨b, 5, none⟩)] (by rfl) rfl ?hr ?_
        (case hr => first | rfl | (go_simp; done) | (go_simp; rfl))
        refine (number_calls 4 b 5 _).mono ?_
        rintro e' w3 ⟨rfl, hb⟩
        refine ⟨_, rfl, ?_⟩
        have HB := Aside0.mk (HB.out.trans (hb.mono HB.out.size))
        have H8 := Aside0.mk ((hb.block _ (blk_ltn H8.out)).trans H8.out)
        have H9 := Aside0.mk ((hb.block _ (blk_ltn H9.out)).trans H9.out)
        clear hb
        refine hK.out _ _ trivial (fun hHeld => ?_)
        clear hK K
        refine norm_ (a' := ?_) ?_ ?_
        rotate_left
        · show Act.put _ (some 8) _ = _
          simp only [Act.put, List.setIfInBounds_toArray, List.set_cons_zero, List.set_cons_succ, i64_w, i32_w]
          rfl
        refine one_ (i := 7) (N := some 12) #[true, true, true, true, true, true, true, true, true, true, false, false] rfl rfl (one_of HT_.out (by kernel_rfl)) (by decide) (fun K hK => ?_)
        refine call_ 75 #[.int .i64 4, .pointer (some ⟨b, 6, none⟩)] (by rfl) rfl ?hr ?_
        (case hr => first | rfl | (go_simp; done) | (go_simp; rfl))
        refine (number_calls 4 b 6 _).mono ?_
        rintro e' w4 ⟨rfl, hb⟩
        refine ⟨_, rfl, ?_⟩
        have HB := Aside0.mk (HB.out.trans (hb.mono HB.out.size))
        have H8 := Aside0.mk ((hb.block _ (blk_ltn H8.out)).trans H8.out)
        have H9 := Aside0.mk ((hb.block _ (blk_ltn H9.out)).trans H9.out)
        clear hb
        refine hK.out _ _ trivial (fun hHeld => ?_)
        clear hK K
        refine norm_ (a' := ?_) ?_ ?_
        rotate_left
        · show Act.put _ (some 12) _ = _
          simp only [Act.put, List.setIfInBounds_toArray, List.set_cons_zero, List.set_cons_succ, i64_w, i32_w]
          rfl
        exact norm_ (by simp only [putAll, Act.put, List.setIfInBounds_toArray, List.set_cons_zero, List.set_cons_succ]) (hCont (b8, b9) _ ⟨H8.out, H9.out, HN.out, HL8.out, HL9.out, HB.out⟩)
    · skip
      refine value_ (w1 := ?_) (v := ?_) (by rfl) rfl ?_ ?_
      rotate_left 2
      · go_simp
        constructor
        · rfl
        · rfl
      have hb := (Below.refl wd.heap.size wd).alloc (Nat.le_refl _) (.cells #[.int .i64 0, .pointer none, .pointer none, .pointer none] 78)
      have hn := heap_alloc_new wd (.cells #[.int .i64 0, .pointer none, .pointer none, .pointer none] 78)
      have hle := HB.out.size
      have HB := Aside0.mk (HB.out.trans (hb.mono HB.out.size))
      obtain ⟨w1, hw_⟩ : ∃ W, wd.alloc (.cells #[.int .i64 0, .pointer none, .pointer none, .pointer none] 78) = W := ⟨_, rfl⟩
      obtain ⟨b9, hb_⟩ : ∃ x, wd.heap.size = x := ⟨_, rfl⟩
      rw [hw_] at HB hn ⊢
      rw [hb_] at hn hle ⊢
      have H9 := Aside0.mk hn
      have HL9 := Aside0.mk hle
      clear hb hn hw_ hb_ hle
      refine hK.out _ _ trivial (fun hHeld => ?_)
      clear hK K
      refine norm_ (a' := ?_) ?_ ?_
      rotate_left
      · show Act.put _ (some 4) _ = _
        simp only [Act.put, List.setIfInBounds_toArray, List.set_cons_zero, List.set_cons_succ, i64_w, i32_w]
        rfl
      refine two_ (i := 3) (j := 8) (Ni := some 8) (Nj := some 3) #[true, true, true, true, true, true, true, false, false, true, false, false] #[true, true, true, false, true, true, true, false, true, true, false, false] rfl rfl rfl rfl (two_of HT_.out (by kernel_rfl)) (by decide) (by decide) (fun K hK => ?_) (fun K hK => ?_)
      · skip
        refine call_ 75 #[.int .i64 4, .pointer (some ⟨b, 5, none⟩)] (by rfl) rfl ?hr ?_
        (case hr => first | rfl | (go_simp; done) | (go_simp; rfl))
        refine (number_calls 4 b 5 _).mono ?_
        rintro e' w2 ⟨rfl, hb⟩
        refine ⟨_, rfl, ?_⟩
        have HB := Aside0.mk (HB.out.trans (hb.mono HB.out.size))
        have H9 := Aside0.mk ((hb.block _ (blk_ltn H9.out)).trans H9.out)
        clear hb
        refine hK.out _ _ trivial (fun hHeld => ?_)
        clear hK K
        refine norm_ (a' := ?_) ?_ ?_
        rotate_left
        · show Act.put _ (some 8) _ = _
          simp only [Act.put, List.setIfInBounds_toArray, List.set_cons_zero, List.set_cons_succ, i64_w, i32_w]
          rfl
        refine two_ (i := 7) (j := 8) (Ni := some 12) (Nj := some 3) #[true, true, true, true, true, true, true, true, false, true, false, false] #[true, true, true, true, true, true, true, false, true, true, false, false] rfl rfl rfl rfl (two_of HT_.out (by kernel_rfl)) (by decide) (by decide) (fun K hK => ?_) (fun K hK => ?_)
        · skip
          refine call_ 75 #[.int .i64 4, .pointer (some ⟨b, 6, none⟩)] (by rfl) rfl ?hr ?_
          (case hr => first | rfl | (go_simp; done) | (go_simp; rfl))
          refine (number_calls 4 b 6 _).mono ?_
          rintro e' w3 ⟨rfl, hb⟩
          refine ⟨_, rfl, ?_⟩
          have HB := Aside0.mk (HB.out.trans (hb.mono HB.out.size))
          have H9 := Aside0.mk ((hb.block _ (blk_ltn H9.out)).trans H9.out)
          clear hb
          refine hK.out _ _ trivial (fun hHeld => ?_)
          clear hK K
          refine norm_ (a' := ?_) ?_ ?_
          rotate_left
          · show Act.put _ (some 12) _ = _
            simp only [Act.put, List.setIfInBounds_toArray, List.set_cons_zero, List.set_cons_succ, i64_w, i32_w]
            rfl
          refine one_ (i := 8) (N := some 3) #[true, true, true, true, true, true, true, true, true, true, false, false] rfl rfl (one_of HT_.out (by kernel_rfl)) (by decide) (fun K hK => ?_)
          refine value_ (w1 := ?_) (v := ?_) (by rfl) rfl ?_ ?_
          rotate_left 2
          · go_simp
            constructor
            · rfl
            · rfl
          have hb := (Below.refl w3.heap.size w3).alloc (Nat.le_refl _) (.cells #[.int .i64 0, .pointer none, .pointer none, .pointer none] 78)
          have hn := heap_alloc_new w3 (.cells #[.int .i64 0, .pointer none, .pointer none, .pointer none] 78)
          have hlt9 := blk_ltn H9.out
          have H9 := Aside0.mk ((hb.block _ (blk_ltn H9.out)).trans H9.out)
          have hle := HB.out.size
          have HB := Aside0.mk (HB.out.trans (hb.mono HB.out.size))
          obtain ⟨w4, hw_⟩ : ∃ W, w3.alloc (.cells #[.int .i64 0, .pointer none, .pointer none, .pointer none] 78) = W := ⟨_, rfl⟩
          obtain ⟨b8, hb_⟩ : ∃ x, w3.heap.size = x := ⟨_, rfl⟩
          rw [hw_] at HB hn H9 ⊢
          rw [hb_] at hn hle hlt9 ⊢
          have HN := Aside0.mk (show b8 ≠ b9 by omega)
          have H8 := Aside0.mk hn
          have HL8 := Aside0.mk hle
          clear hb hn hw_ hb_ hle hlt9
          refine hK.out _ _ trivial (fun hHeld => ?_)
          clear hK K
          refine norm_ (a' := ?_) ?_ ?_
          rotate_left
          · show Act.put _ (some 3) _ = _
            simp only [Act.put, List.setIfInBounds_toArray, List.set_cons_zero, List.set_cons_succ, i64_w, i32_w]
            rfl
          exact norm_ (by simp only [putAll, Act.put, List.setIfInBounds_toArray, List.set_cons_zero, List.set_cons_succ]) (hCont (b8, b9) _ ⟨H8.out, H9.out, HN.out, HL8.out, HL9.out, HB.out⟩)
        · skip
          refine value_ (w1 := ?_) (v := ?_) (by rfl) rfl ?_ ?_
          rotate_left 2
          · go_simp
            constructor
            · rfl
            · rfl
          have hb := (Below.refl w2.heap.size w2).alloc (Nat.le_refl _) (.cells #[.int .i64 0, .pointer none, .pointer none, .pointer none] 78)
          have hn := heap_alloc_new w2 (.cells #[.int .i64 0, .pointer none, .pointer none, .pointer none] 78)
          have hlt9 := blk_ltn H9.out
          have H9 := Aside0.mk ((hb.block _ (blk_ltn H9.out)).trans H9.out)
          have hle := HB.out.size
          have HB := Aside0.mk (HB.out.trans (hb.mono HB.out.size))
          obtain ⟨w3, hw_⟩ : ∃ W, w2.alloc (.cells #[.int .i64 0, .pointer none, .pointer none, .pointer none] 78) = W := ⟨_, rfl⟩
          obtain ⟨b8, hb_⟩ : ∃ x, w2.heap.size = x := ⟨_, rfl⟩
          rw [hw_] at HB hn H9 ⊢
          rw [hb_] at hn hle hlt9 ⊢
          have HN := Aside0.mk (show b8 ≠ b9 by omega)
          have H8 := Aside0.mk hn
          have HL8 := Aside0.mk hle
          clear hb hn hw_ hb_ hle hlt9
          refine hK.out _ _ trivial (fun hHeld => ?_)
          clear hK K
          refine norm_ (a' := ?_) ?_ ?_
          rotate_left
          · show Act.put _ (some 3) _ = _
            simp only [Act.put, List.setIfInBounds_toArray, List.set_cons_zero, List.set_cons_succ, i64_w, i32_w]
            rfl
          refine one_ (i := 7) (N := some 12) #[true, true, true, true, true, true, true, true, true, true, false, false] rfl rfl (one_of HT_.out (by kernel_rfl)) (by decide) (fun K hK => ?_)
          refine call_ 75 #[.int .i64 4, .pointer (some ⟨b, 6, none⟩)] (by rfl) rfl ?hr ?_
          (case hr => first | rfl | (go_simp; done) | (go_simp; rfl))
          refine (number_calls 4 b 6 _).mono ?_
          rintro e' w4 ⟨rfl, hb⟩
          refine ⟨_, rfl, ?_⟩
          have HB := Aside0.mk (HB.out.trans (hb.mono HB.out.size))
          have H8 := Aside0.mk ((hb.block _ (blk_ltn H8.out)).trans H8.out)
          have H9 := Aside0.mk ((hb.block _ (blk_ltn H9.out)).trans H9.out)
          clear hb
          refine hK.out _ _ trivial (fun hHeld => ?_)
          clear hK K
          refine norm_ (a' := ?_) ?_ ?_
          rotate_left
          · show Act.put _ (some 12) _ = _
            simp only [Act.put, List.setIfInBounds_toArray, List.set_cons_zero, List.set_cons_succ, i64_w, i32_w]
            rfl
          exact norm_ (by simp only [putAll, Act.put, List.setIfInBounds_toArray, List.set_cons_zero, List.set_cons_succ]) (hCont (b8, b9) _ ⟨H8.out, H9.out, HN.out, HL8.out, HL9.out, HB.out⟩)
      · skip
        refine value_ (w1 := ?_) (v := ?_) (by rfl) rfl ?_ ?_
        rotate_left 2
        · go_simp
          constructor
          · rfl
          · rfl
        have hb := (Below.refl w1.heap.size w1).alloc (Nat.le_refl _) (.cells #[.int .i64 0, .pointer none, .pointer none, .pointer none] 78)
        have hn := heap_alloc_new w1 (.cells #[.int .i64 0, .pointer none, .pointer none, .pointer none] 78)
        have hlt9 := blk_ltn H9.out
        have H9 := Aside0.mk ((hb.block _ (blk_ltn H9.out)).trans H9.out)
        have hle := HB.out.size
        have HB := Aside0.mk (HB.out.trans (hb.mono HB.out.size))
        obtain ⟨w2, hw_⟩ : ∃ W, w1.alloc (.cells #[.int .i64 0, .pointer none, .pointer none, .pointer none] 78) = W := ⟨_, rfl⟩
        obtain ⟨b8, hb_⟩ : ∃ x, w1.heap.size = x := ⟨_, rfl⟩
        rw [hw_] at HB hn H9 ⊢
        rw [hb_] at hn hle hlt9 ⊢
        have HN := Aside0.mk (show b8 ≠ b9 by omega)
        have H8 := Aside0.mk hn
        have HL8 := Aside0.mk hle
        clear hb hn hw_ hb_ hle hlt9
        refine hK.out _ _ trivial (fun hHeld => ?_)
        clear hK K
        refine norm_ (a' := ?_) ?_ ?_
        rotate_left
        · show Act.put _ (some 3) _ = _
          simp only [Act.put, List.setIfInBounds_toArray, List.set_cons_zero, List.set_cons_succ, i64_w, i32_w]
          rfl
        refine one_ (i := 3) (N := some 8) #[true, true, true, true, true, true, true, false, true, true, false, false] rfl rfl (one_of HT_.out (by kernel_rfl)) (by decide) (fun K hK => ?_)
        refine call_ 75 #[.int .i64 4, .pointer (some ⟨b, 5, none⟩)] (by rfl) rfl ?hr ?_
        (case hr => first | rfl | (go_simp; done) | (go_simp; rfl))
        refine (number_calls 4 b 5 _).mono ?_
        rintro e' w3 ⟨rfl, hb⟩
        refine ⟨_, rfl, ?_⟩
        have HB := Aside0.mk (HB.out.trans (hb.mono HB.out.size))
        have H8 := Aside0.mk ((hb.block _ (blk_ltn H8.out)).trans H8.out)
        have H9 := Aside0.mk ((hb.block _ (blk_ltn H9.out)).trans H9.out)
        clear hb
        refine hK.out _ _ trivial (fun hHeld => ?_)
        clear hK K
        refine norm_ (a' := ?_) ?_ ?_
        rotate_left
        · show Act.put _ (some 8) _ = _
          simp only [Act.put, List.setIfInBounds_toArray, List.set_cons_zero, List.set_cons_succ, i64_w, i32_w]
          rfl
        refine one_ (i := 7) (N := some 12) #[true, true, true, true, true, true, true, true, true, true, false, false] rfl rfl (one_of HT_.out (by kernel_rfl)) (by decide) (fun K hK => ?_)
        refine call_ 75 #[.int .i64 4, .pointer (some ⟨b, 6, none⟩)] (by rfl) rfl ?hr ?_
        (case hr => first | rfl | (go_simp; done) | (go_simp; rfl))
        refine (number_calls 4 b 6 _).mono ?_
        rintro e' w4 ⟨rfl, hb⟩
        refine ⟨_, rfl, ?_⟩
        have HB := Aside0.mk (HB.out.trans (hb.mono HB.out.size))
        have H8 := Aside0.mk ((hb.block _ (blk_ltn H8.out)).trans H8.out)
        have H9 := Aside0.mk ((hb.block _ (blk_ltn H9.out)).trans H9.out)
        clear hb
        refine hK.out _ _ trivial (fun hHeld => ?_)
        clear hK K
        refine norm_ (a' := ?_) ?_ ?_
        rotate_left
        · show Act.put _ (some 12) _ = _
          simp only [Act.put, List.setIfInBounds_toArray, List.set_cons_zero, List.set_cons_succ, i64_w, i32_w]
          rfl
        exact norm_ (by simp only [putAll, Act.put, List.setIfInBounds_toArray, List.set_cons_zero, List.set_cons_succ]) (hCont (b8, b9) _ ⟨H8.out, H9.out, HN.out, HL8.out, HL9.out, HB.out⟩)
  rintro ⟨b8, b9⟩ w5 ⟨h8, h9, hn, hl8, hl9, hb⟩
  dsimp only at h8 h9 hn hl8 hl9 hb ⊢
  have hf8 := fun x => blk_frozen h8 x
  have hf9 := fun x => blk_frozen h9 x
  have hc80 : w5.cell? ⟨b8, 0, none⟩ = some (.int .i64 0) := (blk_cell h8 0).trans rfl
  have hc81 : w5.cell? ⟨b8, 1, none⟩ = some (.pointer none) := (blk_cell h8 1).trans rfl
  have hc82 : w5.cell? ⟨b8, 2, none⟩ = some (.pointer none) := (blk_cell h8 2).trans rfl
  have hc83 : w5.cell? ⟨b8, 3, none⟩ = some (.pointer none) := (blk_cell h8 3).trans rfl
  have hc90 : w5.cell? ⟨b9, 0, none⟩ = some (.int .i64 0) := (blk_cell h9 0).trans rfl
  have hc91 : w5.cell? ⟨b9, 1, none⟩ = some (.pointer none) := (blk_cell h9 1).trans rfl
  have hc92 : w5.cell? ⟨b9, 2, none⟩ = some (.pointer none) := (blk_cell h9 2).trans rfl
  have hc93 : w5.cell? ⟨b9, 3, none⟩ = some (.pointer none) := (blk_cell h9 3).trans rfl
  have hn8 : b9 ≠ b8 := fun e => hn e.symm
  have hn9 : (b8 = b9) = False := eq_false hn
  have hn8f : (b9 = b8) = False := eq_false hn8
  have H8 := Aside0.mk h8
  have H9 := Aside0.mk h9
  have HN := Aside0.mk hn
  have HL8 := Aside0.mk hl8
  have HL9 := Aside0.mk hl9
  have HB := Aside0.mk hb
  clear h8 h9 hn hl8 hl9 hb
  have hHeld : True := trivial
  refine norm_ (a' := ?_) ?_ ?_
  rotate_left
  · simp only [putAll, Act.put, List.setIfInBounds_toArray, List.set_cons_zero, List.set_cons_succ]
    rfl
  refine last_ (i := 10) (N := none) #[true, true, true, true, true, true, true, true, true, true, true, false] rfl rfl (one_of HT_.out (by kernel_rfl)) (by decide) (fun K hK => ?_)
  refine skip_ (w1 := ?_) (by rfl) rfl ?_ ?_
  rotate_left
  · go_simp
    rfl
  refine hK.out _ _ ?_
  clear hK K
  refine last_ (i := 11) (N := none) #[true, true, true, true, true, true, true, true, true, true, true, true] rfl rfl (one_of HT_.out (by kernel_rfl)) (by decide) (fun K hK => ?_)
  refine skip_ (w1 := ?_) (by rfl) rfl ?_ ?_
  rotate_left
  · go_simp
    rfl
  refine hK.out _ _ ?_
  clear hK K
  refine done_ (done_of HT_.out (by kernel_rfl)) ?_
  go_upto_region 2 with fail
  obtain ⟨W5, hW5⟩ : ∃ W, ((((((((w5.setCell ⟨b8, 0, none⟩ (.int .i64 4)).setCell ⟨b8, 1, none⟩ (.pointer (some ⟨b, 5, none⟩))).setCell ⟨b8, 2, none⟩ (.pointer none)).setCell ⟨b8, 3, none⟩ (.pointer none)).setCell ⟨b9, 0, none⟩ (.int .i64 4)).setCell ⟨b9, 1, none⟩ (.pointer (some ⟨b, 6, none⟩))).setCell ⟨b9, 2, none⟩ (.pointer none)).setCell ⟨b9, 3, none⟩ (.pointer none)) = W := ⟨_, rfl⟩
  rw [hW5]
  have HX := Aside0.mk (show W5.heap[b8]? = some (.cells #[.int .i64 4, .pointer (some ⟨b, 5, none⟩), .pointer none, .pointer none] 78 (0, 0)) by rw [← hW5]; exact (four_other HN.out _ _ _ _).trans (four_set H8.out _ _ _ _))
  have HX9 := Aside0.mk (show W5.heap[b9]? = some (.cells #[.int .i64 4, .pointer (some ⟨b, 6, none⟩), .pointer none, .pointer none] 78 (0, 0)) by rw [← hW5]; exact four_set ((four_other (fun e => HN.out e.symm) _ _ _ _).trans H9.out) _ _ _ _)
  have HB := Aside0.mk (show Below w.heap.size w W5 by rw [← hW5]; exact four_below (four_below HB.out HL8.out _ _ _ _) HL9.out _ _ _ _)
  clear hW5 hf8 hf9 hc80 hc81 hc82 hc83 hc90 hc91 hc92 hc93 H8 H9
  have H8 := HX
  have H9 := HX9
  clear HX HX9 hn8 hn9 hn8f hHeld
  have hk := (HB.out.cell HKB.out).trans HK.out
  go_wp2
  go_ret
  exact ⟨rfl, HB.out⟩
/-- No request. -/
def zeroQ : Rq := ⟨0, 0, ⟨#[]⟩, ⟨#[]⟩, 0, 0, 0, 0, none, [], 0⟩
/-- A request with a part that was read. -/
def updQ (q : Rq) (p : Pv) (x : GV) : Rq :=
  match x with
  | .num n => if p.addr.off = 0 then { q with kind := n } else if p.addr.off = 1 then { q with mark := n } else if p.addr.off = 4 then { q with how := n } else if p.addr.off = 5 then { q with handle := n } else if p.addr.off = 6 then { q with at_ := n } else { q with count := n }
  | .text s => if p.addr.off = 2 then { q with path := s } else { q with to_ := s }
  | .data l => { q with data := l }
/-- A request whose bytes lie somewhere. -/
def Rq.at (q : Rq) (A : Option Addr) (c : Nat) : Rq := { q with dA := A, dc := c }
/-- A request in memory, its bytes owned. -/
def RqIn (b B : Nat) (q : Rq) (w : World) : Prop := ∃ A c, w.heap[b]? = some (.cells (q.at A c).cells 29 (0, 0)) ∧ Kd.R (Kd.int .u8) 5 w B (fun _ => True) (.slice A q.data.length c) q.data
theorem rq_below {b B : Nat} {q : Rq} {w w' : World} (h : RqIn b B q w) (hb : Below w.heap.size w w') : RqIn b B q w' := by
  obtain ⟨A, c, h1, h2⟩ := h
  exact ⟨A, c, (hb.block _ (blk_ltn h1)).trans h1, Kd.R_below h2 hb⟩
/-- The parts of requests: where they lie. -/
def RqPart (b : Nat) (p : Pv) : Prop := (∃ wd o n, p = .num wd ⟨b, o, none⟩ n ∧ (wd = 1 ∨ wd = 2 ∨ wd = 4) ∧ (o = 0 ∨ o = 1 ∨ o = 4 ∨ o = 5 ∨ o = 6 ∨ o = 7)) ∨ (∃ o s, p = .text ⟨b, o, none⟩ s ∧ (o = 2 ∨ o = 3)) ∨ (∃ A l c, p = .data ⟨b, 8, none⟩ A l c)
theorem rq_upd {b B : Nat} {q : Rq} {w : World} {p : Pv} {x : GV} {u : Value} (hp : RqPart b p) (hof : x.of p) (h : RqIn b B q w) (hx : x.is w B u) : RqIn b B (updQ q p x) (w.setCell p.addr u) := by
  obtain ⟨A, c, h1, h2⟩ := h
  have hty : ∀ q', q' ∈ 5 :: (Kd.int .u8).E → q' ≠ 29 := by
    intro q' hq
    rcases List.mem_cons.1 hq with rfl | hq
    · decide
    · cases hq
  rcases hp with ⟨wd, o, n, rfl, _, ho⟩ | ⟨o, s, rfl, ho⟩ | ⟨A', l', c', rfl⟩
  · obtain ⟨n', rfl⟩ := hof
    have hu : u = .int .i64 (n' : Int) := hx
    subst hu
    have h3 : Kd.R (Kd.int .u8) 5 (w.setCell ⟨b, o, none⟩ (.int .i64 (n' : Int))) B (fun _ => True) (.slice A q.data.length c) q.data := Kd.R_set h2 h1 hty o _
    rcases ho with rfl | rfl | rfl | rfl | rfl | rfl <;> exact ⟨A, c, (blk_set h1 _ (.int .i64 (n' : Int))).trans rfl, h3⟩
  · obtain ⟨s', rfl⟩ := hof
    have hu : u = .string s' := hx
    subst hu
    have h3 : Kd.R (Kd.int .u8) 5 (w.setCell ⟨b, o, none⟩ (.string s')) B (fun _ => True) (.slice A q.data.length c) q.data := Kd.R_set h2 h1 hty o _
    rcases ho with rfl | rfl <;> exact ⟨A, c, (blk_set h1 _ (.string s')).trans rfl, h3⟩
  · obtain ⟨l2, rfl⟩ := hof
    have hR : Kd.R (Kd.int .u8) 5 w B (fun _ => True) u l2 := hx
    obtain ⟨A2, c2, hu⟩ := Kd.R_slice hR
    subst hu
    exact ⟨A2, c2, (blk_set h1 8 (.slice A2 l2.length c2)).trans rfl, Kd.R_set hR h1 hty 8 _⟩
theorem begun_part (b : Nat) (q : Rq) : ∀ p ∈ begunV b q, RqPart b p := by
  intro p hp
  simp only [begunV, List.mem_cons, List.not_mem_nil, or_false] at hp
  rcases hp with rfl | rfl
  · exact .inl ⟨_, _, _, rfl, by omega, by omega⟩
  · exact .inl ⟨_, _, _, rfl, by omega, by omega⟩
theorem parts_part (b : Nat) (q : Rq) : ∀ p ∈ partsV b q, RqPart b p := by
  intro p hp
  unfold partsV at hp
  repeat' split at hp
  all_goals simp only [List.mem_cons, List.not_mem_nil, or_false] at hp
  all_goals first
    | (rcases hp with rfl | rfl | rfl)
    | (rcases hp with rfl | rfl)
    | (subst hp)
    | (cases hp; done)
  all_goals first
    | exact .inl ⟨_, _, _, rfl, by omega, by omega⟩
    | exact .inr (.inl ⟨_, _, rfl, by omega⟩)
    | exact .inr (.inr ⟨_, _, _, rfl⟩)
theorem part_ok {b B : Nat} {p : Pv} (hp : RqPart b p) (hB : B ≤ b) : p.wok ∧ B ≤ p.addr.block ∧ p.addr = ⟨p.addr.block, p.addr.off, none⟩ ∧ ∀ (s : Rq) (w : World), RqIn b B s w → ∃ cells ty, w.heap[p.addr.block]? = some (.cells cells ty (0, 0)) ∧ p.addr.off < cells.size ∧ ty ≠ 78 := by
  rcases hp with ⟨wd, o, n, rfl, hw, ho⟩ | ⟨o, s, rfl, ho⟩ | ⟨A', l', c', rfl⟩
  · exact ⟨hw, hB, rfl, fun s w ⟨A, c, h1, _⟩ => ⟨_, 29, h1, by show o < 9; omega, by decide⟩⟩
  · exact ⟨trivial, hB, rfl, fun s w ⟨A, c, h1, _⟩ => ⟨_, 29, h1, by show o < 9; omega, by decide⟩⟩
  · exact ⟨trivial, hB, rfl, fun s w ⟨A, c, h1, _⟩ => ⟨_, 29, h1, by show 8 < 9; omega, by decide⟩⟩
theorem takeRq_calls (b : Nat) (ps : List Pv) (hps : ∀ p ∈ ps, RqPart b p) (w0 : World) (l : List Int) (A : Option Addr) (c : Nat) (s : Rq) (w : World) (v : Value) (hbb : w0.heap.size ≤ b)
    (hl4 : ps.length ≤ 1000) (hr : Kd.C (Kd.int .u8) w0 A l.length l) (hc : l.length ≤ c) (hb : ∀ x ∈ l, 0 ≤ x ∧ x ≤ 255) (hl : l.length ≤ 140737488351232) (hB : Below w0.heap.size w0 w) (hs : RqIn b w0.heap.size s w) (hv : kpv.R 78 w w0.heap.size (fun _ => True) v ps) :
    Calls Try.prog 50 #[.slice A l.length c, v] w fun e w' => TPost (RqIn b w0.heap.size) w0 v ps l (takeG updQ ps s l) e w' :=
  take_calls (RqIn b w0.heap.size) updQ ps w0 l A c s w v (fun _ _ _ => rq_below) (fun s w p x u hp hof _ hI hx => rq_upd (hps p hp) hof hI hx) (fun p hp => part_ok (hps p hp) hbb) hl4 hr hc hb hl hB hs hv
/-- What msg.Asked answers. -/
def askedF (b : Nat) (l : List Int) : Rq × Int :=
  match takeG updQ (begunV b zeroQ) zeroQ l with
  | none => (zeroQ, 5)
  | some (q, r) => if ¬ (1 ≤ q.kind ∧ q.kind ≤ 10) then (zeroQ, 3) else
    match takeG updQ (partsV b q) q r with
    | none => (zeroQ, 5)
    | some (q2, r2) => if 0 < r2.length then (zeroQ, 4) else if allG 0 (partsV b q2) ≠ 0 then (zeroQ, 4) else (q2, 0)
/-- What Asked leaves. -/
inductive APost (w : World) (out : Rq × Int) (e : Ending) (w' : World) : Prop
  | mk (A : Option Addr) (c : Nat) (he : e = .returned (.tuple #[.agg (out.1.at A c).cells, .int .i64 out.2])) (hc : out.1.data.length ≤ c) (hr : Kd.C (Kd.int .u8) w' A out.1.data.length out.1.data) (hb : Below w.heap.size w w')
theorem APost.zero {w : World} {n : Int} {w' : World} (hb : Below w.heap.size w w') : APost w (zeroQ, n) (.returned (.tuple #[.agg #[.int .i64 0, .int .i64 0, .string ⟨#[]⟩, .string ⟨#[]⟩, .int .i64 0, .int .i64 0, .int .i64 0, .int .i64 0, .slice none 0 0], .int .i64 n])) w' :=
  .mk none 0 rfl (Nat.le_refl _) ⟨rfl, by simp [zeroQ], fun h => absurd h (Nat.lt_irrefl 0)⟩ hb
end Go.Proofs.Ytkghoodhgihokaa.Msg
