/- Messages: parts are read (msg.take). -/
import Derived.Test.YtkghoodhgihokaaXMsgP
import Derived.Test.YtkghoodhgihokaaXMsgF
namespace Go.Proofs.Ytkghoodhgihokaa.Msg
open Go.RowKit Go.Lib Go.Proofs.YtkghoodhgihokaaW.PrintWords Go.Proofs.YtkghoodhgihokaaW.PrintLast Go.Proofs.YtkghoodhgihokaaW.PrintMore
set_option linter.unusedVariables false
set_option linter.unusedSimpArgs false
theorem get_calls (p : Pv) (hw : p.wok) (g o : Nat) (hp : p.addr = ⟨g, o, none⟩) (cells : Array Value) (ty : TypeId) (A : Option Addr) (c : Nat) (l : List Int) (w0 w : World) (hB0 : Below w0.heap.size w0 w) (hr : Kd.C (Kd.int .u8) w0 A l.length l) (hc : l.length ≤ c) (hb : ∀ x ∈ l, 0 ≤ x ∧ x ≤ 255) (hl : l.length ≤ 140737488351232) (hg : w.heap[g]? = some (.cells cells ty (0, 0))) (ho : o < cells.size) :
    Calls Try.prog 57 #[p.val, .slice A l.length c] w fun e w' => GPost w0 w ⟨g, o, none⟩ (getG p l) e w' := by
  cases p with
  | num wd a n =>
    have ha : a = ⟨g, o, none⟩ := hp
    subst ha
    exact get_num wd hw n w0 g o cells ty A c l w hB0 hr hc hb hl hg ho
  | text a s =>
    have ha : a = ⟨g, o, none⟩ := hp
    subst ha
    exact get_text s w0 g o cells ty A c l w hB0 hr hc hb hl hg ho
  | data a A0 l0 c0 =>
    have ha : a = ⟨g, o, none⟩ := hp
    subst ha
    exact get_data A0 l0 c0 w0 g o cells ty A c l w hB0 hr hc hb hl hg ho
/-- What is read is of the part's kind. -/
def GV.of (p : Pv) (x : GV) : Prop := match p with | .num _ _ _ => ∃ n, x = .num n | .text _ _ => ∃ s, x = .text s | .data _ _ _ _ => ∃ l, x = .data l
/-- What parts read of bytes, one behind the other. -/
def takeG {σ : Type} (upd : σ → Pv → GV → σ) : List Pv → σ → List Int → Option (σ × List Int)
  | [], s, l => some (s, l)
  | p :: t, s, l => match getG p l with
    | none => none
    | some (x, r) => takeG upd t (upd s p x) r
@[simp] theorem takeG_nil {σ : Type} (upd : σ → Pv → GV → σ) (s : σ) (l : List Int) : takeG upd [] s l = some (s, l) := rfl
theorem takeG_no {σ : Type} {upd : σ → Pv → GV → σ} {p : Pv} {t : List Pv} {s : σ} {l : List Int} (h : getG p l = none) : takeG upd (p :: t) s l = none := by
  rw [takeG, h]
theorem takeG_yes {σ : Type} {upd : σ → Pv → GV → σ} {p : Pv} {t : List Pv} {s : σ} {l r : List Int} {x : GV} (h : getG p l = some (x, r)) : takeG upd (p :: t) s l = takeG upd t (upd s p x) r := by
  rw [takeG, h]
theorem getG_part {p : Pv} {l r : List Int} {x : GV} (h : getG p l = some (x, r)) : r.length ≤ l.length ∧ ((∀ y ∈ l, 0 ≤ y ∧ y ≤ 255) → ∀ y ∈ r, 0 ≤ y ∧ y ≤ 255) ∧ x.of p := by
  cases p with
  | num wd a n =>
    have h : (if l.length < wd then none else some (GV.num (valN (l.take wd)), l.drop wd)) = some (x, r) := h
    by_cases h1 : l.length < wd
    · rw [if_pos h1] at h; cases h
    · rw [if_neg h1] at h; cases h; exact ⟨by rw [List.length_drop]; omega, fun hb => bytes_drop hb _, ⟨_, rfl⟩⟩
  | text a s =>
    have h : (if l.length < 2 then none else if (l.drop 2).length < valN (l.take 2) then none else some (GV.text (strOfNums ((l.drop 2).take (valN (l.take 2)))), (l.drop 2).drop (valN (l.take 2)))) = some (x, r) := h
    by_cases h1 : l.length < 2
    · rw [if_pos h1] at h; cases h
    rw [if_neg h1] at h
    by_cases h2 : (l.drop 2).length < valN (l.take 2)
    · rw [if_pos h2] at h; cases h
    · rw [if_neg h2] at h; cases h; exact ⟨by rw [List.length_drop, List.length_drop]; omega, fun hb => bytes_drop (bytes_drop hb _) _, ⟨_, rfl⟩⟩
  | data a A0 l0 c0 =>
    have h : (if l.length < 2 then none else if (l.drop 2).length < valN (l.take 2) then none else some (GV.data ((l.drop 2).take (valN (l.take 2))), (l.drop 2).drop (valN (l.take 2)))) = some (x, r) := h
    by_cases h1 : l.length < 2
    · rw [if_pos h1] at h; cases h
    rw [if_neg h1] at h
    by_cases h2 : (l.drop 2).length < valN (l.take 2)
    · rw [if_pos h2] at h; cases h
    · rw [if_neg h2] at h; cases h; exact ⟨by rw [List.length_drop, List.length_drop]; omega, fun hb => bytes_drop (bytes_drop hb _) _, ⟨_, rfl⟩⟩
/-- What take leaves. -/
inductive TPost {σ : Type} (I : σ → World → Prop) (w0 : World) (v : Value) (ps : List Pv) (l : List Int) (out : Option (σ × List Int)) (e : Ending) (w' : World) : Prop
  | no (s : σ) (h : out = none) (he : e = .returned (.tuple #[.slice none 0 0, .bool false])) (hi : I s w') (hb : Below w0.heap.size w0 w')
  | yes (s : σ) (r : List Int) (A : Option Addr) (c : Nat) (h : out = some (s, r)) (he : e = .returned (.tuple #[.slice A r.length c, .bool true])) (hc : r.length ≤ c) (hr : Kd.C (Kd.int .u8) w0 A r.length r) (hrl : r.length ≤ l.length) (hrb : ∀ x ∈ r, 0 ≤ x ∧ x ≤ 255) (hi : I s w') (hb : Below w0.heap.size w0 w') (hv : kpv.R 78 w' w0.heap.size (fun _ => True) v ps)
theorem left_step {σ : Type} {I : σ → World → Prop} {upd : σ → Pv → GV → σ} {ps : List Pv} {w0 : World} {t : σ} {w w' : World} {v : Value} {p : Pv} {x : GV} (hL : Left w ⟨p.addr.block, p.addr.off, none⟩ x w')
    (hI : ∀ s w w', I s w → Below w.heap.size w w' → I s w')
    (hU : ∀ s w p x u, p ∈ ps → x.of p → w0.heap.size ≤ w.heap.size → I s w → x.is w w0.heap.size u → I (upd s p x) (w.setCell p.addr u))
    (hP : p.wok ∧ w0.heap.size ≤ p.addr.block ∧ p.addr = ⟨p.addr.block, p.addr.off, none⟩ ∧ ∀ s w, I s w → ∃ cells ty, w.heap[p.addr.block]? = some (.cells cells ty (0, 0)) ∧ p.addr.off < cells.size ∧ ty ≠ 78)
    (hp : p ∈ ps) (hof : x.of p) (hB : Below w0.heap.size w0 w) (hs : I t w) (hv : kpv.R 78 w w0.heap.size (fun _ => True) v ps) : I (upd t p x) w' ∧ Below w0.heap.size w0 w' ∧ kpv.R 78 w' w0.heap.size (fun _ => True) v ps := by
  obtain ⟨wm, u, hb, hx, rfl⟩ := hL
  obtain ⟨hwk, hge, had, hcl⟩ := hP
  have hBm := hB.trans (hb.mono hB.size)
  have hIm := hI _ _ _ hs hb
  obtain ⟨cells, ty, hg, ho, hne⟩ := hcl t wm hIm
  have hx2 : x.is wm w0.heap.size u := by
    cases x with
    | num n => exact hx
    | text s => exact hx
    | data d => exact Kd.R_lower hx hB.size
  refine ⟨?_, hBm.setCell (p := ⟨p.addr.block, p.addr.off, none⟩) hge u, Kd.R_set (Kd.R_below hv hb) hg (fun q hq => ?_) p.addr.off u⟩
  · have h := hU t wm p x u hp hof hBm.size hIm hx2
    rw [had] at h
    exact h
  · rcases List.mem_cons.1 hq with rfl | hq
    · exact fun e => hne e.symm
    · cases hq
set_option maxHeartbeats 8000000 in
set_option maxRecDepth 100000 in
theorem take_calls {σ : Type} (I : σ → World → Prop) (upd : σ → Pv → GV → σ) (ps : List Pv) (w0 : World) (l : List Int) (A : Option Addr) (c : Nat) (s : σ) (w : World) (v : Value)
    (hI : ∀ s w w', I s w → Below w.heap.size w w' → I s w')
    (hU : ∀ s w p x u, p ∈ ps → x.of p → w0.heap.size ≤ w.heap.size → I s w → x.is w w0.heap.size u → I (upd s p x) (w.setCell p.addr u))
    (hP : ∀ p ∈ ps, p.wok ∧ w0.heap.size ≤ p.addr.block ∧ p.addr = ⟨p.addr.block, p.addr.off, none⟩ ∧ ∀ s w, I s w → ∃ cells ty, w.heap[p.addr.block]? = some (.cells cells ty (0, 0)) ∧ p.addr.off < cells.size ∧ ty ≠ 78)
    (hl4 : ps.length ≤ 1000) (hr : Kd.C (Kd.int .u8) w0 A l.length l) (hc : l.length ≤ c) (hb : ∀ x ∈ l, 0 ≤ x ∧ x ≤ 255) (hl : l.length ≤ 140737488351232) (hB : Below w0.heap.size w0 w) (hs : I s w) (hv : kpv.R 78 w w0.heap.size (fun _ => True) v ps) :
    Calls Try.prog 50 #[.slice A l.length c, v] w fun e w' => TPost I w0 v ps l (takeG upd ps s l) e w' := by
  obtain ⟨Av, cv, hve⟩ := Kd.R_slice hv
  subst hve
  have HV := Aside0.mk hv
  have HI := Aside0.mk hI
  have HU := Aside0.mk hU
  have HP := Aside0.mk hP
  have HR := Aside0.mk hr
  have HC := Aside0.mk hc
  have HBY := Aside0.mk hb
  have HL := Aside0.mk hl
  have HB := Aside0.mk hB
  have HS := Aside0.mk hs
  clear hv hI hU hP hr hc hb hl hB hs
  go_enter Try.func50, Try.ntmps50
  go_wp2
  go_loopg [0, 12] ps.length (fun g s0 s12 wx => ∃ (i : Nat) (A1 : Option Addr) (c1 : Nat) (l1 : List Int) (t : σ), i + g = ps.length ∧ s12 = .int .i64 (i : Int) ∧ s0 = .slice A1 l1.length c1 ∧ Aside0 (l1.length ≤ c1 ∧ l1.length ≤ l.length ∧ (∀ x ∈ l1, 0 ≤ x ∧ x ≤ 255) ∧ Kd.C (Kd.int .u8) w0 A1 l1.length l1) ∧ Aside0 (takeG upd ps s l = takeG upd (ps.drop i) t l1) ∧ Aside0 (I t wx) ∧ Aside0 (Below w0.heap.size w0 wx) ∧ Aside0 (kpv.R 78 wx w0.heap.size (fun _ => True) (.slice Av ps.length cv) ps))
  case atStart => exact ⟨0, A, c, l, s, by omega, rfl, rfl, ⟨HC.out, Nat.le_refl _, HBY.out, HR.out⟩, ⟨rfl⟩, HS, HB, HV⟩
  case round =>
    obtain ⟨i, A1, c1, l1, t, hig, rfl, rfl, HL1, HT, HIt, HBx, HVx⟩ := hrel
    have HIG := Aside0.mk hig
    cases gk with
    | zero =>
      obtain rfl : i = ps.length := by omega
      have d1 : decide (((ps.length : Nat) : Int) < ((ps.length : Nat) : Int)) = false := decide_eq_false (by omega)
      have ht := HT.out
      rw [List.drop_length] at ht
      have HT2 := Aside0.mk (show takeG upd ps s l = some (t, l1) from ht)
      clear ht HT
      go_wp2
      go_ret2
      exact .yes t l1 A1 c1 HT2.out rfl HL1.out.1 HL1.out.2.2.2 HL1.out.2.1 HL1.out.2.2.1 HIt.out HBx.out HVx.out
    | succ g =>
      have hi : i < ps.length := by omega
      have d1 : decide ((i : Int) < (ps.length : Int)) = true := decide_eq_true (by omega)
      have d1n : decide (i < ps.length) = true := decide_eq_true hi
      have i0 : (0 : Int) ≤ (i : Int) := by omega
      have i1 : (i : Int) < (ps.length : Int) := by omega
      obtain ⟨g0, cap, hvf, _, _, _⟩ := Kd.R_form HVx.out (by omega)
      injection hvf with hv1 hv2 hv3
      subst hv1
      subst hv3
      have hrg := kpv_at HVx.out hi
      have hpm := List.getElem_mem hi
      have hdr : ps.drop i = ps[i] :: ps.drop (i + 1) := List.drop_eq_getElem_cons hi
      obtain ⟨p, hpp⟩ : ∃ p, ps[i] = p := ⟨_, rfl⟩
      rw [hpp] at hrg hpm hdr
      clear hpp
      have ht := HT.out
      rw [hdr] at ht
      have HT2 := Aside0.mk ht
      have HPM := Aside0.mk hpm
      obtain ⟨x0, x1, x2, x3, hx⟩ : ∃ x0 x1 x2 x3, p.cells = [x0, x1, x2, x3] ∧ (∃ z, x0 = .int .i64 z) ∧ (∃ y, x1 = .pointer y) ∧ (∃ y, x2 = .pointer y) ∧ (∃ y, x3 = .pointer y) := by
        cases p <;> exact ⟨_, _, _, _, rfl, ⟨_, rfl⟩, ⟨_, rfl⟩, ⟨_, rfl⟩, ⟨_, rfl⟩⟩
      obtain ⟨hx, ⟨z0, rfl⟩, ⟨z1, rfl⟩, ⟨z2, rfl⟩, ⟨z3, rfl⟩⟩ := hx
      have hval : p.val = .agg #[.int .i64 z0, .pointer z1, .pointer z2, .pointer z3] := by unfold Pv.val; rw [hx]
      rw [hx] at hrg
      have HCALL := Aside0.mk fun (W : World) (hB1 : Below w0.heap.size w0 W) (hI1 : I t W) => by
        obtain ⟨hwk, hge, had, hcl⟩ := HP.out p HPM.out
        obtain ⟨cells, ty, hg, ho, hne⟩ := hcl t W hI1
        exact get_calls p hwk p.addr.block p.addr.off had cells ty A1 c1 l1 w0 W hB1 HL1.out.2.2.2 HL1.out.1 HL1.out.2.2.1 (by have := HL1.out.2.1; have := HL.out; omega) hg ho
      rw [hval] at HCALL
      clear hval hx hpm hdr ht HT
      cases hG : getG p l1 with
      | none =>
        rw [hG] at HCALL
        have HNO := Aside0.mk (HT2.out.trans (takeG_no hG))
        clear hG
        go_wp2_with (first | (refine wpList_load_mid rfl 78 (.tmp 14) rfl g0 (i * 4) ?hx78 _ _ hrg Try.underlying78 rfl (by kernel_rfl) ?_) | (go_at_call 57; refine (HCALL.out _ (HBx.out.alloc HBx.out.size _) (HI.out _ _ _ HIt.out ((Below.refl _ _).alloc (Nat.le_refl _) _))).mono ?_; rintro e w3 hpost; have hpost := no_of hpost; obtain ⟨rfl, hb3⟩ := hpost; have HB3 := Aside0.mk ((HBx.out.alloc HBx.out.size _).trans (hb3.mono (HBx.out.alloc HBx.out.size _).size)); have HI3 := Aside0.mk (HI.out _ _ _ (HI.out _ _ _ HIt.out ((Below.refl _ _).alloc (Nat.le_refl _) _)) hb3); clear hb3))
        go_ret2
        exact .no t HNO.out rfl HI3.out HB3.out
      | some xr =>
        obtain ⟨x, r⟩ := xr
        rw [hG] at HCALL
        have HYES := Aside0.mk (HT2.out.trans (takeG_yes hG))
        have HPT := Aside0.mk (getG_part hG)
        clear hG
        go_wp2_with (first | (refine wpList_load_mid rfl 78 (.tmp 14) rfl g0 (i * 4) ?hx78 _ _ hrg Try.underlying78 rfl (by kernel_rfl) ?_) | (go_at_call 57; refine (HCALL.out _ (HBx.out.alloc HBx.out.size _) (HI.out _ _ _ HIt.out ((Below.refl _ _).alloc (Nat.le_refl _) _))).mono ?_; rintro e w3 hpost; obtain ⟨A3, c3, rfl, hc3, hr3, hpost⟩ := yes_of hpost; have HL3 := Aside0.mk (show r.length ≤ c3 ∧ r.length ≤ l.length ∧ (∀ y ∈ r, 0 ≤ y ∧ y ≤ 255) ∧ Kd.C (Kd.int .u8) w0 A3 r.length r from ⟨hc3, Nat.le_trans HPT.out.1 HL1.out.2.1, HPT.out.2.1 HL1.out.2.2.1, hr3⟩); have HQ3 := Aside0.mk (left_step hpost HI.out HU.out (HP.out p HPM.out) HPM.out HPT.out.2.2 (HBx.out.alloc HBx.out.size _) (HI.out _ _ _ HIt.out ((Below.refl _ _).alloc (Nat.le_refl _) _)) (Kd.R_alloc HVx.out _)); clear hpost hr3 hc3))
        go_roundg g
        case measure => omega
        case rel => exact ⟨i + 1, A3, c3, r, _, by have := HIG.out; omega, by rfl, rfl, HL3, HYES, ⟨HQ3.out.1⟩, ⟨HQ3.out.2.1⟩, ⟨HQ3.out.2.2⟩⟩
end Go.Proofs.Ytkghoodhgihokaa.Msg
