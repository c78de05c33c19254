/- Messages: packthreadref.MsgAsked. -/
import Derived.Test.YtkghoodhgihokaaXMsgP
namespace Go.Proofs.Ytkghoodhgihokaa.Msg
open Go.RowKit Go.Lib Go.Proofs.YtkghoodhgihokaaW.PrintWords Go.Proofs.YtkghoodhgihokaaW.PrintLast Go.Proofs.YtkghoodhgihokaaW.PrintMore
set_option linter.unusedVariables false
set_option linter.unusedSimpArgs false
/-- A reader that reads a number of so many bytes: the number, what is left, was it short? -/
def readN (wd : Nat) (l : List Int) (sh : Bool) : Int × List Int × Bool := if l.length < wd then (0, [], true) else (((valN (l.take wd) : Nat) : Int), l.drop wd, sh)
/-- A reader that reads a text. -/
def readT (l : List Int) (sh : Bool) : ByteArray × List Int × Bool :=
  if (readN 2 l sh).2.1.length < (readN 2 l sh).1.toNat then (⟨#[]⟩, [], true) else (strOfNums ((readN 2 l sh).2.1.take (readN 2 l sh).1.toNat), (readN 2 l sh).2.1.drop (readN 2 l sh).1.toNat, (readN 2 l sh).2.2)
/-- A reader in memory. -/
inductive Rdr (w0 : World) (g : Nat) (l : List Int) (sh : Bool) (w : World) : Prop
  | mk (A : Option Addr) (c : Nat) (hg : w.heap[g]? = some (.cells #[.slice A l.length c, .bool sh] 88 (0, 0))) (hc : l.length ≤ c) (hr : Kd.C (Kd.int .u8) w0 A l.length l) (hb : ∀ x ∈ l, 0 ≤ x ∧ x ≤ 255) (hl : l.length ≤ 140737488351232)
/-- What a reading leaves. -/
inductive NPost (w0 w : World) (g : Nat) (v : Value) (l : List Int) (sh : Bool) (e : Ending) (w' : World) : Prop
  | mk (he : e = .returned v) (hr : Rdr w0 g l sh w') (hb : Below w0.heap.size w0 w') (hk : Kept w w' (fun k => k = g))
theorem rdr_nil {w0 w : World} {g : Nat} {sh : Bool} (h : w.heap[g]? = some (.cells #[.slice none 0 0, .bool sh] 88 (0, 0))) : Rdr w0 g [] sh w := .mk none 0 h (Nat.le_refl _) ⟨rfl, by simp, fun h => absurd h (Nat.lt_irrefl 0)⟩ (fun _ h => by cases h) (by simp)
theorem two_set {w : World} {g : Nat} {a b : Value} (h : w.heap[g]? = some (.cells #[a, b] 88 (0, 0))) (u v : Value) : ((w.setCell ⟨g, 1, none⟩ u).setCell ⟨g, 0, none⟩ v).heap[g]? = some (.cells #[v, u] 88 (0, 0)) := by
  have h0 := blk_set h 1 u
  have h1 := blk_set h0 0 v
  simpa using h1
set_option maxHeartbeats 8000000 in
set_option maxRecDepth 100000 in
theorem num_calls (wd : Nat) (hw : wd = 1 ∨ wd = 2 ∨ wd = 4) (w0 : World) (g : Nat) (l : List Int) (sh : Bool) (w : World) (hB : Below w0.heap.size w0 w) (hge : w0.heap.size ≤ g) (h : Rdr w0 g l sh w) :
    Calls Try.prog 51 #[.pointer (some ⟨g, 0, none⟩), .int .i64 (wd : Int)] w fun e w' => NPost w0 w g (.int .i64 (readN wd l sh).1) (readN wd l sh).2.1 (readN wd l sh).2.2 e w' := by
  obtain ⟨A, c, hg, hc, hr, hb, hl⟩ := h
  have HB := Aside0.mk hB
  have HG := Aside0.mk hg
  have HGE := Aside0.mk hge
  have HR := Aside0.mk hr
  have HC := Aside0.mk hc
  have HBY := Aside0.mk hb
  have HL := Aside0.mk hl
  have hz0 := (blk_cell hg 0).trans rfl
  have hz1 := (blk_cell hg 1).trans rfl
  have hf0 := blk_frozen hg 0
  have hf1 := blk_frozen hg 1
  by_cases hlt : l.length < wd
  · have d1 : decide ((l.length : Int) < (wd : Int)) = true := decide_eq_true (by omega)
    have d1n : decide (l.length < wd) = true := decide_eq_true hlt
    have HRN := Aside0.mk (show readN wd l sh = (0, [], true) by unfold readN; rw [if_pos hlt])
    clear hB hg hge hr hc hb hl hlt hw
    go_enter Try.func51, Try.ntmps51
    go_wp2
    go_ret
    rw [HRN.out]
    exact .mk rfl (rdr_nil (two_set HG.out _ _)) ((HB.out.setCell (p := ⟨g, 1, none⟩) HGE.out _).setCell (p := ⟨g, 0, none⟩) HGE.out _) (((Kept.refl w (fun k => k = g)).setCell (p := ⟨g, 1, none⟩) (.inl rfl) _).setCell (p := ⟨g, 0, none⟩) (.inl rfl) _)
  · have d1 : decide ((l.length : Int) < (wd : Int)) = false := decide_eq_false (by omega)
    have d1n : decide (l.length < wd) = false := decide_eq_false hlt
    have HRN := Aside0.mk (show readN wd l sh = (((valN (l.take wd) : Nat) : Int), l.drop wd, sh) by unfold readN; rw [if_neg hlt])
    obtain ⟨i5, hi5, hsz5⟩ := info5g
    have hf_ := cut_from (P := Try.prog) 27 5 .i64 Try.underlying27 hi5 1 hsz5 A l.length c (wd : Int) (by omega) (by omega)
    have hCF := Kd.C_drop (m := wd) (c := c) hr (by omega) hc
    rw [show (Kd.int .u8).sz = 1 from rfl] at hCF
    rw [Int.toNat_natCast] at hf_
    have hld_ : (l.drop wd).length = l.length - wd := List.length_drop
    obtain ⟨A2, hA2⟩ : ∃ Aq, (if c = wd then A else A.map (·.add (wd * 1))) = Aq := ⟨_, rfl⟩
    obtain ⟨c2, hc2⟩ : ∃ cq : Nat, c - wd = cq := ⟨_, rfl⟩
    obtain ⟨l2, hl2⟩ : ∃ lq, l.drop wd = lq := ⟨_, rfl⟩
    have hbd_ := bytes_drop hb wd
    rw [hA2] at hf_ hCF
    rw [hl2] at hCF hld_ hbd_ HRN
    rw [hc2] at hf_
    have hcut : ∀ W : World, (Instr.slice 27 (.slice A l.length c) (some (.int .i64 (wd : Int))) none none).run Try.prog W = .ok (.slice A2 l2.length c2) W := fun W => by rw [hld_]; exact hf_ W
    have HRD := Aside0.mk (show ∀ W : World, W.heap[g]? = some (.cells #[.slice A2 l2.length c2, .bool sh] 88 (0, 0)) → Rdr w0 g l2 sh W from fun W h => .mk A2 c2 h (by omega) hCF hbd_ (by omega))
    have HWD := Aside0.mk (show wd ≤ l.length ∧ wd ≤ 4 by omega)
    clear hB hg hge hr hc hb hl hlt hw hf_ hCF hld_ hbd_ hA2 hc2 hl2 hi5 hsz5 i5
    go_enter Try.func51, Try.ntmps51
    go_wp2
    go_loopg [5, 6] wd (fun gk s5 s6 wx => ∃ i : Nat, i + gk = wd ∧ s6 = .int .i64 (i : Int) ∧ s5 = .int .i64 ((valN (l.take i) : Nat) : Int) ∧ wx = w)
    case atStart => exact ⟨0, by omega, rfl, rfl, rfl⟩
    case round =>
      obtain ⟨i, hig, rfl, rfl, rfl⟩ := hrel
      cases gk with
      | zero =>
        obtain rfl : i = wd := by omega
        have e1 : decide (((i : Nat) : Int) < ((i : Nat) : Int)) = false := decide_eq_false (by omega)
        go_wp2
        go_ret
        rw [HRN.out]
        exact .mk rfl (HRD.out _ (by simpa using blk_set HG.out 0 (.slice A2 l2.length c2))) (HB.out.setCell (p := ⟨g, 0, none⟩) HGE.out _) ((Kept.refl _ (fun k => k = g)).setCell (p := ⟨g, 0, none⟩) (.inl rfl) _)
      | succ gk =>
        have hi : i < wd := by omega
        have hil : i < l.length := by have := HWD.out; omega
        have e1 : decide ((i : Int) < (wd : Int)) = true := decide_eq_true (by omega)
        have e1n : decide (i < wd) = true := decide_eq_true hi
        have p1 : (0 : Int) ≤ (i : Int) := by omega
        have q1 : (i : Int) < (l.length : Int) := by omega
        obtain ⟨ad, rfl, hc0⟩ := Kd.at_int (Kd.C_below HR.out HB.out) (i : Int) p1 q1
        rw [Int.toNat_natCast] at hc0
        have hrd : rd l (i : Int) = l[i] := by simp [rd, List.getD_eq_getElem?_getD, List.getElem?_eq_getElem hil]
        have hx := HBY.out _ (List.getElem_mem hil)
        have hst := valN_step l i hil
        have hv := valN_bd l HBY.out i (by have := HWD.out; omega) (by omega)
        have hv2 : valN (l.take i) < 16777216 := Nat.lt_of_lt_of_le hv (by have := Nat.pow_le_pow_right (n := 256) (by decide) (show i ≤ 3 by have := HWD.out; omega); omega)
        obtain ⟨x, hxx⟩ : ∃ x, l[i] = x := ⟨_, rfl⟩
        obtain ⟨n, hn⟩ : ∃ n, valN (l.take i) = n := ⟨_, rfl⟩
        obtain ⟨m, hm⟩ : ∃ m, valN (l.take (i + 1)) = m := ⟨_, rfl⟩
        rw [hrd, hxx] at hc0
        rw [hxx] at hx hst
        rw [hn] at hst hv2 ⊢
        rw [hm] at hst
        have hi4 : i ≤ 4 := by have := HWD.out; omega
        clear hv
        have hw1 : wrap64 ((n : Int) * 256) = (n : Int) * 256 := by unfold wrap64; omega
        have hw1' : wrap64 (256 * (n : Int)) = (n : Int) * 256 := by unfold wrap64; omega
        have hw2 : wrap64 x = x := by unfold wrap64; omega
        have hw3 : wrap64 ((n : Int) * 256 + x) = (m : Int) := by unfold wrap64; omega
        have hw4 : wrap64 ((i : Int) + 1) = ((i + 1 : Nat) : Int) := by unfold wrap64; omega
        have HM := Aside0.mk hm
        have HIG := Aside0.mk hig
        replace p1 := eq_true p1
        replace q1 := eq_true q1
        clear hrd hx hst hv2 hxx hn hm hig hi hil hi4
        go_wp2
        go_roundg gk
        case measure => omega
        case rel => exact ⟨i + 1, by have := HIG.out; omega, by rw [hw4], by rw [hw3, HM.out], rfl⟩
theorem readN_bd (l : List Int) (sh : Bool) : ∃ n : Nat, (readN 2 l sh).1 = (n : Int) := by
  unfold readN
  by_cases h : l.length < 2
  · rw [if_pos h]; exact ⟨0, rfl⟩
  · rw [if_neg h]; exact ⟨_, rfl⟩
set_option maxHeartbeats 8000000 in
set_option maxRecDepth 100000 in
theorem rtext_calls (w0 : World) (g : Nat) (l : List Int) (sh : Bool) (w : World) (hB : Below w0.heap.size w0 w) (hge : w0.heap.size ≤ g) (h : Rdr w0 g l sh w) :
    Calls Try.prog 52 #[.pointer (some ⟨g, 0, none⟩)] w fun e w' => NPost w0 w g (.string (readT l sh).1) (readT l sh).2.1 (readT l sh).2.2 e w' := by
  have HN := Aside0.mk (num_calls 2 (by omega) w0 g l sh w hB hge h)
  have hRT : readT l sh = if (readN 2 l sh).2.1.length < (readN 2 l sh).1.toNat then (⟨#[]⟩, [], true) else (strOfNums ((readN 2 l sh).2.1.take (readN 2 l sh).1.toNat), (readN 2 l sh).2.1.drop (readN 2 l sh).1.toNat, (readN 2 l sh).2.2) := rfl
  obtain ⟨n, hn⟩ := readN_bd l sh
  obtain ⟨l1, hl1⟩ : ∃ x, (readN 2 l sh).2.1 = x := ⟨_, rfl⟩
  obtain ⟨s1, hs1⟩ : ∃ x, (readN 2 l sh).2.2 = x := ⟨_, rfl⟩
  rw [hn, hl1, hs1] at HN
  rw [hn, hl1, hs1, Int.toNat_natCast] at hRT
  have HGE := Aside0.mk hge
  clear hn hl1 hs1 hB hge h
  by_cases hlt : l1.length < n
  · have d1 : decide ((l1.length : Int) < (n : Int)) = true := decide_eq_true (by omega)
    have d1n : decide (l1.length < n) = true := decide_eq_true hlt
    have HRT := Aside0.mk (hRT.trans (if_pos hlt))
    clear hRT hlt
    go_enter Try.func52, Try.ntmps52
    go_wp2_with (go_at_call 51; refine HN.out.mono ?_; rintro e w1 hp; obtain ⟨rfl, ⟨A, c, hg, hc, hr, hb, hl⟩, hb1, hk1⟩ := hp; have HG := Aside0.mk hg; have HB1 := Aside0.mk hb1; have HK1 := Aside0.mk hk1; have hz0 := (blk_cell hg 0).trans rfl; have hz1 := (blk_cell hg 1).trans rfl; have hf0 := blk_frozen hg 0; have hf1 := blk_frozen hg 1; clear hg hc hr hb hl hb1 hk1)
    go_ret
    rw [HRT.out]
    exact .mk rfl (rdr_nil (two_set HG.out _ _)) ((HB1.out.setCell (p := ⟨g, 1, none⟩) HGE.out _).setCell (p := ⟨g, 0, none⟩) HGE.out _) ((HK1.out.setCell (p := ⟨g, 1, none⟩) (.inl rfl) _).setCell (p := ⟨g, 0, none⟩) (.inl rfl) _)
  · have d1 : decide ((l1.length : Int) < (n : Int)) = false := decide_eq_false (by omega)
    have d1n : decide (l1.length < n) = false := decide_eq_false hlt
    have HRT := Aside0.mk (hRT.trans (if_neg hlt))
    have HLT := Aside0.mk hlt
    clear hRT hlt
    go_enter Try.func52, Try.ntmps52
    go_upto_region 2 with (go_at_call 51; refine HN.out.mono ?_; rintro e w1 hp; obtain ⟨rfl, ⟨A, c, hg, hc, hr, hb, hl⟩, hb1, hk1⟩ := hp; have HG := Aside0.mk hg; have HB1 := Aside0.mk hb1; have HK1 := Aside0.mk hk1; have hz0 := (blk_cell hg 0).trans rfl; have hz1 := (blk_cell hg 1).trans rfl; have hf0 := blk_frozen hg 0; have hf1 := blk_frozen hg 1; have HC := Aside0.mk hc; have HR := Aside0.mk hr; have HBY := Aside0.mk hb; have HL := Aside0.mk hl; clear hg hc hr hb hl hb1 hk1)
    have hlt := HLT.out
    have hc := HC.out
    obtain ⟨i5, hi5, hsz5⟩ := info5g
    have ht_ := cut_to (P := Try.prog) 27 5 .i64 Try.underlying27 hi5 A l1.length c (n : Int) (by omega) (by omega) hc
    have hf_ := cut_from (P := Try.prog) 27 5 .i64 Try.underlying27 hi5 1 hsz5 A l1.length c (n : Int) (by omega) (by omega)
    have hCT := Kd.C_take (m := n) HR.out (by omega)
    have hCF := Kd.C_drop (m := n) (c := c) HR.out (by omega) hc
    rw [show (Kd.int .u8).sz = 1 from rfl] at hCF
    rw [Int.toNat_natCast] at ht_ hf_
    have hlt_ : (l1.take n).length = n := by rw [List.length_take]; omega
    have hld_ : (l1.drop n).length = l1.length - n := List.length_drop
    have hbd_ := bytes_drop HBY.out n
    obtain ⟨A2, hA2⟩ : ∃ Aq, (if c = n then A else A.map (·.add (n * 1))) = Aq := ⟨_, rfl⟩
    obtain ⟨c2, hc2⟩ : ∃ cq : Nat, c - n = cq := ⟨_, rfl⟩
    obtain ⟨l3, hl3⟩ : ∃ lq, l1.take n = lq := ⟨_, rfl⟩
    obtain ⟨l2, hl2⟩ : ∃ lq, l1.drop n = lq := ⟨_, rfl⟩
    rw [hA2] at hf_ hCF
    rw [hl2] at hCF hld_ hbd_ HRT
    rw [hl3] at hCT hlt_ HRT
    rw [hc2] at hf_
    have htc : ∀ W : World, (Instr.slice 27 (.slice A l1.length c) none (some (.int .i64 (n : Int))) none).run Try.prog W = .ok (.slice A l3.length c) W := fun W => by rw [hlt_]; exact ht_ W
    have hcut : ∀ W : World, (Instr.slice 27 (.slice A l1.length c) (some (.int .i64 (n : Int))) none none).run Try.prog W = .ok (.slice A2 l2.length c2) W := fun W => by rw [hld_]; exact hf_ W
    have HRD := Aside0.mk (show ∀ W : World, W.heap[g]? = some (.cells #[.slice A2 l2.length c2, .bool s1] 88 (0, 0)) → Rdr w0 g l2 s1 W from fun W h => .mk A2 c2 h (by omega) hCF hbd_ (by have := HL.out; omega))
    have hcv := Kd.C_string (P := Try.prog) (src := 27) (dst := 9) (e := 5) (c := c) Try.underlying27 Try.underlying5 Try.underlying9 (Kd.C_below hCT HB1.out)
    clear hlt hc ht_ hf_ hCT hCF hlt_ hld_ hbd_ hA2 hc2 hl3 hl2 hi5 hsz5 i5
    go_wp2
    go_ret
    rw [HRT.out]
    exact .mk rfl (HRD.out _ (by simpa using blk_set HG.out 0 (.slice A2 l2.length c2))) (HB1.out.setCell (p := ⟨g, 0, none⟩) HGE.out _) (HK1.out.setCell (p := ⟨g, 0, none⟩) (.inl rfl) _)
end Go.Proofs.Ytkghoodhgihokaa.Msg
