/- The contracts of the functions that the law MsgAnswereds reaches: Go's code comes to what these Lean functions tell (written by a program of ours and the kit's, out of the translation). -/
import Derived.Test.YtkghoodhgihokaaXMsgAf
import Derived.Test.YtkghoodhgihokaaXMsgZ
import Derived.Test.YtkghoodhgihokaaHMsgAnsweredsx0
import Derived.Test.YtkghoodhgihokaaHMsgAnsweredsx1
namespace Go.Proofs.Ytkghoodhgihokaa.HMsgAnswereds
open Go.RowKit Go.Proofs.YtkghoodhgihokaaW.PrintWords Go.Proofs.YtkghoodhgihokaaW.PrintLast Go.Proofs.YtkghoodhgihokaaW.PrintMore
attribute [local go_sem] max2_int min2_int max_two min_two max_three min_three max_four min_four   -- for this text's walks alone
set_option linter.unusedVariables false
set_option linter.unusedSimpArgs false

/-! ### packthreadref_MsgAnswered: function 24 -/
def refAnswered.T6 : Bool × List (List Nat × List Nat) := (true, [([], []), ([0], [0]), ([], []), ([2], [2]), ([3], [3]), ([1, 4, 3], [1, 4]), ([0, 1, 2, 3, 4, 5], []), ([6, 5, 5, 0, 1, 2, 3, 4, 5], [5, 6])])
def refAnswered.B6 : List Nat := [0, 1, 0, 4, 12, 31, 63, 127]
theorem refAnswered.tab6 : rtab .any (opsOf Try.f24 6) = refAnswered.T6 := by kernel_rfl
theorem refAnswered.bits6 : waitsOk refAnswered.T6.2 refAnswered.B6 = true := by kernel_rfl
set_option maxHeartbeats 8000000 in
set_option maxRecDepth 100000 in
theorem refAnswered_calls (A : Option Addr) (c : Nat) (l : List Int) (w : World) (hr : Kd.C (Kd.int .u8) w A l.length l) (hc : l.length ≤ c) (hb : ∀ x ∈ l, 0 ≤ x ∧ x ≤ 255) (hl : l.length ≤ 140737488351232) :
    Calls Try.prog 24 #[.slice A l.length c] w fun e w' => Msg.PPost w (Msg.refAnsweredF rfaultF l) e w' := by
  have HB1 := Aside0.mk (((Below.refl _ w).alloc (Nat.le_refl _) (.cells #[.int .i64 0, .int .i64 0, .int .i64 0, .int .i64 0, .int .i64 0, .slice none 0 0, .slice none 0 0] 39)).alloc (by simp) (.cells #[.slice A l.length c, .bool false] 88))
  obtain ⟨W1, hW1⟩ : ∃ W, (w.alloc (.cells #[.int .i64 0, .int .i64 0, .int .i64 0, .int .i64 0, .int .i64 0, .slice none 0 0, .slice none 0 0] 39)).alloc (.cells #[.slice A l.length c, .bool false] 88) = W := ⟨_, rfl⟩
  have hn0 : W1.heap[w.heap.size]? = some (.cells #[.int .i64 0, .int .i64 0, .int .i64 0, .int .i64 0, .int .i64 0, .slice none 0 0, .slice none 0 0] 39 (0, 0)) := by rw [← hW1]; exact ((Below.refl _ (w.alloc (.cells #[.int .i64 0, .int .i64 0, .int .i64 0, .int .i64 0, .int .i64 0, .slice none 0 0, .slice none 0 0] 39))).alloc (Nat.le_refl _) (.cells #[.slice A l.length c, .bool false] 88)).block _ (by simp) |>.trans (heap_alloc_new w _)
  have hn1 : W1.heap[w.heap.size + 1]? = some (.cells #[.slice A l.length c, .bool false] 88 (0, 0)) := by
    rw [← hW1]
    have := heap_alloc_new (w.alloc (.cells #[.int .i64 0, .int .i64 0, .int .i64 0, .int .i64 0, .int .i64 0, .slice none 0 0, .slice none 0 0] 39)) (.cells #[.slice A l.length c, .bool false] 88)
    rw [show (w.alloc (.cells #[.int .i64 0, .int .i64 0, .int .i64 0, .int .i64 0, .int .i64 0, .slice none 0 0, .slice none 0 0] 39)).heap.size = w.heap.size + 1 by simp] at this
    exact this
  rw [hW1] at HB1
  obtain ⟨b0, hb0⟩ : ∃ b, w.heap.size = b := ⟨_, rfl⟩
  obtain ⟨g, hg⟩ : ∃ b, b0 + 1 = b := ⟨_, rfl⟩
  have HNE := Aside0.mk (show g ≠ b0 by omega)
  have HG0 := Aside0.mk (show w.heap.size ≤ b0 by omega)
  have HGE := Aside0.mk (show w.heap.size ≤ g by omega)
  rw [hb0] at hn0 hn1
  rw [hg] at hn1
  have H01 := Aside0.mk hn0
  have HR1 := Aside0.mk (show Msg.Rdr w g l false W1 from .mk A c hn1 hc hr hb hl)
  obtain ⟨m, l1, s1, e1⟩ : ∃ x y z, Msg.readN 4 l false = (x, y, z) := ⟨_, _, _, rfl⟩
  obtain ⟨cd, l2, s2, e2⟩ : ∃ x y z, Msg.readN 1 l1 s1 = (x, y, z) := ⟨_, _, _, rfl⟩
  obtain ⟨hd_, l3, s3, e3⟩ : ∃ x y z, Msg.readN 4 l2 s2 = (x, y, z) := ⟨_, _, _, rfl⟩
  obtain ⟨kd, l4, s4, e4⟩ : ∃ x y z, Msg.readN 1 l3 s3 = (x, y, z) := ⟨_, _, _, rfl⟩
  obtain ⟨sz, l5, s5, e5⟩ : ∃ x y z, Msg.readN 4 l4 s4 = (x, y, z) := ⟨_, _, _, rfl⟩
  obtain ⟨t, l6, s6, e6⟩ : ∃ x y z, Msg.readT l5 s5 = (x, y, z) := ⟨_, _, _, rfl⟩
  obtain ⟨n, l7, s7, e7⟩ : ∃ x y z, Msg.readN 1 l6 s6 = (x, y, z) := ⟨_, _, _, rfl⟩
  have HN1 := Aside0.mk (show ∀ W : World, Below w.heap.size w W → Msg.Rdr w g l false W → Calls Try.prog 51 #[.pointer (some ⟨g, 0, none⟩), .int .i64 4] W fun e w' => Msg.NPost w W g (.int .i64 m) l1 s1 e w' from fun W hB hr => by have h := Msg.num_calls 4 (by omega) w g l false W hB HGE.out hr; rw [e1] at h; exact h)
  have HN2 := Aside0.mk (show ∀ W : World, Below w.heap.size w W → Msg.Rdr w g l1 s1 W → Calls Try.prog 51 #[.pointer (some ⟨g, 0, none⟩), .int .i64 1] W fun e w' => Msg.NPost w W g (.int .i64 cd) l2 s2 e w' from fun W hB hr => by have h := Msg.num_calls 1 (by omega) w g l1 s1 W hB HGE.out hr; rw [e2] at h; exact h)
  have HN3 := Aside0.mk (show ∀ W : World, Below w.heap.size w W → Msg.Rdr w g l2 s2 W → Calls Try.prog 51 #[.pointer (some ⟨g, 0, none⟩), .int .i64 4] W fun e w' => Msg.NPost w W g (.int .i64 hd_) l3 s3 e w' from fun W hB hr => by have h := Msg.num_calls 4 (by omega) w g l2 s2 W hB HGE.out hr; rw [e3] at h; exact h)
  have HN4 := Aside0.mk (show ∀ W : World, Below w.heap.size w W → Msg.Rdr w g l3 s3 W → Calls Try.prog 51 #[.pointer (some ⟨g, 0, none⟩), .int .i64 1] W fun e w' => Msg.NPost w W g (.int .i64 kd) l4 s4 e w' from fun W hB hr => by have h := Msg.num_calls 1 (by omega) w g l3 s3 W hB HGE.out hr; rw [e4] at h; exact h)
  have HN5 := Aside0.mk (show ∀ W : World, Below w.heap.size w W → Msg.Rdr w g l4 s4 W → Calls Try.prog 51 #[.pointer (some ⟨g, 0, none⟩), .int .i64 4] W fun e w' => Msg.NPost w W g (.int .i64 sz) l5 s5 e w' from fun W hB hr => by have h := Msg.num_calls 4 (by omega) w g l4 s4 W hB HGE.out hr; rw [e5] at h; exact h)
  have HN6 := Aside0.mk (show ∀ W : World, Below w.heap.size w W → Msg.Rdr w g l5 s5 W → Calls Try.prog 52 #[.pointer (some ⟨g, 0, none⟩)] W fun e w' => Msg.NPost w W g (.string t) l6 s6 e w' from fun W hB hr => by have h := Msg.rtext_calls w g l5 s5 W hB HGE.out hr; rw [e6] at h; exact h)
  have HN7 := Aside0.mk (show ∀ W : World, Below w.heap.size w W → Msg.Rdr w g l6 s6 W → Calls Try.prog 51 #[.pointer (some ⟨g, 0, none⟩), .int .i64 1] W fun e w' => Msg.NPost w W g (.int .i64 n) l7 s7 e w' from fun W hB hr => by have h := Msg.num_calls 1 (by omega) w g l6 s6 W hB HGE.out hr; rw [e7] at h; exact h)
  obtain ⟨N, hN⟩ : ∃ N : Nat, n = (N : Int) := by
    obtain ⟨N, h⟩ := Msg.readN_nat 1 l6 s6
    rw [e7] at h
    exact ⟨N, h⟩
  subst hN
  obtain ⟨q1, hq1⟩ : ∃ q : Msg.Rp, (⟨m, cd, hd_, kd, sz, none, bytesOf t, 0, none, [], 0⟩ : Msg.Rp) = q := ⟨_, rfl⟩
  have HA := Aside0.mk (show Msg.refAnsweredF rfaultF l = Msg.refTail rfaultF q1 (N : Int) l7 s7 by unfold Msg.refAnsweredF; simp only [e1, e2, e3, e4, e5, e6, e7]; rw [hq1])
  have HQ1 := Aside0.mk hq1
  have HTS := Aside0.mk (fun (hl5 : l5.length ≤ 140737488351232) => show t.size ≤ 140737488351232 by have h := Msg.readT_size l5 s5; rw [e6] at h; exact Nat.le_trans h hl5)
  have HN255 := Aside0.mk (fun (hb6 : ∀ x ∈ l6, 0 ≤ x ∧ x ≤ 255) => show N ≤ 255 by have h := Msg.readN_one l6 s6 hb6; rw [e7] at h; have h : (N : Int) ≤ 255 := h; omega)
  clear hn0 hn1 hr hc hb hl e1 e2 e3 e4 e5 e6 e7 hq1
  go_enter Try.func24, Try.ntmps24
  go_upto_region 2 with fail
  (try rw [hW1])
  (try rw [hb0])
  (try rw [hg])
  clear hW1 hg
  go_upto_region 3 with (first | (go_at_call 51; with_reducible refine (HN1.out _ HB1.out HR1.out).mono ?_; rintro e w2 hp; obtain ⟨rfl, hr, hb, hk⟩ := hp; have HR2 := Aside0.mk hr; have HB2 := Aside0.mk hb; have H02 := Aside0.mk (blk_kept H01.out hk HNE.out.symm); clear hr hb hk) | (go_at_call 51; with_reducible refine (HN2.out _ HB2.out HR2.out).mono ?_; rintro e w3 hp; obtain ⟨rfl, hr, hb, hk⟩ := hp; have HR3 := Aside0.mk hr; have HB3 := Aside0.mk hb; have H03 := Aside0.mk (blk_kept H02.out hk HNE.out.symm); clear hr hb hk) | (go_at_call 51; with_reducible refine (HN3.out _ HB3.out HR3.out).mono ?_; rintro e w4 hp; obtain ⟨rfl, hr, hb, hk⟩ := hp; have HR4 := Aside0.mk hr; have HB4 := Aside0.mk hb; have H04 := Aside0.mk (blk_kept H03.out hk HNE.out.symm); clear hr hb hk) | (go_at_call 51; with_reducible refine (HN4.out _ HB4.out HR4.out).mono ?_; rintro e w5 hp; obtain ⟨rfl, hr, hb, hk⟩ := hp; have HR5 := Aside0.mk hr; have HB5 := Aside0.mk hb; have H05 := Aside0.mk (blk_kept H04.out hk HNE.out.symm); clear hr hb hk) | (go_at_call 51; with_reducible refine (HN5.out _ HB5.out HR5.out).mono ?_; rintro e w6 hp; obtain ⟨rfl, hr, hb, hk⟩ := hp; have HR6 := Aside0.mk hr; have HB6 := Aside0.mk hb; have H06 := Aside0.mk (blk_kept H05.out hk HNE.out.symm); clear hr hb hk) | (go_at_call 52; with_reducible refine (HN6.out _ HB6.out HR6.out).mono ?_; rintro e w7 hp; obtain ⟨rfl, hr, hb, hk⟩ := hp; have HR7 := Aside0.mk hr; have HB7 := Aside0.mk hb; have H07 := Aside0.mk (blk_kept H06.out hk HNE.out.symm); clear hr hb hk; have kb := fun W => print_bytes (P := Try.prog) 9 27 5 Try.underlying9 Try.underlying27 Try.underlying5 t W))
  have hts : t.size ≤ 140737488351232 := HTS.out (by obtain ⟨_, _, _, _, _, _, hl⟩ := HR6.out; exact hl)
  have hN255 : N ≤ 255 := HN255.out (by obtain ⟨_, _, _, _, _, hb, _⟩ := HR7.out; exact hb)
  have HL0 := Aside0.mk (show b0 < (Lib.bytesWorld w7 5 t).heap.size from Nat.lt_of_lt_of_le (Msg.blk_ltn H07.out) (bytes_below (Below.refl w7.heap.size w7) (Nat.le_refl _) 5 t).size)
  have HLG := Aside0.mk (show g < (Lib.bytesWorld w7 5 t).heap.size from Nat.lt_of_lt_of_le (by obtain ⟨_, _, h, _⟩ := HR7.out; exact Msg.blk_ltn h) (bytes_below (Below.refl w7.heap.size w7) (Nat.le_refl _) 5 t).size)
  obtain ⟨k, cs, fr, hst⟩ := Msg.NStep.start (m := m) (cd := cd) (hd := hd_) (kd := kd) (sz := sz) HR7.out H07.out HB7.out hts
  rw [HQ1.out] at hst
  obtain ⟨A6, hA6⟩ : ∃ a, (some (⟨w7.heap.size, 0, none⟩ : Addr)) = a := ⟨_, rfl⟩
  obtain ⟨c6, hc6⟩ : ∃ a, grownCap w7 t.size 0 5 = a := ⟨_, rfl⟩
  obtain ⟨W8, hW8⟩ : ∃ W, (Lib.bytesWorld w7 5 t).alloc (.cells #[.int .i64 m, .int .i64 cd, .int .i64 hd_, .int .i64 kd, .int .i64 sz, .slice (some ⟨w7.heap.size, 0, none⟩) t.size (grownCap w7 t.size 0 5), .slice none 0 0] 39) = W := ⟨_, rfl⟩
  obtain ⟨b1, hb1⟩ : ∃ b, (Lib.bytesWorld w7 5 t).heap.size = b := ⟨_, rfl⟩
  rw [hW8, hb1] at hst
  rw [hb1] at HL0 HLG
  rw [hW8, hb1]
  rw [hA6, hc6] at hst
  have HS8 := Aside0.mk hst
  have HNB := Aside0.mk hN255
  have HD := Aside0.mk (show g ≠ b1 ∧ b0 ≠ b1 ∧ w.heap.size ≤ b1 from ⟨Nat.ne_of_lt HLG.out, Nat.ne_of_lt HL0.out, Nat.le_of_lt (Nat.lt_of_le_of_lt HG0.out HL0.out)⟩)
  have HQN := Aside0.mk (show ({ q1 with names := [] } : Msg.Rp) = q1 by rw [← HQ1.out])
  clear hst hts hN255 hW8 hb1 hA6 hc6
  go_wp2_with (go_at_call 51; with_reducible refine (HN7.out _ HS8.out.hb HS8.out.hr).mono ?_; rintro e w9 hp; have HS9 := Aside0.mk (Msg.NStep.read HS8.out hp); obtain ⟨rfl, _, _, _⟩ := hp)
  go_loopg [6] N (fun g_ s6 wx => ∃ (kI : Int) (ns : List ByteArray) (li : List Int) (sh : Bool), s6 = .int .i64 kI ∧ Aside0 (kI = (g_ : Int)) ∧ Aside0 (ns.length + g_ = N) ∧ Aside0 (Msg.namesR N [] l7 s7 = Msg.namesR g_ ns li sh) ∧ Aside0 (Msg.NIn w g b1 b0 { q1 with names := ns } li sh wx))
  case atStart => exact ⟨_, [], l7, s7, rfl, ⟨rfl⟩, ⟨by simp⟩, ⟨rfl⟩, ⟨by rw [HQN.out]; exact .mk _ _ _ _ _ _ _ HS9.out⟩⟩
  case round =>
    obtain ⟨kI, ns, li, sh, rfl, HK, HLN0, HNS, HIi⟩ := hrel
    obtain ⟨A6, c6, nA6, nc6, k6, cs6, fr6, h6⟩ := HIi.out
    have HI6 := Aside0.mk h6
    have H0r := Aside0.mk h6.h0
    have HBr := Aside0.mk h6.hb
    have HLN := Aside0.mk (show ns.length ≤ 255 by have h1 := HLN0.out; have h2 := HNB.out; omega)
    obtain ⟨hsc, cl, Al, hsl⟩ : wr.cell? ⟨g, 1, none⟩ = some (.bool sh) ∧ ∃ cl Al, wr.cell? ⟨g, 0, none⟩ = some (.slice Al li.length cl) := by obtain ⟨A', c', h, _⟩ := h6.hr; exact ⟨(blk_cell h 1).trans rfl, _, _, (blk_cell h 0).trans rfl⟩
    clear h6
    cases gk with
    | zero =>
      have hx : Msg.namesR N [] l7 s7 = (ns, li, sh) := HNS.out
      have hkI : kI = 0 := HK.out
      have e0 : decide ((0 : Int) < kI) = false := decide_eq_false (by omega)
      clear hkI
      cases sh with
      | true =>
        have HA2 := Aside0.mk (show Msg.refAnsweredF rfaultF l = (Msg.zeroP, 5) by rw [HA.out]; unfold Msg.refTail; rw [Int.toNat_natCast, hx]; rfl)
        have hz0 := (blk_cell H0r.out 0).trans rfl
        have hf0 := blk_frozen H0r.out 0
        have hz1 := (blk_cell H0r.out 1).trans rfl
        have hf1 := blk_frozen H0r.out 1
        have hz2 := (blk_cell H0r.out 2).trans rfl
        have hf2 := blk_frozen H0r.out 2
        have hz3 := (blk_cell H0r.out 3).trans rfl
        have hf3 := blk_frozen H0r.out 3
        have hz4 := (blk_cell H0r.out 4).trans rfl
        have hf4 := blk_frozen H0r.out 4
        have hz5 := (blk_cell H0r.out 5).trans rfl
        have hf5 := blk_frozen H0r.out 5
        have hz6 := (blk_cell H0r.out 6).trans rfl
        have hf6 := blk_frozen H0r.out 6
        go_wp2
        try simp only [Exit.inBlock, Exit.then]
        refine bodyPost_ret (results_ct rfl _ _ b0 39 _ (0, 0) _ rfl (Msg.set_seven H0r.out) Try.underlying39 rfl (by kernel_rfl)) rfl ?_
        try rw [HA2.out]
        exact Msg.PPost.zero (Msg.below_seven HBr.out HG0.out)
      | false =>
        have hA : Msg.refAnsweredF rfaultF l = if 0 < li.length then (Msg.zeroP, 4) else if rfaultF { q1 with names := ns } ≠ 0 then (Msg.zeroP, 4) else ({ q1 with names := ns }, 0) := by rw [HA.out]; unfold Msg.refTail; rw [Int.toNat_natCast, hx]; rfl
        by_cases hli : 0 < li.length
        · have HA2 := Aside0.mk (hA.trans (if_pos hli))
          have d2 : decide ((0 : Int) < (li.length : Int)) = true := decide_eq_true (by omega)
          have d2n : decide (0 < li.length) = true := decide_eq_true hli
          clear hA hli hx
          have hz0 := (blk_cell H0r.out 0).trans rfl
          have hf0 := blk_frozen H0r.out 0
          have hz1 := (blk_cell H0r.out 1).trans rfl
          have hf1 := blk_frozen H0r.out 1
          have hz2 := (blk_cell H0r.out 2).trans rfl
          have hf2 := blk_frozen H0r.out 2
          have hz3 := (blk_cell H0r.out 3).trans rfl
          have hf3 := blk_frozen H0r.out 3
          have hz4 := (blk_cell H0r.out 4).trans rfl
          have hf4 := blk_frozen H0r.out 4
          have hz5 := (blk_cell H0r.out 5).trans rfl
          have hf5 := blk_frozen H0r.out 5
          have hz6 := (blk_cell H0r.out 6).trans rfl
          have hf6 := blk_frozen H0r.out 6
          go_wp2
          try simp only [Exit.inBlock, Exit.then]
          refine bodyPost_ret (results_ct rfl _ _ b0 39 _ (0, 0) _ rfl (Msg.set_seven H0r.out) Try.underlying39 rfl (by kernel_rfl)) rfl ?_
          try rw [HA2.out]
          exact Msg.PPost.zero (Msg.below_seven HBr.out HG0.out)
        have d2 : decide ((0 : Int) < (li.length : Int)) = false := decide_eq_false (by omega)
        have d2n : decide (0 < li.length) = false := decide_eq_false hli
        have hA3 := hA.trans (if_neg hli)
        obtain ⟨q3, hq3⟩ : ∃ q : Msg.Rp, ({ q1 with names := ns } : Msg.Rp) = q := ⟨_, rfl⟩
        have hq3n : q3.names.length = ns.length := by rw [← hq3]
        have HI6 := HI6
        rw [hq3] at HI6 hA3
        obtain ⟨z, hz⟩ : ∃ z, rfaultF q3 = z := ⟨_, rfl⟩
        rw [hz] at hA3
        have HFC := Aside0.mk (show Calls Try.prog 56 #[.agg (q3.at A6 c6 nA6 nc6).cells] wr fun e w' => e = .returned (.int .i64 z) ∧ Below wr.heap.size wr w' by
          have hn' := Kd.R_reads' HI6.out.hn
          have h := rfault_calls (q3.at A6 c6 nA6 nc6) wr (by show q3.data.length ≤ _; exact HI6.out.hdl) (by show q3.names.length ≤ _; rw [hq3n]; have := HLN.out; omega) hn'.2.1 hn'.2.2
          rw [show rfaultF (q3.at A6 c6 nA6 nc6) = z from hz] at h
          exact h)
        obtain ⟨hy0, hy1, hy2, hy3, hy4, hy5, hy6⟩ := Msg.seven_cells HI6.out.hq
        clear hA hli hz hq3 hq3n hx
        by_cases hz : z = 0
        · have HA2 := Aside0.mk (hA3.trans (if_neg (not_not_intro hz)))
          subst hz
          clear hA3
          go_upto_region 11 with (go_at_call 56; refine HFC.out.mono ?_; rintro e w8 ⟨rfl, hb8⟩; have HI8 := Aside0.mk (Msg.NStep.below HI6.out hb8); clear hb8)
          clear hy0 hy1 hy2 hy3 hy4 hy5 hy6
          obtain ⟨hy0, hy1, hy2, hy3, hy4, hy5, hy6⟩ := Msg.seven_cells HI8.out.hq
          have hz0 := (blk_cell HI8.out.h0 0).trans rfl
          have hf0 := blk_frozen HI8.out.h0 0
          have hz1 := (blk_cell HI8.out.h0 1).trans rfl
          have hf1 := blk_frozen HI8.out.h0 1
          have hz2 := (blk_cell HI8.out.h0 2).trans rfl
          have hf2 := blk_frozen HI8.out.h0 2
          have hz3 := (blk_cell HI8.out.h0 3).trans rfl
          have hf3 := blk_frozen HI8.out.h0 3
          have hz4 := (blk_cell HI8.out.h0 4).trans rfl
          have hf4 := blk_frozen HI8.out.h0 4
          have hz5 := (blk_cell HI8.out.h0 5).trans rfl
          have hf5 := blk_frozen HI8.out.h0 5
          have hz6 := (blk_cell HI8.out.h0 6).trans rfl
          have hf6 := blk_frozen HI8.out.h0 6
          go_wp2
          try simp only [Exit.inBlock, Exit.then]
          refine bodyPost_ret (results_ct rfl _ _ b0 39 _ (0, 0) _ rfl (Msg.set_seven HI8.out.h0) Try.underlying39 rfl (by kernel_rfl)) rfl ?_
          rw [HA2.out]
          exact .mk A6 c6 nA6 nc6 rfl HI8.out.hc (HI8.out.hcd _ (Msg.seven_other (Msg.NStep.k_ne HI8.out) HI8.out.hcs)) (Kd.R_reads' HI8.out.hn).2.1 (Kd.R_reads' (Msg.R_seven (Kd.R_types HI8.out.hn HI8.out.h0 (Msg.str_not (by decide))) (fun k hk => hk.2))).2.2 (Msg.below_seven HI8.out.hb HG0.out)
        · have HA2 := Aside0.mk (hA3.trans (if_pos hz))
          have ez : (z != 0) = true := bne_iff_ne.2 hz
          have ez2 : (z == 0) = false := beq_eq_false_iff_ne.2 hz
          clear hA3 hz
          go_wp2_with (go_at_call 56; refine HFC.out.mono ?_; rintro e w8 ⟨rfl, hb8⟩; have HI8 := Aside0.mk (Msg.NStep.below HI6.out hb8); have HB8 := Aside0.mk HI8.out.hb; have H08 := Aside0.mk HI8.out.h0; have hz0 := (blk_cell H08.out 0).trans rfl; have hf0 := blk_frozen H08.out 0; have hz1 := (blk_cell H08.out 1).trans rfl; have hf1 := blk_frozen H08.out 1; have hz2 := (blk_cell H08.out 2).trans rfl; have hf2 := blk_frozen H08.out 2; have hz3 := (blk_cell H08.out 3).trans rfl; have hf3 := blk_frozen H08.out 3; have hz4 := (blk_cell H08.out 4).trans rfl; have hf4 := blk_frozen H08.out 4; have hz5 := (blk_cell H08.out 5).trans rfl; have hf5 := blk_frozen H08.out 5; have hz6 := (blk_cell H08.out 6).trans rfl; have hf6 := blk_frozen H08.out 6; clear hb8)
          try simp only [Exit.inBlock, Exit.then]
          refine bodyPost_ret (results_ct rfl _ _ b0 39 _ (0, 0) _ rfl (Msg.set_seven H08.out) Try.underlying39 rfl (by kernel_rfl)) rfl ?_
          try rw [HA2.out]
          exact Msg.PPost.zero (Msg.below_seven HB8.out HG0.out)
    | succ n =>
      have hkI : kI = ((n + 1 : Nat) : Int) := HK.out
      have e0 : decide ((0 : Int) < kI) = true := decide_eq_true (by omega)
      cases sh with
      | true =>
        have hx : Msg.namesR N [] l7 s7 = (ns, li, true) := HNS.out.trans (if_pos rfl)
        clear hkI
        have HA2 := Aside0.mk (show Msg.refAnsweredF rfaultF l = (Msg.zeroP, 5) by rw [HA.out]; unfold Msg.refTail; rw [Int.toNat_natCast, hx]; rfl)
        have hz0 := (blk_cell H0r.out 0).trans rfl
        have hf0 := blk_frozen H0r.out 0
        have hz1 := (blk_cell H0r.out 1).trans rfl
        have hf1 := blk_frozen H0r.out 1
        have hz2 := (blk_cell H0r.out 2).trans rfl
        have hf2 := blk_frozen H0r.out 2
        have hz3 := (blk_cell H0r.out 3).trans rfl
        have hf3 := blk_frozen H0r.out 3
        have hz4 := (blk_cell H0r.out 4).trans rfl
        have hf4 := blk_frozen H0r.out 4
        have hz5 := (blk_cell H0r.out 5).trans rfl
        have hf5 := blk_frozen H0r.out 5
        have hz6 := (blk_cell H0r.out 6).trans rfl
        have hf6 := blk_frozen H0r.out 6
        go_wp2
        try simp only [Exit.inBlock, Exit.then]
        refine bodyPost_ret (results_ct rfl _ _ b0 39 _ (0, 0) _ rfl (Msg.set_seven H0r.out) Try.underlying39 rfl (by kernel_rfl)) rfl ?_
        try rw [HA2.out]
        exact Msg.PPost.zero (Msg.below_seven HBr.out HG0.out)
      | false =>
        have hwk : wrap64 (kI - 1) = (n : Int) := by have h1 := HLN0.out; have h2 := HNB.out; unfold wrap64; omega
        obtain ⟨t7, l8, s8, ht7⟩ : ∃ x y z, Msg.readT li false = (x, y, z) := ⟨_, _, _, rfl⟩
        have HTX := Aside0.mk (show ∀ W : World, Below w.heap.size w W → Msg.Rdr w g li false W → Calls Try.prog 52 #[.pointer (some ⟨g, 0, none⟩)] W fun e w' => Msg.NPost w W g (.string t7) l8 s8 e w' from fun W hB hr => by have h := Msg.rtext_calls w g li false W hB HGE.out hr; rw [ht7] at h; exact h)
        have HNS2 := Aside0.mk (show Msg.namesR N [] l7 s7 = Msg.namesR n (ns ++ [t7]) l8 s8 by rw [HNS.out]; show (if false = true then (ns, li, false) else Msg.namesR n (ns ++ [(Msg.readT li false).1]) (Msg.readT li false).2.1 (Msg.readT li false).2.2) = _; rw [ht7]; rfl)
        have HWK := Aside0.mk hwk
        clear hkI hwk ht7
        go_upto_region 6 with fail
        refine start_ (n := 8) (S := fun w' => w'.cell? ⟨b1, 6, none⟩ = some (.slice nA6 ns.length nc6)) (ds := [5, 7]) #[false, false, false, false, false, false, false, false] (by kernel_rfl) rfl rfl ((blk_cell HI6.out.hq 6).trans rfl) (fun hHeld => ?_)
        refine with_tabW refAnswered.tab6 refAnswered.bits6 (fun HT_ HW_ => ?_)
        have HI6 := Aside0.mk (Msg.NStep.below HI6.out (below_drew1 (Below.refl _ _)))
        generalize wr.drew = w6 at HI6 hHeld ⊢
        refine pure_ (i := 0) (N := some 37) (v := ?_) (a' := ?_) #[true, false, false, false, false, false, false, false] rfl rfl (any_of HT_.out (by kernel_rfl)) (fun _ _ _ h => h) (Or.inl ⟨by rfl, ?_⟩) ?_ ?_
        rotate_left
        · intro w'
          go_simp
          with_reducible rfl
        rotate_left
        · simp only [Act.put, List.setIfInBounds_toArray, List.set_cons_zero, List.set_cons_succ, i64_w, i32_w]
          rfl
        refine pure_ (i := 2) (N := some 39) (v := ?_) (a' := ?_) #[true, false, true, false, false, false, false, false] rfl rfl (any_of HT_.out (by kernel_rfl)) (fun _ _ _ h => h) (Or.inl ⟨by rfl, ?_⟩) ?_ ?_
        rotate_left
        · intro w'
          go_simp
          with_reducible rfl
        rotate_left
        · simp only [Act.put, List.setIfInBounds_toArray, List.set_cons_zero, List.set_cons_succ, i64_w, i32_w]
          rfl
        refine take_ (i := 1) (N := some 38) (v := ?_) (a' := ?_) #[true, true, true, false, false, false, false, false] rfl rfl (take_ofW HT_.out HW_.out (by kernel_rfl)) (fun _ _ _ h => h) (Or.inl ⟨by rfl, ?_⟩) hHeld ?_ ?_
        rotate_left
        · intro w' s0
          go_simp
          with_reducible rfl
        rotate_left
        · simp only [Act.put, List.setIfInBounds_toArray, List.set_cons_zero, List.set_cons_succ, i64_w, i32_w]
          rfl
        refine one_ (i := 3) (N := some 40) #[true, true, true, true, false, false, false, false] rfl rfl (one_of HT_.out (by kernel_rfl)) (by decide) (fun K hK => ?_)
        refine call_ 52 #[.pointer (some ⟨g, 0, none⟩)] (by rfl) rfl ?hr ?_
        (case hr => first | rfl | (go_simp; done) | (go_simp; rfl))
        refine (HTX.out _ HI6.out.hb HI6.out.hr).mono ?_
        rintro e' w7 hp7
        have HI7 := Aside0.mk (Msg.NStep.read HI6.out hp7)
        obtain ⟨rfl, _, _, _⟩ := hp7
        refine ⟨_, rfl, ?_⟩
        refine hK.out _ _ ((blk_cell HI7.out.hq 6).trans rfl) (fun hHeld => ?_)
        clear hK K
        refine norm_ (a' := ?_) ?_ ?_
        rotate_left
        · show Act.put _ (some 40) _ = _
          simp only [Act.put, List.setIfInBounds_toArray, List.set_cons_zero, List.set_cons_succ, i64_w, i32_w]
          rfl
        refine one_ (i := 4) (N := some 41) #[true, true, true, true, true, false, false, false] rfl rfl (one_of HT_.out (by kernel_rfl)) (by decide) (fun K hK => ?_)
        refine Kd.R_lit_step Kd.string (w0 := w) w.heap.size 9 (by rfl) (N := 41) rfl (xs := [t7]) (inner := [.string t7]) (ok := fun _ => True) (okp := fun _ => False) ?hr2 (Reps.one (show Kd.M Kd.string _ _ _ t7 [.string t7] from rfl) (Reps.none _ _)) (fun _ h => h.elim) trivial HI7.out.hb HI7.out.hb.size (by simp) ?_
        (case hr2 => first | (go_simp; done) | (go_simp; rfl))
        intro v8 w8 ho8 hb8 hg8 hnew8
        have HI8 := Aside0.mk (Msg.NStep.grown HI7.out hg8 hb8)
        obtain ⟨Ao8, co8, eo8⟩ := Kd.R_slice ho8
        subst eo8
        have HL8 := Aside0.mk (Kd.R_reads' ho8).2.2
        clear ho8 hb8 hg8 hnew8
        refine hK.out _ _ ((blk_cell HI8.out.hq 6).trans rfl) (fun hHeld => ?_)
        clear hK K
        refine norm_ (a' := ?_) ?_ ?_
        rotate_left
        · show Act.put _ (some 41) _ = _
          simp only [Act.put, List.setIfInBounds_toArray, List.set_cons_zero, List.set_cons_succ, i64_w, i32_w]
          rfl
        refine last_ (i := 5) (N := some 42) #[true, true, true, true, true, true, false, false] rfl rfl (one_of HT_.out (by kernel_rfl)) (by decide) (fun K hK => ?_)
        refine Kd.R_append_rows_step Kd.string (w0 := w) w.heap.size (by rfl) (.tmp 38) (.tmp 41) 22 9 (.string ⟨#[]⟩) 16 rfl Try.underlying22 Msg.info9b rfl (by decide) (by decide) (.slice nA6 ns.length nc6) ns [t7] _ _ _ (fun _ => True) (fun _ => False) rfl rfl HI8.out.hn HL8.out (fun _ _ h => h) (fun _ hk => hk.elim) (fun _ _ => trivial) HI8.out.hb HI8.out.hb.size (by have := HLN.out; show (ns.length + 1) * 16 ≤ _; omega) ?_
        intro v9 w9 ho9 hb9 hg9 hat9
        obtain ⟨nA9, nc9, e9⟩ := Kd.R_slice ho9
        subst e9
        have HP9 := Aside0.mk (Msg.NStep.names HD.out HI8.out hg9 hb9 ho9)
        obtain ⟨⟨u9_, hu9⟩, hf9⟩ := Msg.NStep.slot HI8.out hg9
        clear ho9 hb9 hg9 hat9
        refine hK.out _ _ ?_
        clear hK K
        refine norm_ (a' := ?_) ?_ ?_
        rotate_left
        · show Act.put _ (some 42) _ = _
          simp only [Act.put, List.setIfInBounds_toArray, List.set_cons_zero, List.set_cons_succ, i64_w, i32_w]
          rfl
        refine pure_ (i := 6) (N := some 43) (v := ?_) (a' := ?_) #[true, true, true, true, true, true, true, false] rfl rfl (any_of HT_.out (by kernel_rfl)) (fun _ _ _ h => h) (Or.inl ⟨by rfl, ?_⟩) ?_ ?_
        rotate_left
        · intro w'
          go_simp
          with_reducible rfl
        rotate_left
        · simp only [Act.put, List.setIfInBounds_toArray, List.set_cons_zero, List.set_cons_succ, i64_w, i32_w]
          rfl
        refine last_ (i := 7) (N := none) #[true, true, true, true, true, true, true, true] rfl rfl (one_of HT_.out (by kernel_rfl)) (by decide) (fun K hK => ?_)
        refine skip_ (w1 := ?_) (by rfl) rfl ?_ ?_
        rotate_left
        · go_simp
          rfl
        refine hK.out _ _ ?_
        clear hK K
        refine done_ (done_of HT_.out (by kernel_rfl)) ?_
        go_upto_region 5 with fail
        have hwk := HWK.out
        have HP11 := Aside0.mk (show Msg.NIn w g b1 b0 { q1 with names := ns ++ [t7] } l8 s8 (w9.setCell ⟨b1, 6, none⟩ (.slice nA9 (ns.length + 1) nc9)) by have h := HP9.out; rw [List.length_append] at h; exact h)
        go_wp2
        go_roundg n
        case measure => omega
        case rel => exact ⟨_, ns ++ [t7], l8, s8, rfl, ⟨rfl⟩, ⟨by rw [List.length_append, List.length_singleton]; have := HLN0.out; omega⟩, HNS2, HP11⟩
/-- What packthreadref_MsgAnswered answers. -/
def packthreadref_MsgAnswered.f (l : List Int) : Option (Msg.Rp × Int) := if Msg.bytesB l = true ∧ l.length < 140737488351233 then some (Msg.refAnsweredF rfaultF l) else none
theorem packthreadref_MsgAnswered.calls (A : Option Addr) (c : Nat) (l : List Int) (q : Msg.Rp) (er : Int) (w : World) (hr : Kd.C (Kd.int .u8) w A l.length l) (hc : l.length ≤ c) (h : packthreadref_MsgAnswered.f l = some (q, er)) :
    Calls Try.prog 24 #[.slice A l.length c] w fun e w' => Msg.PPost w (q, er) e w' := by
  unfold packthreadref_MsgAnswered.f at h
  by_cases hl : Msg.bytesB l = true ∧ l.length < 140737488351233
  · rw [if_pos hl] at h
    have h2 := Option.some.inj h
    rw [← h2]
    exact refAnswered_calls A c l w hr hc (Msg.bytesB_in hl.1) (by omega)
  · rw [if_neg hl] at h; cases h

/-! ### packthreadlaw_sameBytes: function 17 -/
def packthreadlaw_sameBytes.l0 : Nat → List Int → List Int → Int → Option (Bool)
  | 0, _, _, _ => none
  | k + 1, x0, x1, x5 => if x5 < (x0.length : Int) then (if 0 ≤ x5 then (if x5 < (x1.length : Int) then (if (rd x0 x5) = (rd x1 x5) then (packthreadlaw_sameBytes.l0 k x0 x1 (wrap64 (x5 + 1))) else (some false)) else (none)) else (none)) else (some true)
def packthreadlaw_sameBytes.f (k : Nat) (l0 : List Int) (l1 : List Int) : Option (Bool) := if (l0.length : Int) = (l1.length : Int) then (packthreadlaw_sameBytes.l0 k l0 l1 0) else (some false)
theorem packthreadlaw_sameBytes.mono_l : ∀ k, (∀ y0 y1 y2, LeO (packthreadlaw_sameBytes.l0 k y0 y1 y2) (packthreadlaw_sameBytes.l0 (k + 1) y0 y1 y2))
  | 0 => fun _ _ _ r h => by simp [packthreadlaw_sameBytes.l0] at h
  | k + 1 => by
    have ih0 := packthreadlaw_sameBytes.mono_l k
    · intro y0 y1 y2
      unfold packthreadlaw_sameBytes.l0
      repeat' first
      | (with_reducible exact ih0 _ _ _)
      | (with_reducible exact LeO.refl _)
      | (with_reducible exact LeO.none _)
      | (with_reducible refine LeO.ite ?_ ?_)
      | (with_reducible refine LeO.bind ?_ (fun _ => ?_))
      | exact ih0 _ _ _
      | exact LeO.none _
      | refine LeO.ite ?_ ?_
      | refine LeO.bind ?_ (fun _ => ?_)
theorem packthreadlaw_sameBytes.mono : ∀ a0 a1 k, LeO (packthreadlaw_sameBytes.f k a0 a1) (packthreadlaw_sameBytes.f (k + 1) a0 a1) := by
  intro a0 a1 k
  have ih0 := packthreadlaw_sameBytes.mono_l k
  unfold packthreadlaw_sameBytes.f
  repeat' first
      | (with_reducible exact ih0 _ _ _)
      | (with_reducible exact LeO.refl _)
      | (with_reducible exact LeO.none _)
      | (with_reducible refine LeO.ite ?_ ?_)
      | (with_reducible refine LeO.bind ?_ (fun _ => ?_))
      | exact ih0 _ _ _
      | exact LeO.none _
      | refine LeO.ite ?_ ?_
      | refine LeO.bind ?_ (fun _ => ?_)
set_option maxHeartbeats 8000000 in
set_option maxRecDepth 100000 in
theorem packthreadlaw_sameBytes.calls (k : Nat) (A0 : Option Addr) (c0 : Nat) (l0 : List Int) (A1 : Option Addr) (c1 : Nat) (l1 : List Int) (r : Bool) (w : World) (hr0 : Kd.C (Kd.int .u8) w A0 l0.length l0) (hc0 : l0.length ≤ c0) (hr1 : Kd.C (Kd.int .u8) w A1 l1.length l1) (hc1 : l1.length ≤ c1) (h : packthreadlaw_sameBytes.f k l0 l1 = some r) :
    Calls Try.prog 17 #[.slice A0 l0.length c0, .slice A1 l1.length c1] w fun e w' => e = .returned (.bool r) ∧ Drawn0 w w' := by
  have HR0 := Aside0.mk hr0
  have HC0 := Aside0.mk hc0
  clear hr0 hc0
  have HR1 := Aside0.mk hr1
  have HC1 := Aside0.mk hc1
  clear hr1 hc1
  have H : (if (l0.length : Int) = (l1.length : Int) then (packthreadlaw_sameBytes.l0 k l0 l1 0) else (some false)) = some r := h
  clear h
  by_cases c3 : (l0.length : Int) = (l1.length : Int)
  · rw [if_pos c3] at H
    have c3b0 : ((l0.length : Int) == (l1.length : Int)) = true := beq_iff_eq.mpr c3
    have c3b1 : ((l0.length : Int) != (l1.length : Int)) = false := bne_eq_false_iff_eq.mpr c3
    have c3b2 : (l0.length == l1.length) = true := by first | simpa using c3 | (simp at c3 ⊢; omega)
    clear c3
    have H' := Aside0.mk H
    clear H
    go_enter Try.func17, Try.ntmps17
    go_wp2
    repeat (go_quiet (fail); try go_wp2)
    go_loopg [5] k (fun kq v5 w' => ∃ (x5_1 : Int), v5 = .int .i64 x5_1 ∧ Aside0 (packthreadlaw_sameBytes.l0 kq l0 l1 x5_1 = some r) ∧ Aside0 (kq ≤ k) ∧ Drawn0 w w')
    case atStart => exact ⟨(0), (by first | rfl | (simp; done) | (simp [*]; done)), H', ⟨Nat.le_refl _⟩, by repeat (first | exact Drawn0.refl _ | apply Drawn0.step)⟩
    case round =>
      clear H'
      try clear c1
      try clear p2
      try clear c3
      try clear c3b0
      try clear c3b1
      try clear c3b2
      obtain ⟨x5_1, rfl, HA, HK1, ⟨m1, rfl⟩⟩ := hrel
      cases gk with
      | zero => exact absurd HA.out (by simp [packthreadlaw_sameBytes.l0])
      | succ k1 =>
        have H := HA.out
        clear HA
        simp only [packthreadlaw_sameBytes.l0] at H
        by_cases c4 : x5_1 < (l0.length : Int)
        · rw [if_pos c4] at H
          have c4b0 : decide (x5_1 < (l0.length : Int)) = true := decide_eq_true c4
          clear c4
          by_cases c5 : 0 ≤ x5_1
          · rw [if_pos c5] at H
            have c5b0 : decide (0 ≤ x5_1) = true := decide_eq_true c5
            clear c5
            by_cases c6 : x5_1 < (l1.length : Int)
            · rw [if_pos c6] at H
              have c6b0 : decide (x5_1 < (l1.length : Int)) = true := decide_eq_true c6
              clear c6
              by_cases c7 : (rd l0 x5_1) = (rd l1 x5_1)
              · rw [if_pos c7] at H
                have c7b0 : ((rd l0 x5_1) == (rd l1 x5_1)) = true := beq_iff_eq.mpr c7
                have c7b1 : ((rd l0 x5_1) != (rd l1 x5_1)) = false := bne_eq_false_iff_eq.mpr c7
                clear c7
                have H' := Aside0.mk H
                clear H
                have p103 : 0 ≤ (x5_1 : Int) := of_decide_eq_true (by first | (with_reducible assumption) | assumption)
                have q103 : x5_1 < (l0.length : Int) := of_decide_eq_true (by first | (with_reducible assumption) | assumption)
                obtain ⟨ad103, e103, hx103_0⟩ := Kd.at_int HR0.out x5_1 p103 q103
                cases e103
                replace p103 := eq_true p103
                replace q103 := eq_true q103
                have p104 : 0 ≤ (x5_1 : Int) := of_decide_eq_true (by first | (with_reducible assumption) | assumption)
                have q104 : x5_1 < (l1.length : Int) := of_decide_eq_true (by first | (with_reducible assumption) | assumption)
                obtain ⟨ad104, e104, hx104_0⟩ := Kd.at_int HR1.out x5_1 p104 q104
                cases e104
                replace p104 := eq_true p104
                replace q104 := eq_true q104
                go_wp2
                repeat (go_quiet (fail); try go_wp2)
                go_roundg k1
                case measure => have := HK1.out; omega
                case rel => exact ⟨(wrap64 (x5_1 + 1)), (by first | rfl | (simp; done) | (simp [*]; done)), H', ⟨by have := HK1.out; omega⟩, by repeat (first | exact Drawn0.refl _ | apply Drawn0.step)⟩
              · rw [if_neg c7] at H
                have c7b0 : ((rd l0 x5_1) == (rd l1 x5_1)) = false := beq_eq_false_iff_ne.mpr c7
                have c7b1 : ((rd l0 x5_1) != (rd l1 x5_1)) = true := bne_iff_ne.mpr c7
                obtain rfl := Option.some.inj H
                have p103 : 0 ≤ (x5_1 : Int) := of_decide_eq_true (by first | (with_reducible assumption) | assumption)
                have q103 : x5_1 < (l0.length : Int) := of_decide_eq_true (by first | (with_reducible assumption) | assumption)
                obtain ⟨ad103, e103, hx103_0⟩ := Kd.at_int HR0.out x5_1 p103 q103
                cases e103
                replace p103 := eq_true p103
                replace q103 := eq_true q103
                have p104 : 0 ≤ (x5_1 : Int) := of_decide_eq_true (by first | (with_reducible assumption) | assumption)
                have q104 : x5_1 < (l1.length : Int) := of_decide_eq_true (by first | (with_reducible assumption) | assumption)
                obtain ⟨ad104, e104, hx104_0⟩ := Kd.at_int HR1.out x5_1 p104 q104
                cases e104
                replace p104 := eq_true p104
                replace q104 := eq_true q104
                go_wp2
                repeat (go_quiet (fail); try go_wp2)
                go_ret
                exact ⟨by first | rfl | (simp; done) | (simp [*]; done), by repeat (first | exact Drawn0.refl _ | apply Drawn0.step)⟩
            · rw [if_neg c6] at H
              exact absurd H (by simp)
          · rw [if_neg c5] at H
            exact absurd H (by simp)
        · rw [if_neg c4] at H
          have c4b0 : decide (x5_1 < (l0.length : Int)) = false := decide_eq_false c4
          clear c4
          obtain rfl := Option.some.inj H
          go_wp2
          repeat (go_quiet (fail); try go_wp2)
          go_ret
          exact ⟨by first | rfl | (simp; done) | (simp [*]; done), by repeat (first | exact Drawn0.refl _ | apply Drawn0.step)⟩
  · rw [if_neg c3] at H
    have c3b0 : ((l0.length : Int) == (l1.length : Int)) = false := beq_eq_false_iff_ne.mpr c3
    have c3b1 : ((l0.length : Int) != (l1.length : Int)) = true := bne_iff_ne.mpr c3
    have c3b2 : (l0.length == l1.length) = false := by first | simpa using c3 | (simp at c3 ⊢; omega)
    obtain rfl := Option.some.inj H
    go_enter Try.func17, Try.ntmps17
    go_wp2
    repeat (go_quiet (fail); try go_wp2)
    go_ret
    exact ⟨by first | rfl | (simp; done) | (simp [*]; done), by repeat (first | exact Drawn0.refl _ | apply Drawn0.step)⟩

/-! ### packthreadlaw_sameTexts: function 32 -/
def packthreadlaw_sameTexts.l0 : Nat → List ByteArray → List ByteArray → Int → Option (Bool)
  | 0, _, _, _ => none
  | k + 1, x0, x1, x5 => if x5 < (x0.length : Int) then (if 0 ≤ x5 then (if x5 < (x1.length : Int) then (if (rdOf ByteArray.empty x0 x5).toList = (rdOf ByteArray.empty x1 x5).toList then (packthreadlaw_sameTexts.l0 k x0 x1 (wrap64 (x5 + 1))) else (some false)) else (none)) else (none)) else (some true)
def packthreadlaw_sameTexts.f (k : Nat) (l0 : List ByteArray) (l1 : List ByteArray) : Option (Bool) := if (l0.length : Int) = (l1.length : Int) then (packthreadlaw_sameTexts.l0 k l0 l1 0) else (some false)
theorem packthreadlaw_sameTexts.mono_l : ∀ k, (∀ y0 y1 y2, LeO (packthreadlaw_sameTexts.l0 k y0 y1 y2) (packthreadlaw_sameTexts.l0 (k + 1) y0 y1 y2))
  | 0 => fun _ _ _ r h => by simp [packthreadlaw_sameTexts.l0] at h
  | k + 1 => by
    have ih0 := packthreadlaw_sameTexts.mono_l k
    · intro y0 y1 y2
      unfold packthreadlaw_sameTexts.l0
      repeat' first
      | (with_reducible exact ih0 _ _ _)
      | (with_reducible exact LeO.refl _)
      | (with_reducible exact LeO.none _)
      | (with_reducible refine LeO.ite ?_ ?_)
      | (with_reducible refine LeO.bind ?_ (fun _ => ?_))
      | exact ih0 _ _ _
      | exact LeO.none _
      | refine LeO.ite ?_ ?_
      | refine LeO.bind ?_ (fun _ => ?_)
theorem packthreadlaw_sameTexts.mono : ∀ a0 a1 k, LeO (packthreadlaw_sameTexts.f k a0 a1) (packthreadlaw_sameTexts.f (k + 1) a0 a1) := by
  intro a0 a1 k
  have ih0 := packthreadlaw_sameTexts.mono_l k
  unfold packthreadlaw_sameTexts.f
  repeat' first
      | (with_reducible exact ih0 _ _ _)
      | (with_reducible exact LeO.refl _)
      | (with_reducible exact LeO.none _)
      | (with_reducible refine LeO.ite ?_ ?_)
      | (with_reducible refine LeO.bind ?_ (fun _ => ?_))
      | exact ih0 _ _ _
      | exact LeO.none _
      | refine LeO.ite ?_ ?_
      | refine LeO.bind ?_ (fun _ => ?_)
set_option maxHeartbeats 8000000 in
set_option maxRecDepth 100000 in
theorem packthreadlaw_sameTexts.calls (k : Nat) (A0 : Option Addr) (c0 : Nat) (l0 : List ByteArray) (A1 : Option Addr) (c1 : Nat) (l1 : List ByteArray) (r : Bool) (w : World) (hr0 : Kd.C Kd.string w A0 l0.length l0) (hc0 : l0.length ≤ c0) (hr1 : Kd.C Kd.string w A1 l1.length l1) (hc1 : l1.length ≤ c1) (h : packthreadlaw_sameTexts.f k l0 l1 = some r) :
    Calls Try.prog 32 #[.slice A0 l0.length c0, .slice A1 l1.length c1] w fun e w' => e = .returned (.bool r) ∧ Drawn0 w w' := by
  have HR0 := Aside0.mk hr0
  have HC0 := Aside0.mk hc0
  clear hr0 hc0
  have HR1 := Aside0.mk hr1
  have HC1 := Aside0.mk hc1
  clear hr1 hc1
  have H : (if (l0.length : Int) = (l1.length : Int) then (packthreadlaw_sameTexts.l0 k l0 l1 0) else (some false)) = some r := h
  clear h
  by_cases c3 : (l0.length : Int) = (l1.length : Int)
  · rw [if_pos c3] at H
    have c3b0 : ((l0.length : Int) == (l1.length : Int)) = true := beq_iff_eq.mpr c3
    have c3b1 : ((l0.length : Int) != (l1.length : Int)) = false := bne_eq_false_iff_eq.mpr c3
    have c3b2 : (l0.length == l1.length) = true := by first | simpa using c3 | (simp at c3 ⊢; omega)
    clear c3
    have H' := Aside0.mk H
    clear H
    go_enter Try.func32, Try.ntmps32
    go_wp2
    repeat (go_quiet (fail); try go_wp2)
    go_loopg [5] k (fun kq v5 w' => ∃ (x5_1 : Int), v5 = .int .i64 x5_1 ∧ Aside0 (packthreadlaw_sameTexts.l0 kq l0 l1 x5_1 = some r) ∧ Aside0 (kq ≤ k) ∧ Drawn0 w w')
    case atStart => exact ⟨(0), (by first | rfl | (simp; done) | (simp [*]; done)), H', ⟨Nat.le_refl _⟩, by repeat (first | exact Drawn0.refl _ | apply Drawn0.step)⟩
    case round =>
      clear H'
      try clear c1
      try clear p2
      try clear c3
      try clear c3b0
      try clear c3b1
      try clear c3b2
      obtain ⟨x5_1, rfl, HA, HK1, ⟨m1, rfl⟩⟩ := hrel
      cases gk with
      | zero => exact absurd HA.out (by simp [packthreadlaw_sameTexts.l0])
      | succ k1 =>
        have H := HA.out
        clear HA
        simp only [packthreadlaw_sameTexts.l0] at H
        by_cases c4 : x5_1 < (l0.length : Int)
        · rw [if_pos c4] at H
          have c4b0 : decide (x5_1 < (l0.length : Int)) = true := decide_eq_true c4
          clear c4
          by_cases c5 : 0 ≤ x5_1
          · rw [if_pos c5] at H
            have c5b0 : decide (0 ≤ x5_1) = true := decide_eq_true c5
            clear c5
            by_cases c6 : x5_1 < (l1.length : Int)
            · rw [if_pos c6] at H
              have c6b0 : decide (x5_1 < (l1.length : Int)) = true := decide_eq_true c6
              clear c6
              by_cases c7 : (rdOf ByteArray.empty l0 x5_1).toList = (rdOf ByteArray.empty l1 x5_1).toList
              · rw [if_pos c7] at H
                have c7b0 : ((rdOf ByteArray.empty l0 x5_1).toList == (rdOf ByteArray.empty l1 x5_1).toList) = true := beq_iff_eq.mpr c7
                have c7b1 : ((rdOf ByteArray.empty l0 x5_1).toList != (rdOf ByteArray.empty l1 x5_1).toList) = false := bne_eq_false_iff_eq.mpr c7
                clear c7
                have H' := Aside0.mk H
                clear H
                have p105 : 0 ≤ (x5_1 : Int) := of_decide_eq_true (by first | (with_reducible assumption) | assumption)
                have q105 : x5_1 < (l0.length : Int) := of_decide_eq_true (by first | (with_reducible assumption) | assumption)
                obtain ⟨ad105, e105, hx105_0⟩ := Kd.at_string HR0.out x5_1 p105 q105
                cases e105
                replace p105 := eq_true p105
                replace q105 := eq_true q105
                have p106 : 0 ≤ (x5_1 : Int) := of_decide_eq_true (by first | (with_reducible assumption) | assumption)
                have q106 : x5_1 < (l1.length : Int) := of_decide_eq_true (by first | (with_reducible assumption) | assumption)
                obtain ⟨ad106, e106, hx106_0⟩ := Kd.at_string HR1.out x5_1 p106 q106
                cases e106
                replace p106 := eq_true p106
                replace q106 := eq_true q106
                go_wp2
                repeat (go_quiet (fail); try go_wp2)
                go_roundg k1
                case measure => have := HK1.out; omega
                case rel => exact ⟨(wrap64 (x5_1 + 1)), (by first | rfl | (simp; done) | (simp [*]; done)), H', ⟨by have := HK1.out; omega⟩, by repeat (first | exact Drawn0.refl _ | apply Drawn0.step)⟩
              · rw [if_neg c7] at H
                have c7b0 : ((rdOf ByteArray.empty l0 x5_1).toList == (rdOf ByteArray.empty l1 x5_1).toList) = false := beq_eq_false_iff_ne.mpr c7
                have c7b1 : ((rdOf ByteArray.empty l0 x5_1).toList != (rdOf ByteArray.empty l1 x5_1).toList) = true := bne_iff_ne.mpr c7
                obtain rfl := Option.some.inj H
                have p105 : 0 ≤ (x5_1 : Int) := of_decide_eq_true (by first | (with_reducible assumption) | assumption)
                have q105 : x5_1 < (l0.length : Int) := of_decide_eq_true (by first | (with_reducible assumption) | assumption)
                obtain ⟨ad105, e105, hx105_0⟩ := Kd.at_string HR0.out x5_1 p105 q105
                cases e105
                replace p105 := eq_true p105
                replace q105 := eq_true q105
                have p106 : 0 ≤ (x5_1 : Int) := of_decide_eq_true (by first | (with_reducible assumption) | assumption)
                have q106 : x5_1 < (l1.length : Int) := of_decide_eq_true (by first | (with_reducible assumption) | assumption)
                obtain ⟨ad106, e106, hx106_0⟩ := Kd.at_string HR1.out x5_1 p106 q106
                cases e106
                replace p106 := eq_true p106
                replace q106 := eq_true q106
                go_wp2
                repeat (go_quiet (fail); try go_wp2)
                go_ret
                exact ⟨by first | rfl | (simp; done) | (simp [*]; done), by repeat (first | exact Drawn0.refl _ | apply Drawn0.step)⟩
            · rw [if_neg c6] at H
              exact absurd H (by simp)
          · rw [if_neg c5] at H
            exact absurd H (by simp)
        · rw [if_neg c4] at H
          have c4b0 : decide (x5_1 < (l0.length : Int)) = false := decide_eq_false c4
          clear c4
          obtain rfl := Option.some.inj H
          go_wp2
          repeat (go_quiet (fail); try go_wp2)
          go_ret
          exact ⟨by first | rfl | (simp; done) | (simp [*]; done), by repeat (first | exact Drawn0.refl _ | apply Drawn0.step)⟩
  · rw [if_neg c3] at H
    have c3b0 : ((l0.length : Int) == (l1.length : Int)) = false := beq_eq_false_iff_ne.mpr c3
    have c3b1 : ((l0.length : Int) != (l1.length : Int)) = true := bne_iff_ne.mpr c3
    have c3b2 : (l0.length == l1.length) = false := by first | simpa using c3 | (simp at c3 ⊢; omega)
    obtain rfl := Option.some.inj H
    go_enter Try.func32, Try.ntmps32
    go_wp2
    repeat (go_quiet (fail); try go_wp2)
    go_ret
    exact ⟨by first | rfl | (simp; done) | (simp [*]; done), by repeat (first | exact Drawn0.refl _ | apply Drawn0.step)⟩

/-! ### packthreadlaw_sameReply: function 25 -/
def packthreadlaw_sameReply.f (k : Nat) (a0_0 : Int) (a0_1 : Int) (a0_2 : Int) (a0_3 : Int) (a0_4 : Int) (l0_5 : List Int) (l0_6 : List ByteArray) (a1_0 : Int) (a1_1 : Int) (a1_2 : Int) (a1_3 : Int) (a1_4 : Int) (l1_5 : List Int) (l1_6 : List ByteArray) : Option (Bool) := if a0_0 = a1_0 then (if a0_1 = a1_1 then (if a0_2 = a1_2 then (if a0_3 = a1_3 then (if a0_4 = a1_4 then ((packthreadlaw_sameBytes.f k l0_5 l1_5).bind fun t109 => (if t109 = true then ((packthreadlaw_sameTexts.f k l0_6 l1_6).bind fun t110 => (some t110)) else (some false))) else (some false)) else (some false)) else (some false)) else (some false)) else (some false)
theorem packthreadlaw_sameReply.mono : ∀ a0 a1 a2 a3 a4 a5 a6 a7 a8 a9 a10 a11 a12 a13 k, LeO (packthreadlaw_sameReply.f k a0 a1 a2 a3 a4 a5 a6 a7 a8 a9 a10 a11 a12 a13) (packthreadlaw_sameReply.f (k + 1) a0 a1 a2 a3 a4 a5 a6 a7 a8 a9 a10 a11 a12 a13) := by
  intro a0 a1 a2 a3 a4 a5 a6 a7 a8 a9 a10 a11 a12 a13 k
  unfold packthreadlaw_sameReply.f
  repeat' first
      | (with_reducible exact packthreadlaw_sameBytes.mono _ _ _)
      | (with_reducible exact packthreadlaw_sameTexts.mono _ _ _)
      | (with_reducible exact LeO.refl _)
      | (with_reducible exact LeO.none _)
      | (with_reducible refine LeO.ite ?_ ?_)
      | (with_reducible refine LeO.bind ?_ (fun _ => ?_))
      | exact packthreadlaw_sameBytes.mono _ _ _
      | exact packthreadlaw_sameTexts.mono _ _ _
      | exact LeO.none _
      | refine LeO.ite ?_ ?_
      | refine LeO.bind ?_ (fun _ => ?_)
set_option maxHeartbeats 8000000 in
set_option maxRecDepth 100000 in
theorem packthreadlaw_sameReply.calls (k : Nat) (a0_0 : Int) (a0_1 : Int) (a0_2 : Int) (a0_3 : Int) (a0_4 : Int) (A0_5 : Option Addr) (c0_5 : Nat) (l0_5 : List Int) (A0_6 : Option Addr) (c0_6 : Nat) (l0_6 : List ByteArray) (a1_0 : Int) (a1_1 : Int) (a1_2 : Int) (a1_3 : Int) (a1_4 : Int) (A1_5 : Option Addr) (c1_5 : Nat) (l1_5 : List Int) (A1_6 : Option Addr) (c1_6 : Nat) (l1_6 : List ByteArray) (r : Bool) (w : World) (hr0_5 : Kd.C (Kd.int .u8) w A0_5 l0_5.length l0_5) (hc0_5 : l0_5.length ≤ c0_5) (hr0_6 : Kd.C Kd.string w A0_6 l0_6.length l0_6) (hc0_6 : l0_6.length ≤ c0_6) (hr1_5 : Kd.C (Kd.int .u8) w A1_5 l1_5.length l1_5) (hc1_5 : l1_5.length ≤ c1_5) (hr1_6 : Kd.C Kd.string w A1_6 l1_6.length l1_6) (hc1_6 : l1_6.length ≤ c1_6) (h : packthreadlaw_sameReply.f k a0_0 a0_1 a0_2 a0_3 a0_4 l0_5 l0_6 a1_0 a1_1 a1_2 a1_3 a1_4 l1_5 l1_6 = some r) :
    Calls Try.prog 25 #[.agg #[.int .i64 a0_0, .int .i64 a0_1, .int .i64 a0_2, .int .i64 a0_3, .int .i64 a0_4, .slice A0_5 l0_5.length c0_5, .slice A0_6 l0_6.length c0_6], .agg #[.int .i64 a1_0, .int .i64 a1_1, .int .i64 a1_2, .int .i64 a1_3, .int .i64 a1_4, .slice A1_5 l1_5.length c1_5, .slice A1_6 l1_6.length c1_6]] w fun e w' => e = .returned (.bool r) ∧ Below w.heap.size w w' := by
  have hu39 := Try.underlying39
  have HR0_5 := Aside0.mk hr0_5
  have HC0_5 := Aside0.mk hc0_5
  clear hr0_5 hc0_5
  have HR0_6 := Aside0.mk hr0_6
  have HC0_6 := Aside0.mk hc0_6
  clear hr0_6 hc0_6
  have HR1_5 := Aside0.mk hr1_5
  have HC1_5 := Aside0.mk hc1_5
  clear hr1_5 hc1_5
  have HR1_6 := Aside0.mk hr1_6
  have HC1_6 := Aside0.mk hc1_6
  clear hr1_6 hc1_6
  have HB := Aside0.mk (Below.refl w.heap.size w)
  have H : (if a0_0 = a1_0 then (if a0_1 = a1_1 then (if a0_2 = a1_2 then (if a0_3 = a1_3 then (if a0_4 = a1_4 then ((packthreadlaw_sameBytes.f k l0_5 l1_5).bind fun t109 => (if t109 = true then ((packthreadlaw_sameTexts.f k l0_6 l1_6).bind fun t110 => (some t110)) else (some false))) else (some false)) else (some false)) else (some false)) else (some false)) else (some false)) = some r := h
  clear h
  by_cases c3 : a0_0 = a1_0
  · rw [if_pos c3] at H
    have c3b0 : (a0_0 == a1_0) = true := beq_iff_eq.mpr c3
    have c3b1 : (a0_0 != a1_0) = false := bne_eq_false_iff_eq.mpr c3
    clear c3
    by_cases c4 : a0_1 = a1_1
    · rw [if_pos c4] at H
      have c4b0 : (a0_1 == a1_1) = true := beq_iff_eq.mpr c4
      have c4b1 : (a0_1 != a1_1) = false := bne_eq_false_iff_eq.mpr c4
      clear c4
      by_cases c5 : a0_2 = a1_2
      · rw [if_pos c5] at H
        have c5b0 : (a0_2 == a1_2) = true := beq_iff_eq.mpr c5
        have c5b1 : (a0_2 != a1_2) = false := bne_eq_false_iff_eq.mpr c5
        clear c5
        by_cases c6 : a0_3 = a1_3
        · rw [if_pos c6] at H
          have c6b0 : (a0_3 == a1_3) = true := beq_iff_eq.mpr c6
          have c6b1 : (a0_3 != a1_3) = false := bne_eq_false_iff_eq.mpr c6
          clear c6
          by_cases c7 : a0_4 = a1_4
          · rw [if_pos c7] at H
            have c7b0 : (a0_4 == a1_4) = true := beq_iff_eq.mpr c7
            have c7b1 : (a0_4 != a1_4) = false := bne_eq_false_iff_eq.mpr c7
            clear c7
            replace H := Option.bind_eq_some_iff.mp H
            obtain ⟨t109, A80, H⟩ := H
            replace H : (if t109 = true then ((packthreadlaw_sameTexts.f k l0_6 l1_6).bind fun t110 => (some t110)) else (some false)) = some r := H
            have A8 := Aside0.mk A80
            clear A80
            by_cases c9 : t109 = true
            · subst c9
              have H1 : ((packthreadlaw_sameTexts.f k l0_6 l1_6).bind fun t110 => (some t110)) = some r := by rw [if_pos rfl] at H; exact H
              clear H
              have H := H1
              clear H1
              replace H := Option.bind_eq_some_iff.mp H
              obtain ⟨t110, A100, H⟩ := H
              replace H : (some t110) = some r := H
              have A10 := Aside0.mk A100
              clear A100
              obtain rfl := Option.some.inj H
              go_enter Try.func25, Try.ntmps25
              go_wp2_with (first | ((with_reducible refine gate_dst (N := 2) rfl ?_); refine box_event ?hg (N := 2) ?hd (cs := #[.int .i64 a0_0, .int .i64 a0_1, .int .i64 a0_2, .int .i64 a0_3, .int .i64 a0_4, .slice A0_5 l0_5.length c0_5, .slice A0_6 l0_6.length c0_6]) (t := 39) ?hr ?_; (case hd => rfl); (case hg => rfl); (case hr => first | (go_simp; done) | (go_simp; rfl)); intro gb107 hg w11 hbox hb; have n0_ := Aside0.mk (below_step (by repeat (first | (with_reducible first | exact HB.out | apply below_alloc | apply pw_below_drewN | apply below_drew1) | exact HB.out)) hb); have n1_ := Aside0.mk (hbox); have n2_ := Aside0.mk ((by rw [hg]; exact (below_size (by repeat (first | (with_reducible first | exact HB.out | apply below_alloc | apply pw_below_drewN | apply below_drew1) | exact HB.out))) : w.heap.size ≤ gb107)); have n3_ := Aside0.mk ((by rw [hg]; exact (below_size (by repeat (first | (with_reducible first | exact HB.out | apply below_alloc | apply pw_below_drewN | apply below_drew1) | exact HB.out))) : w.heap.size ≤ gb107)); clear HB; have HB := n0_; have BK107 := n1_; have GW107 := n2_; have GE107 := n3_; clear n0_ n1_ n2_ n3_; clear hb hbox hg) | ((with_reducible refine gate_dst (N := 3) rfl ?_); refine box_event ?hg (N := 3) ?hd (cs := #[.int .i64 a1_0, .int .i64 a1_1, .int .i64 a1_2, .int .i64 a1_3, .int .i64 a1_4, .slice A1_5 l1_5.length c1_5, .slice A1_6 l1_6.length c1_6]) (t := 39) ?hr ?_; (case hd => rfl); (case hg => rfl); (case hr => first | (go_simp; done) | (go_simp; rfl)); intro gb108 hg w12 hbox hb; have n0_ := Aside0.mk (blk_below (g := gb107) (o := .cells #[.int .i64 a0_0, .int .i64 a0_1, .int .i64 a0_2, .int .i64 a0_3, .int .i64 a0_4, .slice A0_5 l0_5.length c0_5, .slice A0_6 l0_6.length c0_6] 39 (0, 0)) (by (with_reducible repeat (first | refine blk_drewN ?_ _ | refine blk_drew ?_ | refine blk_alloc ?_ _)); exact BK107.out) hb); have n1_ := Aside0.mk (below_step (by repeat (first | (with_reducible first | exact HB.out | apply below_alloc | apply pw_below_drewN | apply below_drew1 | refine below_set ?_ GE107.out) | exact HB.out)) hb); have n2_ := Aside0.mk (hbox); have n3_ := Aside0.mk ((by rw [hg]; exact (below_size (by repeat (first | (with_reducible first | exact HB.out | apply below_alloc | apply pw_below_drewN | apply below_drew1 | refine below_set ?_ GE107.out) | exact HB.out))) : w.heap.size ≤ gb108)); have n4_ := Aside0.mk ((by rw [hg]; exact (below_size (by repeat (first | (with_reducible first | exact HB.out | apply below_alloc | apply pw_below_drewN | apply below_drew1 | refine below_set ?_ GE107.out) | exact HB.out))) : w.heap.size ≤ gb108)); have n5_ := Aside0.mk ((by rw [hg]; exact Nat.ne_of_lt (blk_lt (g := gb107) (o := .cells #[.int .i64 a0_0, .int .i64 a0_1, .int .i64 a0_2, .int .i64 a0_3, .int .i64 a0_4, .slice A0_5 l0_5.length c0_5, .slice A0_6 l0_6.length c0_6] 39 (0, 0)) (by (with_reducible repeat (first | refine blk_drewN ?_ _ | refine blk_drew ?_ | refine blk_alloc ?_ _)); exact BK107.out)) : gb107 ≠ gb108)); have n6_ := Aside0.mk ((by rw [hg]; exact Nat.ne_of_gt (blk_lt (g := gb107) (o := .cells #[.int .i64 a0_0, .int .i64 a0_1, .int .i64 a0_2, .int .i64 a0_3, .int .i64 a0_4, .slice A0_5 l0_5.length c0_5, .slice A0_6 l0_6.length c0_6] 39 (0, 0)) (by (with_reducible repeat (first | refine blk_drewN ?_ _ | refine blk_drew ?_ | refine blk_alloc ?_ _)); exact BK107.out)) : gb108 ≠ gb107)); clear BK107; clear HB; have BK107 := n0_; have HB := n1_; have BK108 := n2_; have GW108 := n3_; have GE108 := n4_; have NB107_108 := n5_; have NB108_107 := n6_; clear n0_ n1_ n2_ n3_ n4_ n5_ n6_; clear hb hbox hg; have hnb13 := NB107_108.out; have hnc13 := NB108_107.out; have hcz14_0 : w12.cell? ⟨gb107, 0, none⟩ = some (.int .i64 a0_0) := (blk_cell BK107.out 0).trans rfl; have hcz14_1 : w12.cell? ⟨gb107, 1, none⟩ = some (.int .i64 a0_1) := (blk_cell BK107.out 1).trans rfl; have hcz14_2 : w12.cell? ⟨gb107, 2, none⟩ = some (.int .i64 a0_2) := (blk_cell BK107.out 2).trans rfl; have hcz14_3 : w12.cell? ⟨gb107, 3, none⟩ = some (.int .i64 a0_3) := (blk_cell BK107.out 3).trans rfl; have hcz14_4 : w12.cell? ⟨gb107, 4, none⟩ = some (.int .i64 a0_4) := (blk_cell BK107.out 4).trans rfl; have hcz14_5 : w12.cell? ⟨gb107, 5, none⟩ = some (.slice A0_5 l0_5.length c0_5) := (blk_cell BK107.out 5).trans rfl; have hcz14_6 : w12.cell? ⟨gb107, 6, none⟩ = some (.slice A0_6 l0_6.length c0_6) := (blk_cell BK107.out 6).trans rfl; have hfz14_0 := blk_frozen BK107.out 0; have hfz14_1 := blk_frozen BK107.out 1; have hfz14_2 := blk_frozen BK107.out 2; have hfz14_3 := blk_frozen BK107.out 3; have hfz14_4 := blk_frozen BK107.out 4; have hfz14_5 := blk_frozen BK107.out 5; have hfz14_6 := blk_frozen BK107.out 6; have hcz15_0 : w12.cell? ⟨gb108, 0, none⟩ = some (.int .i64 a1_0) := (blk_cell BK108.out 0).trans rfl; have hcz15_1 : w12.cell? ⟨gb108, 1, none⟩ = some (.int .i64 a1_1) := (blk_cell BK108.out 1).trans rfl; have hcz15_2 : w12.cell? ⟨gb108, 2, none⟩ = some (.int .i64 a1_2) := (blk_cell BK108.out 2).trans rfl; have hcz15_3 : w12.cell? ⟨gb108, 3, none⟩ = some (.int .i64 a1_3) := (blk_cell BK108.out 3).trans rfl; have hcz15_4 : w12.cell? ⟨gb108, 4, none⟩ = some (.int .i64 a1_4) := (blk_cell BK108.out 4).trans rfl; have hcz15_5 : w12.cell? ⟨gb108, 5, none⟩ = some (.slice A1_5 l1_5.length c1_5) := (blk_cell BK108.out 5).trans rfl; have hcz15_6 : w12.cell? ⟨gb108, 6, none⟩ = some (.slice A1_6 l1_6.length c1_6) := (blk_cell BK108.out 6).trans rfl; have hfz15_0 := blk_frozen BK108.out 0; have hfz15_1 := blk_frozen BK108.out 1; have hfz15_2 := blk_frozen BK108.out 2; have hfz15_3 := blk_frozen BK108.out 3; have hfz15_4 := blk_frozen BK108.out 4; have hfz15_5 := blk_frozen BK108.out 5; have hfz15_6 := blk_frozen BK108.out 6) | (go_at_call 17; (with_reducible refine (packthreadlaw_sameBytes.calls k _ _ l0_5 _ _ l1_5 true _ ?side1 ?side2 ?side3 ?side4 A8.out).mono ?_); (case side1 => repeat (first | exact (Kd.C_below HR0_5.out HB.out) | (with_reducible refine Kd.C_alloc ?_ _) | (with_reducible refine Kd.C_drewN ?_ _) | (with_reducible refine Kd.C_drew ?_))); (case side2 => exact HC0_5.out); (case side3 => repeat (first | exact (Kd.C_below HR1_5.out HB.out) | (with_reducible refine Kd.C_alloc ?_ _) | (with_reducible refine Kd.C_drewN ?_ _) | (with_reducible refine Kd.C_drew ?_))); (case side4 => exact HC1_5.out); rintro e w' ⟨rfl, ⟨nd, rfl⟩⟩) | (go_at_call 32; (with_reducible refine (packthreadlaw_sameTexts.calls k _ _ l0_6 _ _ l1_6 t110 _ ?side1 ?side2 ?side3 ?side4 A10.out).mono ?_); (case side1 => repeat (first | exact (Kd.C_below HR0_6.out (by repeat (first | (with_reducible first | exact HB.out | apply below_alloc | apply pw_below_drewN | apply below_drew1 | refine below_set ?_ GE107.out | refine below_set ?_ GE108.out) | exact HB.out))) | (with_reducible refine Kd.C_alloc ?_ _) | (with_reducible refine Kd.C_drewN ?_ _) | (with_reducible refine Kd.C_drew ?_))); (case side2 => exact HC0_6.out); (case side3 => repeat (first | exact (Kd.C_below HR1_6.out (by repeat (first | (with_reducible first | exact HB.out | apply below_alloc | apply pw_below_drewN | apply below_drew1 | refine below_set ?_ GE107.out | refine below_set ?_ GE108.out) | exact HB.out))) | (with_reducible refine Kd.C_alloc ?_ _) | (with_reducible refine Kd.C_drewN ?_ _) | (with_reducible refine Kd.C_drew ?_))); (case side4 => exact HC1_6.out); rintro e w' ⟨rfl, ⟨nd, rfl⟩⟩))
              go_ret
              exact ⟨by first | rfl | (simp [errW_none, errW_some] <;> rfl) | (simp [*, errW_none, errW_some] <;> rfl), by repeat (first | (with_reducible first | exact HB.out | apply below_alloc | apply pw_below_drewN | apply below_drew1 | refine below_set ?_ GE107.out | refine below_set ?_ GE108.out) | exact HB.out)⟩
            · replace c9 := Bool.eq_false_iff.mpr c9
              subst c9
              have H1 : (some false) = some r := by rw [if_neg (show ¬ (false = true) by decide)] at H; exact H
              clear H
              have H := H1
              clear H1
              obtain rfl := Option.some.inj H
              go_enter Try.func25, Try.ntmps25
              go_wp2_with (first | ((with_reducible refine gate_dst (N := 2) rfl ?_); refine box_event ?hg (N := 2) ?hd (cs := #[.int .i64 a0_0, .int .i64 a0_1, .int .i64 a0_2, .int .i64 a0_3, .int .i64 a0_4, .slice A0_5 l0_5.length c0_5, .slice A0_6 l0_6.length c0_6]) (t := 39) ?hr ?_; (case hd => rfl); (case hg => rfl); (case hr => first | (go_simp; done) | (go_simp; rfl)); intro gb107 hg w16 hbox hb; have n0_ := Aside0.mk (below_step (by repeat (first | (with_reducible first | exact HB.out | apply below_alloc | apply pw_below_drewN | apply below_drew1) | exact HB.out)) hb); have n1_ := Aside0.mk (hbox); have n2_ := Aside0.mk ((by rw [hg]; exact (below_size (by repeat (first | (with_reducible first | exact HB.out | apply below_alloc | apply pw_below_drewN | apply below_drew1) | exact HB.out))) : w.heap.size ≤ gb107)); have n3_ := Aside0.mk ((by rw [hg]; exact (below_size (by repeat (first | (with_reducible first | exact HB.out | apply below_alloc | apply pw_below_drewN | apply below_drew1) | exact HB.out))) : w.heap.size ≤ gb107)); clear HB; have HB := n0_; have BK107 := n1_; have GW107 := n2_; have GE107 := n3_; clear n0_ n1_ n2_ n3_; clear hb hbox hg) | ((with_reducible refine gate_dst (N := 3) rfl ?_); refine box_event ?hg (N := 3) ?hd (cs := #[.int .i64 a1_0, .int .i64 a1_1, .int .i64 a1_2, .int .i64 a1_3, .int .i64 a1_4, .slice A1_5 l1_5.length c1_5, .slice A1_6 l1_6.length c1_6]) (t := 39) ?hr ?_; (case hd => rfl); (case hg => rfl); (case hr => first | (go_simp; done) | (go_simp; rfl)); intro gb108 hg w17 hbox hb; have n0_ := Aside0.mk (blk_below (g := gb107) (o := .cells #[.int .i64 a0_0, .int .i64 a0_1, .int .i64 a0_2, .int .i64 a0_3, .int .i64 a0_4, .slice A0_5 l0_5.length c0_5, .slice A0_6 l0_6.length c0_6] 39 (0, 0)) (by (with_reducible repeat (first | refine blk_drewN ?_ _ | refine blk_drew ?_ | refine blk_alloc ?_ _)); exact BK107.out) hb); have n1_ := Aside0.mk (below_step (by repeat (first | (with_reducible first | exact HB.out | apply below_alloc | apply pw_below_drewN | apply below_drew1 | refine below_set ?_ GE107.out) | exact HB.out)) hb); have n2_ := Aside0.mk (hbox); have n3_ := Aside0.mk ((by rw [hg]; exact (below_size (by repeat (first | (with_reducible first | exact HB.out | apply below_alloc | apply pw_below_drewN | apply below_drew1 | refine below_set ?_ GE107.out) | exact HB.out))) : w.heap.size ≤ gb108)); have n4_ := Aside0.mk ((by rw [hg]; exact (below_size (by repeat (first | (with_reducible first | exact HB.out | apply below_alloc | apply pw_below_drewN | apply below_drew1 | refine below_set ?_ GE107.out) | exact HB.out))) : w.heap.size ≤ gb108)); have n5_ := Aside0.mk ((by rw [hg]; exact Nat.ne_of_lt (blk_lt (g := gb107) (o := .cells #[.int .i64 a0_0, .int .i64 a0_1, .int .i64 a0_2, .int .i64 a0_3, .int .i64 a0_4, .slice A0_5 l0_5.length c0_5, .slice A0_6 l0_6.length c0_6] 39 (0, 0)) (by (with_reducible repeat (first | refine blk_drewN ?_ _ | refine blk_drew ?_ | refine blk_alloc ?_ _)); exact BK107.out)) : gb107 ≠ gb108)); have n6_ := Aside0.mk ((by rw [hg]; exact Nat.ne_of_gt (blk_lt (g := gb107) (o := .cells #[.int .i64 a0_0, .int .i64 a0_1, .int .i64 a0_2, .int .i64 a0_3, .int .i64 a0_4, .slice A0_5 l0_5.length c0_5, .slice A0_6 l0_6.length c0_6] 39 (0, 0)) (by (with_reducible repeat (first | refine blk_drewN ?_ _ | refine blk_drew ?_ | refine blk_alloc ?_ _)); exact BK107.out)) : gb108 ≠ gb107)); clear BK107; clear HB; have BK107 := n0_; have HB := n1_; have BK108 := n2_; have GW108 := n3_; have GE108 := n4_; have NB107_108 := n5_; have NB108_107 := n6_; clear n0_ n1_ n2_ n3_ n4_ n5_ n6_; clear hb hbox hg; have hnb18 := NB107_108.out; have hnc18 := NB108_107.out; have hcz19_0 : w17.cell? ⟨gb107, 0, none⟩ = some (.int .i64 a0_0) := (blk_cell BK107.out 0).trans rfl; have hcz19_1 : w17.cell? ⟨gb107, 1, none⟩ = some (.int .i64 a0_1) := (blk_cell BK107.out 1).trans rfl; have hcz19_2 : w17.cell? ⟨gb107, 2, none⟩ = some (.int .i64 a0_2) := (blk_cell BK107.out 2).trans rfl; have hcz19_3 : w17.cell? ⟨gb107, 3, none⟩ = some (.int .i64 a0_3) := (blk_cell BK107.out 3).trans rfl; have hcz19_4 : w17.cell? ⟨gb107, 4, none⟩ = some (.int .i64 a0_4) := (blk_cell BK107.out 4).trans rfl; have hcz19_5 : w17.cell? ⟨gb107, 5, none⟩ = some (.slice A0_5 l0_5.length c0_5) := (blk_cell BK107.out 5).trans rfl; have hcz19_6 : w17.cell? ⟨gb107, 6, none⟩ = some (.slice A0_6 l0_6.length c0_6) := (blk_cell BK107.out 6).trans rfl; have hfz19_0 := blk_frozen BK107.out 0; have hfz19_1 := blk_frozen BK107.out 1; have hfz19_2 := blk_frozen BK107.out 2; have hfz19_3 := blk_frozen BK107.out 3; have hfz19_4 := blk_frozen BK107.out 4; have hfz19_5 := blk_frozen BK107.out 5; have hfz19_6 := blk_frozen BK107.out 6; have hcz20_0 : w17.cell? ⟨gb108, 0, none⟩ = some (.int .i64 a1_0) := (blk_cell BK108.out 0).trans rfl; have hcz20_1 : w17.cell? ⟨gb108, 1, none⟩ = some (.int .i64 a1_1) := (blk_cell BK108.out 1).trans rfl; have hcz20_2 : w17.cell? ⟨gb108, 2, none⟩ = some (.int .i64 a1_2) := (blk_cell BK108.out 2).trans rfl; have hcz20_3 : w17.cell? ⟨gb108, 3, none⟩ = some (.int .i64 a1_3) := (blk_cell BK108.out 3).trans rfl; have hcz20_4 : w17.cell? ⟨gb108, 4, none⟩ = some (.int .i64 a1_4) := (blk_cell BK108.out 4).trans rfl; have hcz20_5 : w17.cell? ⟨gb108, 5, none⟩ = some (.slice A1_5 l1_5.length c1_5) := (blk_cell BK108.out 5).trans rfl; have hcz20_6 : w17.cell? ⟨gb108, 6, none⟩ = some (.slice A1_6 l1_6.length c1_6) := (blk_cell BK108.out 6).trans rfl; have hfz20_0 := blk_frozen BK108.out 0; have hfz20_1 := blk_frozen BK108.out 1; have hfz20_2 := blk_frozen BK108.out 2; have hfz20_3 := blk_frozen BK108.out 3; have hfz20_4 := blk_frozen BK108.out 4; have hfz20_5 := blk_frozen BK108.out 5; have hfz20_6 := blk_frozen BK108.out 6) | (go_at_call 17; (with_reducible refine (packthreadlaw_sameBytes.calls k _ _ l0_5 _ _ l1_5 false _ ?side1 ?side2 ?side3 ?side4 A8.out).mono ?_); (case side1 => repeat (first | exact (Kd.C_below HR0_5.out HB.out) | (with_reducible refine Kd.C_alloc ?_ _) | (with_reducible refine Kd.C_drewN ?_ _) | (with_reducible refine Kd.C_drew ?_))); (case side2 => exact HC0_5.out); (case side3 => repeat (first | exact (Kd.C_below HR1_5.out HB.out) | (with_reducible refine Kd.C_alloc ?_ _) | (with_reducible refine Kd.C_drewN ?_ _) | (with_reducible refine Kd.C_drew ?_))); (case side4 => exact HC1_5.out); rintro e w' ⟨rfl, ⟨nd, rfl⟩⟩))
              go_ret
              exact ⟨by first | rfl | (simp [errW_none, errW_some] <;> rfl) | (simp [*, errW_none, errW_some] <;> rfl), by repeat (first | (with_reducible first | exact HB.out | apply below_alloc | apply pw_below_drewN | apply below_drew1 | refine below_set ?_ GE107.out | refine below_set ?_ GE108.out) | exact HB.out)⟩
          · rw [if_neg c7] at H
            have c7b0 : (a0_4 == a1_4) = false := beq_eq_false_iff_ne.mpr c7
            have c7b1 : (a0_4 != a1_4) = true := bne_iff_ne.mpr c7
            obtain rfl := Option.some.inj H
            go_enter Try.func25, Try.ntmps25
            go_wp2_with (first | ((with_reducible refine gate_dst (N := 2) rfl ?_); refine box_event ?hg (N := 2) ?hd (cs := #[.int .i64 a0_0, .int .i64 a0_1, .int .i64 a0_2, .int .i64 a0_3, .int .i64 a0_4, .slice A0_5 l0_5.length c0_5, .slice A0_6 l0_6.length c0_6]) (t := 39) ?hr ?_; (case hd => rfl); (case hg => rfl); (case hr => first | (go_simp; done) | (go_simp; rfl)); intro gb107 hg w21 hbox hb; have n0_ := Aside0.mk (below_step (by repeat (first | (with_reducible first | exact HB.out | apply below_alloc | apply pw_below_drewN | apply below_drew1) | exact HB.out)) hb); have n1_ := Aside0.mk (hbox); have n2_ := Aside0.mk ((by rw [hg]; exact (below_size (by repeat (first | (with_reducible first | exact HB.out | apply below_alloc | apply pw_below_drewN | apply below_drew1) | exact HB.out))) : w.heap.size ≤ gb107)); have n3_ := Aside0.mk ((by rw [hg]; exact (below_size (by repeat (first | (with_reducible first | exact HB.out | apply below_alloc | apply pw_below_drewN | apply below_drew1) | exact HB.out))) : w.heap.size ≤ gb107)); clear HB; have HB := n0_; have BK107 := n1_; have GW107 := n2_; have GE107 := n3_; clear n0_ n1_ n2_ n3_; clear hb hbox hg) | ((with_reducible refine gate_dst (N := 3) rfl ?_); refine box_event ?hg (N := 3) ?hd (cs := #[.int .i64 a1_0, .int .i64 a1_1, .int .i64 a1_2, .int .i64 a1_3, .int .i64 a1_4, .slice A1_5 l1_5.length c1_5, .slice A1_6 l1_6.length c1_6]) (t := 39) ?hr ?_; (case hd => rfl); (case hg => rfl); (case hr => first | (go_simp; done) | (go_simp; rfl)); intro gb108 hg w22 hbox hb; have n0_ := Aside0.mk (blk_below (g := gb107) (o := .cells #[.int .i64 a0_0, .int .i64 a0_1, .int .i64 a0_2, .int .i64 a0_3, .int .i64 a0_4, .slice A0_5 l0_5.length c0_5, .slice A0_6 l0_6.length c0_6] 39 (0, 0)) (by (with_reducible repeat (first | refine blk_drewN ?_ _ | refine blk_drew ?_ | refine blk_alloc ?_ _)); exact BK107.out) hb); have n1_ := Aside0.mk (below_step (by repeat (first | (with_reducible first | exact HB.out | apply below_alloc | apply pw_below_drewN | apply below_drew1 | refine below_set ?_ GE107.out) | exact HB.out)) hb); have n2_ := Aside0.mk (hbox); have n3_ := Aside0.mk ((by rw [hg]; exact (below_size (by repeat (first | (with_reducible first | exact HB.out | apply below_alloc | apply pw_below_drewN | apply below_drew1 | refine below_set ?_ GE107.out) | exact HB.out))) : w.heap.size ≤ gb108)); have n4_ := Aside0.mk ((by rw [hg]; exact (below_size (by repeat (first | (with_reducible first | exact HB.out | apply below_alloc | apply pw_below_drewN | apply below_drew1 | refine below_set ?_ GE107.out) | exact HB.out))) : w.heap.size ≤ gb108)); have n5_ := Aside0.mk ((by rw [hg]; exact Nat.ne_of_lt (blk_lt (g := gb107) (o := .cells #[.int .i64 a0_0, .int .i64 a0_1, .int .i64 a0_2, .int .i64 a0_3, .int .i64 a0_4, .slice A0_5 l0_5.length c0_5, .slice A0_6 l0_6.length c0_6] 39 (0, 0)) (by (with_reducible repeat (first | refine blk_drewN ?_ _ | refine blk_drew ?_ | refine blk_alloc ?_ _)); exact BK107.out)) : gb107 ≠ gb108)); have n6_ := Aside0.mk ((by rw [hg]; exact Nat.ne_of_gt (blk_lt (g := gb107) (o := .cells #[.int .i64 a0_0, .int .i64 a0_1, .int .i64 a0_2, .int .i64 a0_3, .int .i64 a0_4, .slice A0_5 l0_5.length c0_5, .slice A0_6 l0_6.length c0_6] 39 (0, 0)) (by (with_reducible repeat (first | refine blk_drewN ?_ _ | refine blk_drew ?_ | refine blk_alloc ?_ _)); exact BK107.out)) : gb108 ≠ gb107)); clear BK107; clear HB; have BK107 := n0_; have HB := n1_; have BK108 := n2_; have GW108 := n3_; have GE108 := n4_; have NB107_108 := n5_; have NB108_107 := n6_; clear n0_ n1_ n2_ n3_ n4_ n5_ n6_; clear hb hbox hg; have hnb23 := NB107_108.out; have hnc23 := NB108_107.out; have hcz24_0 : w22.cell? ⟨gb107, 0, none⟩ = some (.int .i64 a0_0) := (blk_cell BK107.out 0).trans rfl; have hcz24_1 : w22.cell? ⟨gb107, 1, none⟩ = some (.int .i64 a0_1) := (blk_cell BK107.out 1).trans rfl; have hcz24_2 : w22.cell? ⟨gb107, 2, none⟩ = some (.int .i64 a0_2) := (blk_cell BK107.out 2).trans rfl; have hcz24_3 : w22.cell? ⟨gb107, 3, none⟩ = some (.int .i64 a0_3) := (blk_cell BK107.out 3).trans rfl; have hcz24_4 : w22.cell? ⟨gb107, 4, none⟩ = some (.int .i64 a0_4) := (blk_cell BK107.out 4).trans rfl; have hcz24_5 : w22.cell? ⟨gb107, 5, none⟩ = some (.slice A0_5 l0_5.length c0_5) := (blk_cell BK107.out 5).trans rfl; have hcz24_6 : w22.cell? ⟨gb107, 6, none⟩ = some (.slice A0_6 l0_6.length c0_6) := (blk_cell BK107.out 6).trans rfl; have hfz24_0 := blk_frozen BK107.out 0; have hfz24_1 := blk_frozen BK107.out 1; have hfz24_2 := blk_frozen BK107.out 2; have hfz24_3 := blk_frozen BK107.out 3; have hfz24_4 := blk_frozen BK107.out 4; have hfz24_5 := blk_frozen BK107.out 5; have hfz24_6 := blk_frozen BK107.out 6; have hcz25_0 : w22.cell? ⟨gb108, 0, none⟩ = some (.int .i64 a1_0) := (blk_cell BK108.out 0).trans rfl; have hcz25_1 : w22.cell? ⟨gb108, 1, none⟩ = some (.int .i64 a1_1) := (blk_cell BK108.out 1).trans rfl; have hcz25_2 : w22.cell? ⟨gb108, 2, none⟩ = some (.int .i64 a1_2) := (blk_cell BK108.out 2).trans rfl; have hcz25_3 : w22.cell? ⟨gb108, 3, none⟩ = some (.int .i64 a1_3) := (blk_cell BK108.out 3).trans rfl; have hcz25_4 : w22.cell? ⟨gb108, 4, none⟩ = some (.int .i64 a1_4) := (blk_cell BK108.out 4).trans rfl; have hcz25_5 : w22.cell? ⟨gb108, 5, none⟩ = some (.slice A1_5 l1_5.length c1_5) := (blk_cell BK108.out 5).trans rfl; have hcz25_6 : w22.cell? ⟨gb108, 6, none⟩ = some (.slice A1_6 l1_6.length c1_6) := (blk_cell BK108.out 6).trans rfl; have hfz25_0 := blk_frozen BK108.out 0; have hfz25_1 := blk_frozen BK108.out 1; have hfz25_2 := blk_frozen BK108.out 2; have hfz25_3 := blk_frozen BK108.out 3; have hfz25_4 := blk_frozen BK108.out 4; have hfz25_5 := blk_frozen BK108.out 5; have hfz25_6 := blk_frozen BK108.out 6))
            go_ret
            exact ⟨by first | rfl | (simp [errW_none, errW_some] <;> rfl) | (simp [*, errW_none, errW_some] <;> rfl), by repeat (first | (with_reducible first | exact HB.out | apply below_alloc | apply pw_below_drewN | apply below_drew1 | refine below_set ?_ GE107.out | refine below_set ?_ GE108.out) | exact HB.out)⟩
        · rw [if_neg c6] at H
          have c6b0 : (a0_3 == a1_3) = false := beq_eq_false_iff_ne.mpr c6
          have c6b1 : (a0_3 != a1_3) = true := bne_iff_ne.mpr c6
          obtain rfl := Option.some.inj H
          go_enter Try.func25, Try.ntmps25
          go_wp2_with (first | ((with_reducible refine gate_dst (N := 2) rfl ?_); refine box_event ?hg (N := 2) ?hd (cs := #[.int .i64 a0_0, .int .i64 a0_1, .int .i64 a0_2, .int .i64 a0_3, .int .i64 a0_4, .slice A0_5 l0_5.length c0_5, .slice A0_6 l0_6.length c0_6]) (t := 39) ?hr ?_; (case hd => rfl); (case hg => rfl); (case hr => first | (go_simp; done) | (go_simp; rfl)); intro gb107 hg w26 hbox hb; have n0_ := Aside0.mk (below_step (by repeat (first | (with_reducible first | exact HB.out | apply below_alloc | apply pw_below_drewN | apply below_drew1) | exact HB.out)) hb); have n1_ := Aside0.mk (hbox); have n2_ := Aside0.mk ((by rw [hg]; exact (below_size (by repeat (first | (with_reducible first | exact HB.out | apply below_alloc | apply pw_below_drewN | apply below_drew1) | exact HB.out))) : w.heap.size ≤ gb107)); have n3_ := Aside0.mk ((by rw [hg]; exact (below_size (by repeat (first | (with_reducible first | exact HB.out | apply below_alloc | apply pw_below_drewN | apply below_drew1) | exact HB.out))) : w.heap.size ≤ gb107)); clear HB; have HB := n0_; have BK107 := n1_; have GW107 := n2_; have GE107 := n3_; clear n0_ n1_ n2_ n3_; clear hb hbox hg) | ((with_reducible refine gate_dst (N := 3) rfl ?_); refine box_event ?hg (N := 3) ?hd (cs := #[.int .i64 a1_0, .int .i64 a1_1, .int .i64 a1_2, .int .i64 a1_3, .int .i64 a1_4, .slice A1_5 l1_5.length c1_5, .slice A1_6 l1_6.length c1_6]) (t := 39) ?hr ?_; (case hd => rfl); (case hg => rfl); (case hr => first | (go_simp; done) | (go_simp; rfl)); intro gb108 hg w27 hbox hb; have n0_ := Aside0.mk (blk_below (g := gb107) (o := .cells #[.int .i64 a0_0, .int .i64 a0_1, .int .i64 a0_2, .int .i64 a0_3, .int .i64 a0_4, .slice A0_5 l0_5.length c0_5, .slice A0_6 l0_6.length c0_6] 39 (0, 0)) (by (with_reducible repeat (first | refine blk_drewN ?_ _ | refine blk_drew ?_ | refine blk_alloc ?_ _)); exact BK107.out) hb); have n1_ := Aside0.mk (below_step (by repeat (first | (with_reducible first | exact HB.out | apply below_alloc | apply pw_below_drewN | apply below_drew1 | refine below_set ?_ GE107.out) | exact HB.out)) hb); have n2_ := Aside0.mk (hbox); have n3_ := Aside0.mk ((by rw [hg]; exact (below_size (by repeat (first | (with_reducible first | exact HB.out | apply below_alloc | apply pw_below_drewN | apply below_drew1 | refine below_set ?_ GE107.out) | exact HB.out))) : w.heap.size ≤ gb108)); have n4_ := Aside0.mk ((by rw [hg]; exact (below_size (by repeat (first | (with_reducible first | exact HB.out | apply below_alloc | apply pw_below_drewN | apply below_drew1 | refine below_set ?_ GE107.out) | exact HB.out))) : w.heap.size ≤ gb108)); have n5_ := Aside0.mk ((by rw [hg]; exact Nat.ne_of_lt (blk_lt (g := gb107) (o := .cells #[.int .i64 a0_0, .int .i64 a0_1, .int .i64 a0_2, .int .i64 a0_3, .int .i64 a0_4, .slice A0_5 l0_5.length c0_5, .slice A0_6 l0_6.length c0_6] 39 (0, 0)) (by (with_reducible repeat (first | refine blk_drewN ?_ _ | refine blk_drew ?_ | refine blk_alloc ?_ _)); exact BK107.out)) : gb107 ≠ gb108)); have n6_ := Aside0.mk ((by rw [hg]; exact Nat.ne_of_gt (blk_lt (g := gb107) (o := .cells #[.int .i64 a0_0, .int .i64 a0_1, .int .i64 a0_2, .int .i64 a0_3, .int .i64 a0_4, .slice A0_5 l0_5.length c0_5, .slice A0_6 l0_6.length c0_6] 39 (0, 0)) (by (with_reducible repeat (first | refine blk_drewN ?_ _ | refine blk_drew ?_ | refine blk_alloc ?_ _)); exact BK107.out)) : gb108 ≠ gb107)); clear BK107; clear HB; have BK107 := n0_; have HB := n1_; have BK108 := n2_; have GW108 := n3_; have GE108 := n4_; have NB107_108 := n5_; have NB108_107 := n6_; clear n0_ n1_ n2_ n3_ n4_ n5_ n6_; clear hb hbox hg; have hnb28 := NB107_108.out; have hnc28 := NB108_107.out; have hcz29_0 : w27.cell? ⟨gb107, 0, none⟩ = some (.int .i64 a0_0) := (blk_cell BK107.out 0).trans rfl; have hcz29_1 : w27.cell? ⟨gb107, 1, none⟩ = some (.int .i64 a0_1) := (blk_cell BK107.out 1).trans rfl; have hcz29_2 : w27.cell? ⟨gb107, 2, none⟩ = some (.int .i64 a0_2) := (blk_cell BK107.out 2).trans rfl; have hcz29_3 : w27.cell? ⟨gb107, 3, none⟩ = some (.int .i64 a0_3) := (blk_cell BK107.out 3).trans rfl; have hcz29_4 : w27.cell? ⟨gb107, 4, none⟩ = some (.int .i64 a0_4) := (blk_cell BK107.out 4).trans rfl; have hcz29_5 : w27.cell? ⟨gb107, 5, none⟩ = some (.slice A0_5 l0_5.length c0_5) := (blk_cell BK107.out 5).trans rfl; have hcz29_6 : w27.cell? ⟨gb107, 6, none⟩ = some (.slice A0_6 l0_6.length c0_6) := (blk_cell BK107.out 6).trans rfl; have hfz29_0 := blk_frozen BK107.out 0; have hfz29_1 := blk_frozen BK107.out 1; have hfz29_2 := blk_frozen BK107.out 2; have hfz29_3 := blk_frozen BK107.out 3; have hfz29_4 := blk_frozen BK107.out 4; have hfz29_5 := blk_frozen BK107.out 5; have hfz29_6 := blk_frozen BK107.out 6; have hcz30_0 : w27.cell? ⟨gb108, 0, none⟩ = some (.int .i64 a1_0) := (blk_cell BK108.out 0).trans rfl; have hcz30_1 : w27.cell? ⟨gb108, 1, none⟩ = some (.int .i64 a1_1) := (blk_cell BK108.out 1).trans rfl; have hcz30_2 : w27.cell? ⟨gb108, 2, none⟩ = some (.int .i64 a1_2) := (blk_cell BK108.out 2).trans rfl; have hcz30_3 : w27.cell? ⟨gb108, 3, none⟩ = some (.int .i64 a1_3) := (blk_cell BK108.out 3).trans rfl; have hcz30_4 : w27.cell? ⟨gb108, 4, none⟩ = some (.int .i64 a1_4) := (blk_cell BK108.out 4).trans rfl; have hcz30_5 : w27.cell? ⟨gb108, 5, none⟩ = some (.slice A1_5 l1_5.length c1_5) := (blk_cell BK108.out 5).trans rfl; have hcz30_6 : w27.cell? ⟨gb108, 6, none⟩ = some (.slice A1_6 l1_6.length c1_6) := (blk_cell BK108.out 6).trans rfl; have hfz30_0 := blk_frozen BK108.out 0; have hfz30_1 := blk_frozen BK108.out 1; have hfz30_2 := blk_frozen BK108.out 2; have hfz30_3 := blk_frozen BK108.out 3; have hfz30_4 := blk_frozen BK108.out 4; have hfz30_5 := blk_frozen BK108.out 5; have hfz30_6 := blk_frozen BK108.out 6))
          go_ret
          exact ⟨by first | rfl | (simp [errW_none, errW_some] <;> rfl) | (simp [*, errW_none, errW_some] <;> rfl), by repeat (first | (with_reducible first | exact HB.out | apply below_alloc | apply pw_below_drewN | apply below_drew1 | refine below_set ?_ GE107.out | refine below_set ?_ GE108.out) | exact HB.out)⟩
      · rw [if_neg c5] at H
        have c5b0 : (a0_2 == a1_2) = false := beq_eq_false_iff_ne.mpr c5
        have c5b1 : (a0_2 != a1_2) = true := bne_iff_ne.mpr c5
        obtain rfl := Option.some.inj H
        go_enter Try.func25, Try.ntmps25
        go_wp2_with (first | ((with_reducible refine gate_dst (N := 2) rfl ?_); refine box_event ?hg (N := 2) ?hd (cs := #[.int .i64 a0_0, .int .i64 a0_1, .int .i64 a0_2, .int .i64 a0_3, .int .i64 a0_4, .slice A0_5 l0_5.length c0_5, .slice A0_6 l0_6.length c0_6]) (t := 39) ?hr ?_; (case hd => rfl); (case hg => rfl); (case hr => first | (go_simp; done) | (go_simp; rfl)); intro gb107 hg w31 hbox hb; have n0_ := Aside0.mk (below_step (by repeat (first | (with_reducible first | exact HB.out | apply below_alloc | apply pw_below_drewN | apply below_drew1) | exact HB.out)) hb); have n1_ := Aside0.mk (hbox); have n2_ := Aside0.mk ((by rw [hg]; exact (below_size (by repeat (first | (with_reducible first | exact HB.out | apply below_alloc | apply pw_below_drewN | apply below_drew1) | exact HB.out))) : w.heap.size ≤ gb107)); have n3_ := Aside0.mk ((by rw [hg]; exact (below_size (by repeat (first | (with_reducible first | exact HB.out | apply below_alloc | apply pw_below_drewN | apply below_drew1) | exact HB.out))) : w.heap.size ≤ gb107)); clear HB; have HB := n0_; have BK107 := n1_; have GW107 := n2_; have GE107 := n3_; clear n0_ n1_ n2_ n3_; clear hb hbox hg) | ((with_reducible refine gate_dst (N := 3) rfl ?_); refine box_event ?hg (N := 3) ?hd (cs := #[.int .i64 a1_0, .int .i64 a1_1, .int .i64 a1_2, .int .i64 a1_3, .int .i64 a1_4, .slice A1_5 l1_5.length c1_5, .slice A1_6 l1_6.length c1_6]) (t := 39) ?hr ?_; (case hd => rfl); (case hg => rfl); (case hr => first | (go_simp; done) | (go_simp; rfl)); intro gb108 hg w32 hbox hb; have n0_ := Aside0.mk (blk_below (g := gb107) (o := .cells #[.int .i64 a0_0, .int .i64 a0_1, .int .i64 a0_2, .int .i64 a0_3, .int .i64 a0_4, .slice A0_5 l0_5.length c0_5, .slice A0_6 l0_6.length c0_6] 39 (0, 0)) (by (with_reducible repeat (first | refine blk_drewN ?_ _ | refine blk_drew ?_ | refine blk_alloc ?_ _)); exact BK107.out) hb); have n1_ := Aside0.mk (below_step (by repeat (first | (with_reducible first | exact HB.out | apply below_alloc | apply pw_below_drewN | apply below_drew1 | refine below_set ?_ GE107.out) | exact HB.out)) hb); have n2_ := Aside0.mk (hbox); have n3_ := Aside0.mk ((by rw [hg]; exact (below_size (by repeat (first | (with_reducible first | exact HB.out | apply below_alloc | apply pw_below_drewN | apply below_drew1 | refine below_set ?_ GE107.out) | exact HB.out))) : w.heap.size ≤ gb108)); have n4_ := Aside0.mk ((by rw [hg]; exact (below_size (by repeat (first | (with_reducible first | exact HB.out | apply below_alloc | apply pw_below_drewN | apply below_drew1 | refine below_set ?_ GE107.out) | exact HB.out))) : w.heap.size ≤ gb108)); have n5_ := Aside0.mk ((by rw [hg]; exact Nat.ne_of_lt (blk_lt (g := gb107) (o := .cells #[.int .i64 a0_0, .int .i64 a0_1, .int .i64 a0_2, .int .i64 a0_3, .int .i64 a0_4, .slice A0_5 l0_5.length c0_5, .slice A0_6 l0_6.length c0_6] 39 (0, 0)) (by (with_reducible repeat (first | refine blk_drewN ?_ _ | refine blk_drew ?_ | refine blk_alloc ?_ _)); exact BK107.out)) : gb107 ≠ gb108)); have n6_ := Aside0.mk ((by rw [hg]; exact Nat.ne_of_gt (blk_lt (g := gb107) (o := .cells #[.int .i64 a0_0, .int .i64 a0_1, .int .i64 a0_2, .int .i64 a0_3, .int .i64 a0_4, .slice A0_5 l0_5.length c0_5, .slice A0_6 l0_6.length c0_6] 39 (0, 0)) (by (with_reducible repeat (first | refine blk_drewN ?_ _ | refine blk_drew ?_ | refine blk_alloc ?_ _)); exact BK107.out)) : gb108 ≠ gb107)); clear BK107; clear HB; have BK107 := n0_; have HB := n1_; have BK108 := n2_; have GW108 := n3_; have GE108 := n4_; have NB107_108 := n5_; have NB108_107 := n6_; clear n0_ n1_ n2_ n3_ n4_ n5_ n6_; clear hb hbox hg; have hnb33 := NB107_108.out; have hnc33 := NB108_107.out; have hcz34_0 : w32.cell? ⟨gb107, 0, none⟩ = some (.int .i64 a0_0) := (blk_cell BK107.out 0).trans rfl; have hcz34_1 : w32.cell? ⟨gb107, 1, none⟩ = some (.int .i64 a0_1) := (blk_cell BK107.out 1).trans rfl; have hcz34_2 : w32.cell? ⟨gb107, 2, none⟩ = some (.int .i64 a0_2) := (blk_cell BK107.out 2).trans rfl; have hcz34_3 : w32.cell? ⟨gb107, 3, none⟩ = some (.int .i64 a0_3) := (blk_cell BK107.out 3).trans rfl; have hcz34_4 : w32.cell? ⟨gb107, 4, none⟩ = some (.int .i64 a0_4) := (blk_cell BK107.out 4).trans rfl; have hcz34_5 : w32.cell? ⟨gb107, 5, none⟩ = some (.slice A0_5 l0_5.length c0_5) := (blk_cell BK107.out 5).trans rfl; have hcz34_6 : w32.cell? ⟨gb107, 6, none⟩ = some (.slice A0_6 l0_6.length c0_6) := (blk_cell BK107.out 6).trans rfl; have hfz34_0 := blk_frozen BK107.out 0; have hfz34_1 := blk_frozen BK107.out 1; have hfz34_2 := blk_frozen BK107.out 2; have hfz34_3 := blk_frozen BK107.out 3; have hfz34_4 := blk_frozen BK107.out 4; have hfz34_5 := blk_frozen BK107.out 5; have hfz34_6 := blk_frozen BK107.out 6; have hcz35_0 : w32.cell? ⟨gb108, 0, none⟩ = some (.int .i64 a1_0) := (blk_cell BK108.out 0).trans rfl; have hcz35_1 : w32.cell? ⟨gb108, 1, none⟩ = some (.int .i64 a1_1) := (blk_cell BK108.out 1).trans rfl; have hcz35_2 : w32.cell? ⟨gb108, 2, none⟩ = some (.int .i64 a1_2) := (blk_cell BK108.out 2).trans rfl; have hcz35_3 : w32.cell? ⟨gb108, 3, none⟩ = some (.int .i64 a1_3) := (blk_cell BK108.out 3).trans rfl; have hcz35_4 : w32.cell? ⟨gb108, 4, none⟩ = some (.int .i64 a1_4) := (blk_cell BK108.out 4).trans rfl; have hcz35_5 : w32.cell? ⟨gb108, 5, none⟩ = some (.slice A1_5 l1_5.length c1_5) := (blk_cell BK108.out 5).trans rfl; have hcz35_6 : w32.cell? ⟨gb108, 6, none⟩ = some (.slice A1_6 l1_6.length c1_6) := (blk_cell BK108.out 6).trans rfl; have hfz35_0 := blk_frozen BK108.out 0; have hfz35_1 := blk_frozen BK108.out 1; have hfz35_2 := blk_frozen BK108.out 2; have hfz35_3 := blk_frozen BK108.out 3; have hfz35_4 := blk_frozen BK108.out 4; have hfz35_5 := blk_frozen BK108.out 5; have hfz35_6 := blk_frozen BK108.out 6))
        go_ret
        exact ⟨by first | rfl | (simp [errW_none, errW_some] <;> rfl) | (simp [*, errW_none, errW_some] <;> rfl), by repeat (first | (with_reducible first | exact HB.out | apply below_alloc | apply pw_below_drewN | apply below_drew1 | refine below_set ?_ GE107.out | refine below_set ?_ GE108.out) | exact HB.out)⟩
    · rw [if_neg c4] at H
      have c4b0 : (a0_1 == a1_1) = false := beq_eq_false_iff_ne.mpr c4
      have c4b1 : (a0_1 != a1_1) = true := bne_iff_ne.mpr c4
      obtain rfl := Option.some.inj H
      go_enter Try.func25, Try.ntmps25
      go_wp2_with (first | ((with_reducible refine gate_dst (N := 2) rfl ?_); refine box_event ?hg (N := 2) ?hd (cs := #[.int .i64 a0_0, .int .i64 a0_1, .int .i64 a0_2, .int .i64 a0_3, .int .i64 a0_4, .slice A0_5 l0_5.length c0_5, .slice A0_6 l0_6.length c0_6]) (t := 39) ?hr ?_; (case hd => rfl); (case hg => rfl); (case hr => first | (go_simp; done) | (go_simp; rfl)); intro gb107 hg w36 hbox hb; have n0_ := Aside0.mk (below_step (by repeat (first | (with_reducible first | exact HB.out | apply below_alloc | apply pw_below_drewN | apply below_drew1) | exact HB.out)) hb); have n1_ := Aside0.mk (hbox); have n2_ := Aside0.mk ((by rw [hg]; exact (below_size (by repeat (first | (with_reducible first | exact HB.out | apply below_alloc | apply pw_below_drewN | apply below_drew1) | exact HB.out))) : w.heap.size ≤ gb107)); have n3_ := Aside0.mk ((by rw [hg]; exact (below_size (by repeat (first | (with_reducible first | exact HB.out | apply below_alloc | apply pw_below_drewN | apply below_drew1) | exact HB.out))) : w.heap.size ≤ gb107)); clear HB; have HB := n0_; have BK107 := n1_; have GW107 := n2_; have GE107 := n3_; clear n0_ n1_ n2_ n3_; clear hb hbox hg) | ((with_reducible refine gate_dst (N := 3) rfl ?_); refine box_event ?hg (N := 3) ?hd (cs := #[.int .i64 a1_0, .int .i64 a1_1, .int .i64 a1_2, .int .i64 a1_3, .int .i64 a1_4, .slice A1_5 l1_5.length c1_5, .slice A1_6 l1_6.length c1_6]) (t := 39) ?hr ?_; (case hd => rfl); (case hg => rfl); (case hr => first | (go_simp; done) | (go_simp; rfl)); intro gb108 hg w37 hbox hb; have n0_ := Aside0.mk (blk_below (g := gb107) (o := .cells #[.int .i64 a0_0, .int .i64 a0_1, .int .i64 a0_2, .int .i64 a0_3, .int .i64 a0_4, .slice A0_5 l0_5.length c0_5, .slice A0_6 l0_6.length c0_6] 39 (0, 0)) (by (with_reducible repeat (first | refine blk_drewN ?_ _ | refine blk_drew ?_ | refine blk_alloc ?_ _)); exact BK107.out) hb); have n1_ := Aside0.mk (below_step (by repeat (first | (with_reducible first | exact HB.out | apply below_alloc | apply pw_below_drewN | apply below_drew1 | refine below_set ?_ GE107.out) | exact HB.out)) hb); have n2_ := Aside0.mk (hbox); have n3_ := Aside0.mk ((by rw [hg]; exact (below_size (by repeat (first | (with_reducible first | exact HB.out | apply below_alloc | apply pw_below_drewN | apply below_drew1 | refine below_set ?_ GE107.out) | exact HB.out))) : w.heap.size ≤ gb108)); have n4_ := Aside0.mk ((by rw [hg]; exact (below_size (by repeat (first | (with_reducible first | exact HB.out | apply below_alloc | apply pw_below_drewN | apply below_drew1 | refine below_set ?_ GE107.out) | exact HB.out))) : w.heap.size ≤ gb108)); have n5_ := Aside0.mk ((by rw [hg]; exact Nat.ne_of_lt (blk_lt (g := gb107) (o := .cells #[.int .i64 a0_0, .int .i64 a0_1, .int .i64 a0_2, .int .i64 a0_3, .int .i64 a0_4, .slice A0_5 l0_5.length c0_5, .slice A0_6 l0_6.length c0_6] 39 (0, 0)) (by (with_reducible repeat (first | refine blk_drewN ?_ _ | refine blk_drew ?_ | refine blk_alloc ?_ _)); exact BK107.out)) : gb107 ≠ gb108)); have n6_ := Aside0.mk ((by rw [hg]; exact Nat.ne_of_gt (blk_lt (g := gb107) (o := .cells #[.int .i64 a0_0, .int .i64 a0_1, .int .i64 a0_2, .int .i64 a0_3, .int .i64 a0_4, .slice A0_5 l0_5.length c0_5, .slice A0_6 l0_6.length c0_6] 39 (0, 0)) (by (with_reducible repeat (first | refine blk_drewN ?_ _ | refine blk_drew ?_ | refine blk_alloc ?_ _)); exact BK107.out)) : gb108 ≠ gb107)); clear BK107; clear HB; have BK107 := n0_; have HB := n1_; have BK108 := n2_; have GW108 := n3_; have GE108 := n4_; have NB107_108 := n5_; have NB108_107 := n6_; clear n0_ n1_ n2_ n3_ n4_ n5_ n6_; clear hb hbox hg; have hnb38 := NB107_108.out; have hnc38 := NB108_107.out; have hcz39_0 : w37.cell? ⟨gb107, 0, none⟩ = some (.int .i64 a0_0) := (blk_cell BK107.out 0).trans rfl; have hcz39_1 : w37.cell? ⟨gb107, 1, none⟩ = some (.int .i64 a0_1) := (blk_cell BK107.out 1).trans rfl; have hcz39_2 : w37.cell? ⟨gb107, 2, none⟩ = some (.int .i64 a0_2) := (blk_cell BK107.out 2).trans rfl; have hcz39_3 : w37.cell? ⟨gb107, 3, none⟩ = some (.int .i64 a0_3) := (blk_cell BK107.out 3).trans rfl; have hcz39_4 : w37.cell? ⟨gb107, 4, none⟩ = some (.int .i64 a0_4) := (blk_cell BK107.out 4).trans rfl; have hcz39_5 : w37.cell? ⟨gb107, 5, none⟩ = some (.slice A0_5 l0_5.length c0_5) := (blk_cell BK107.out 5).trans rfl; have hcz39_6 : w37.cell? ⟨gb107, 6, none⟩ = some (.slice A0_6 l0_6.length c0_6) := (blk_cell BK107.out 6).trans rfl; have hfz39_0 := blk_frozen BK107.out 0; have hfz39_1 := blk_frozen BK107.out 1; have hfz39_2 := blk_frozen BK107.out 2; have hfz39_3 := blk_frozen BK107.out 3; have hfz39_4 := blk_frozen BK107.out 4; have hfz39_5 := blk_frozen BK107.out 5; have hfz39_6 := blk_frozen BK107.out 6; have hcz40_0 : w37.cell? ⟨gb108, 0, none⟩ = some (.int .i64 a1_0) := (blk_cell BK108.out 0).trans rfl; have hcz40_1 : w37.cell? ⟨gb108, 1, none⟩ = some (.int .i64 a1_1) := (blk_cell BK108.out 1).trans rfl; have hcz40_2 : w37.cell? ⟨gb108, 2, none⟩ = some (.int .i64 a1_2) := (blk_cell BK108.out 2).trans rfl; have hcz40_3 : w37.cell? ⟨gb108, 3, none⟩ = some (.int .i64 a1_3) := (blk_cell BK108.out 3).trans rfl; have hcz40_4 : w37.cell? ⟨gb108, 4, none⟩ = some (.int .i64 a1_4) := (blk_cell BK108.out 4).trans rfl; have hcz40_5 : w37.cell? ⟨gb108, 5, none⟩ = some (.slice A1_5 l1_5.length c1_5) := (blk_cell BK108.out 5).trans rfl; have hcz40_6 : w37.cell? ⟨gb108, 6, none⟩ = some (.slice A1_6 l1_6.length c1_6) := (blk_cell BK108.out 6).trans rfl; have hfz40_0 := blk_frozen BK108.out 0; have hfz40_1 := blk_frozen BK108.out 1; have hfz40_2 := blk_frozen BK108.out 2; have hfz40_3 := blk_frozen BK108.out 3; have hfz40_4 := blk_frozen BK108.out 4; have hfz40_5 := blk_frozen BK108.out 5; have hfz40_6 := blk_frozen BK108.out 6))
      go_ret
      exact ⟨by first | rfl | (simp [errW_none, errW_some] <;> rfl) | (simp [*, errW_none, errW_some] <;> rfl), by repeat (first | (with_reducible first | exact HB.out | apply below_alloc | apply pw_below_drewN | apply below_drew1 | refine below_set ?_ GE107.out | refine below_set ?_ GE108.out) | exact HB.out)⟩
  · rw [if_neg c3] at H
    have c3b0 : (a0_0 == a1_0) = false := beq_eq_false_iff_ne.mpr c3
    have c3b1 : (a0_0 != a1_0) = true := bne_iff_ne.mpr c3
    obtain rfl := Option.some.inj H
    go_enter Try.func25, Try.ntmps25
    go_wp2_with (first | ((with_reducible refine gate_dst (N := 2) rfl ?_); refine box_event ?hg (N := 2) ?hd (cs := #[.int .i64 a0_0, .int .i64 a0_1, .int .i64 a0_2, .int .i64 a0_3, .int .i64 a0_4, .slice A0_5 l0_5.length c0_5, .slice A0_6 l0_6.length c0_6]) (t := 39) ?hr ?_; (case hd => rfl); (case hg => rfl); (case hr => first | (go_simp; done) | (go_simp; rfl)); intro gb107 hg w41 hbox hb; have n0_ := Aside0.mk (below_step (by repeat (first | (with_reducible first | exact HB.out | apply below_alloc | apply pw_below_drewN | apply below_drew1) | exact HB.out)) hb); have n1_ := Aside0.mk (hbox); have n2_ := Aside0.mk ((by rw [hg]; exact (below_size (by repeat (first | (with_reducible first | exact HB.out | apply below_alloc | apply pw_below_drewN | apply below_drew1) | exact HB.out))) : w.heap.size ≤ gb107)); have n3_ := Aside0.mk ((by rw [hg]; exact (below_size (by repeat (first | (with_reducible first | exact HB.out | apply below_alloc | apply pw_below_drewN | apply below_drew1) | exact HB.out))) : w.heap.size ≤ gb107)); clear HB; have HB := n0_; have BK107 := n1_; have GW107 := n2_; have GE107 := n3_; clear n0_ n1_ n2_ n3_; clear hb hbox hg) | ((with_reducible refine gate_dst (N := 3) rfl ?_); refine box_event ?hg (N := 3) ?hd (cs := #[.int .i64 a1_0, .int .i64 a1_1, .int .i64 a1_2, .int .i64 a1_3, .int .i64 a1_4, .slice A1_5 l1_5.length c1_5, .slice A1_6 l1_6.length c1_6]) (t := 39) ?hr ?_; (case hd => rfl); (case hg => rfl); (case hr => first | (go_simp; done) | (go_simp; rfl)); intro gb108 hg w42 hbox hb; have n0_ := Aside0.mk (blk_below (g := gb107) (o := .cells #[.int .i64 a0_0, .int .i64 a0_1, .int .i64 a0_2, .int .i64 a0_3, .int .i64 a0_4, .slice A0_5 l0_5.length c0_5, .slice A0_6 l0_6.length c0_6] 39 (0, 0)) (by (with_reducible repeat (first | refine blk_drewN ?_ _ | refine blk_drew ?_ | refine blk_alloc ?_ _)); exact BK107.out) hb); have n1_ := Aside0.mk (below_step (by repeat (first | (with_reducible first | exact HB.out | apply below_alloc | apply pw_below_drewN | apply below_drew1 | refine below_set ?_ GE107.out) | exact HB.out)) hb); have n2_ := Aside0.mk (hbox); have n3_ := Aside0.mk ((by rw [hg]; exact (below_size (by repeat (first | (with_reducible first | exact HB.out | apply below_alloc | apply pw_below_drewN | apply below_drew1 | refine below_set ?_ GE107.out) | exact HB.out))) : w.heap.size ≤ gb108)); have n4_ := Aside0.mk ((by rw [hg]; exact (below_size (by repeat (first | (with_reducible first | exact HB.out | apply below_alloc | apply pw_below_drewN | apply below_drew1 | refine below_set ?_ GE107.out) | exact HB.out))) : w.heap.size ≤ gb108)); have n5_ := Aside0.mk ((by rw [hg]; exact Nat.ne_of_lt (blk_lt (g := gb107) (o := .cells #[.int .i64 a0_0, .int .i64 a0_1, .int .i64 a0_2, .int .i64 a0_3, .int .i64 a0_4, .slice A0_5 l0_5.length c0_5, .slice A0_6 l0_6.length c0_6] 39 (0, 0)) (by (with_reducible repeat (first | refine blk_drewN ?_ _ | refine blk_drew ?_ | refine blk_alloc ?_ _)); exact BK107.out)) : gb107 ≠ gb108)); have n6_ := Aside0.mk ((by rw [hg]; exact Nat.ne_of_gt (blk_lt (g := gb107) (o := .cells #[.int .i64 a0_0, .int .i64 a0_1, .int .i64 a0_2, .int .i64 a0_3, .int .i64 a0_4, .slice A0_5 l0_5.length c0_5, .slice A0_6 l0_6.length c0_6] 39 (0, 0)) (by (with_reducible repeat (first | refine blk_drewN ?_ _ | refine blk_drew ?_ | refine blk_alloc ?_ _)); exact BK107.out)) : gb108 ≠ gb107)); clear BK107; clear HB; have BK107 := n0_; have HB := n1_; have BK108 := n2_; have GW108 := n3_; have GE108 := n4_; have NB107_108 := n5_; have NB108_107 := n6_; clear n0_ n1_ n2_ n3_ n4_ n5_ n6_; clear hb hbox hg; have hnb43 := NB107_108.out; have hnc43 := NB108_107.out; have hcz44_0 : w42.cell? ⟨gb107, 0, none⟩ = some (.int .i64 a0_0) := (blk_cell BK107.out 0).trans rfl; have hcz44_1 : w42.cell? ⟨gb107, 1, none⟩ = some (.int .i64 a0_1) := (blk_cell BK107.out 1).trans rfl; have hcz44_2 : w42.cell? ⟨gb107, 2, none⟩ = some (.int .i64 a0_2) := (blk_cell BK107.out 2).trans rfl; have hcz44_3 : w42.cell? ⟨gb107, 3, none⟩ = some (.int .i64 a0_3) := (blk_cell BK107.out 3).trans rfl; have hcz44_4 : w42.cell? ⟨gb107, 4, none⟩ = some (.int .i64 a0_4) := (blk_cell BK107.out 4).trans rfl; have hcz44_5 : w42.cell? ⟨gb107, 5, none⟩ = some (.slice A0_5 l0_5.length c0_5) := (blk_cell BK107.out 5).trans rfl; have hcz44_6 : w42.cell? ⟨gb107, 6, none⟩ = some (.slice A0_6 l0_6.length c0_6) := (blk_cell BK107.out 6).trans rfl; have hfz44_0 := blk_frozen BK107.out 0; have hfz44_1 := blk_frozen BK107.out 1; have hfz44_2 := blk_frozen BK107.out 2; have hfz44_3 := blk_frozen BK107.out 3; have hfz44_4 := blk_frozen BK107.out 4; have hfz44_5 := blk_frozen BK107.out 5; have hfz44_6 := blk_frozen BK107.out 6; have hcz45_0 : w42.cell? ⟨gb108, 0, none⟩ = some (.int .i64 a1_0) := (blk_cell BK108.out 0).trans rfl; have hcz45_1 : w42.cell? ⟨gb108, 1, none⟩ = some (.int .i64 a1_1) := (blk_cell BK108.out 1).trans rfl; have hcz45_2 : w42.cell? ⟨gb108, 2, none⟩ = some (.int .i64 a1_2) := (blk_cell BK108.out 2).trans rfl; have hcz45_3 : w42.cell? ⟨gb108, 3, none⟩ = some (.int .i64 a1_3) := (blk_cell BK108.out 3).trans rfl; have hcz45_4 : w42.cell? ⟨gb108, 4, none⟩ = some (.int .i64 a1_4) := (blk_cell BK108.out 4).trans rfl; have hcz45_5 : w42.cell? ⟨gb108, 5, none⟩ = some (.slice A1_5 l1_5.length c1_5) := (blk_cell BK108.out 5).trans rfl; have hcz45_6 : w42.cell? ⟨gb108, 6, none⟩ = some (.slice A1_6 l1_6.length c1_6) := (blk_cell BK108.out 6).trans rfl; have hfz45_0 := blk_frozen BK108.out 0; have hfz45_1 := blk_frozen BK108.out 1; have hfz45_2 := blk_frozen BK108.out 2; have hfz45_3 := blk_frozen BK108.out 3; have hfz45_4 := blk_frozen BK108.out 4; have hfz45_5 := blk_frozen BK108.out 5; have hfz45_6 := blk_frozen BK108.out 6))
    go_ret
    exact ⟨by first | rfl | (simp [errW_none, errW_some] <;> rfl) | (simp [*, errW_none, errW_some] <;> rfl), by repeat (first | (with_reducible first | exact HB.out | apply below_alloc | apply pw_below_drewN | apply below_drew1 | refine below_set ?_ GE107.out | refine below_set ?_ GE108.out) | exact HB.out)⟩

/-! ### packthreadlaw_MsgAnswereds: function 7 -/
def packthreadlaw_MsgAnswereds.f (k : Nat) (l0 : List Int) : Option (Bool) := (msg_Answered.f l0).bind fun x => (packthreadref_MsgAnswered.f l0).bind fun y => (packthreadlaw_sameReply.f k x.1.mark x.1.code x.1.handle x.1.kind x.1.size x.1.data x.1.names y.1.mark y.1.code y.1.handle y.1.kind y.1.size y.1.data y.1.names).bind fun t => (if t = true then some (x.2 == y.2) else some false)
set_option maxHeartbeats 40000000 in
set_option maxRecDepth 100000 in
theorem packthreadlaw_MsgAnswereds.calls (k : Nat) (A0 : Option Addr) (c0 : Nat) (l0 : List Int) (r : Bool) (w : World) (hr0 : Kd.C (Kd.int .u8) w A0 l0.length l0) (hc0 : l0.length ≤ c0) (h : packthreadlaw_MsgAnswereds.f k l0 = some r) :
    Calls Try.prog 7 #[.slice A0 l0.length c0] w fun e w' => e = .returned (.bool r) ∧ Below w.heap.size w w' := by
  have HR := Aside0.mk hr0
  have HC := Aside0.mk hc0
  clear hr0 hc0
  obtain ⟨⟨x, ex⟩, hx, h⟩ := Option.bind_eq_some_iff.1 h
  obtain ⟨⟨y, ey⟩, hy, h⟩ := Option.bind_eq_some_iff.1 h
  obtain ⟨t, ht, h⟩ := Option.bind_eq_some_iff.1 h
  have HX := Aside0.mk hx
  have HY := Aside0.mk hy
  have HT := Aside0.mk ht
  have HH := Aside0.mk h
  clear hx hy ht h
  go_enter Try.func7, Try.ntmps7
  go_upto_region 2 with (go_at_call 23; with_reducible refine (msg_Answered.calls A0 c0 l0 x ex _ HR.out HC.out HX.out).mono ?_; rintro e' w2 ⟨A8, c8, A9, c9, rfl, h1, h2, h3, h4, hb2⟩; have HX8l := Aside0.mk h1; have HX8 := Aside0.mk h2; have HX9l := Aside0.mk h3; have HX9 := Aside0.mk h4; have HB2 := Aside0.mk hb2; clear h1 h2 h3 h4 hb2; dsimp only [Msg.Rp.cells, Msg.Rp.at])
  obtain ⟨w3, hw3⟩ : ∃ W, w2.alloc (Obj.cells #[.int .i64 x.mark, .int .i64 x.code, .int .i64 x.handle, .int .i64 x.kind, .int .i64 x.size, .slice A8 x.data.length c8, .slice A9 x.names.length c9] 39) = W := ⟨_, rfl⟩
  (try rw [hw3])
  obtain ⟨b3, hb3⟩ : ∃ b, w2.heap.size = b := ⟨_, rfl⟩
  (try rw [hb3])
  have HS3 : Aside0 (w3.heap[b3]? = some (.cells #[.int .i64 x.mark, .int .i64 x.code, .int .i64 x.handle, .int .i64 x.kind, .int .i64 x.size, .slice A8 x.data.length c8, .slice A9 x.names.length c9] 39 (0, 0))) := ⟨by rw [← hw3, ← hb3]; exact heap_alloc_new w2 _⟩
  have HL3 : Aside0 (Below w2.heap.size w2 w3) := ⟨by rw [← hw3]; exact below_alloc (Below.refl _ _) _⟩
  have HB3 := Aside0.mk (below_step HB2.out HL3.out)
  clear hw3 hb3
  go_upto_region 3 with (go_at_call 24; with_reducible refine (packthreadref_MsgAnswered.calls A0 c0 l0 y ey _ (Kd.C_below HR.out HB3.out) HC.out HY.out).mono ?_; rintro e' w4 ⟨B8, d8, B9, d9, rfl, h1, h2, h3, h4, hb4⟩; have HY8l := Aside0.mk h1; have HY8 := Aside0.mk h2; have HY9l := Aside0.mk h3; have HY9 := Aside0.mk h4; have HB4 := Aside0.mk (below_step HB3.out hb4); have HS4 := Aside0.mk (blk_below HS3.out hb4); have HX8b := Aside0.mk (Kd.C_below (Kd.C_below HX8.out HL3.out) hb4); have HX9b := Aside0.mk (Kd.C_below (Kd.C_below HX9.out HL3.out) hb4); clear h1 h2 h3 h4 hb4; dsimp only [Msg.Rp.cells, Msg.Rp.at])
  obtain ⟨w5, hw5⟩ : ∃ W, w4.alloc (Obj.cells #[.int .i64 y.mark, .int .i64 y.code, .int .i64 y.handle, .int .i64 y.kind, .int .i64 y.size, .slice B8 y.data.length d8, .slice B9 y.names.length d9] 39) = W := ⟨_, rfl⟩
  (try rw [hw5])
  obtain ⟨b5, hb5⟩ : ∃ b, w4.heap.size = b := ⟨_, rfl⟩
  (try rw [hb5])
  have HS5 : Aside0 (w5.heap[b5]? = some (.cells #[.int .i64 y.mark, .int .i64 y.code, .int .i64 y.handle, .int .i64 y.kind, .int .i64 y.size, .slice B8 y.data.length d8, .slice B9 y.names.length d9] 39 (0, 0))) := ⟨by rw [← hw5, ← hb5]; exact heap_alloc_new w4 _⟩
  have hl5 : Below w4.heap.size w4 w5 := by rw [← hw5]; exact below_alloc (Below.refl _ _) _
  have HB5 := Aside0.mk (below_step HB4.out hl5)
  have HS5x := Aside0.mk (blk_below HS4.out hl5)
  have HX8c := Aside0.mk (Kd.C_below HX8b.out hl5)
  have HY8c := Aside0.mk (Kd.C_below HY8.out hl5)
  have HX9c := Aside0.mk (Kd.C_below HX9b.out hl5)
  have HY9c := Aside0.mk (Kd.C_below HY9.out hl5)
  clear hw5 hb5 hl5
  have hx0 := (blk_cell HS5x.out 0).trans rfl
  have hx1 := (blk_cell HS5x.out 1).trans rfl
  have hx2 := (blk_cell HS5x.out 2).trans rfl
  have hx3 := (blk_cell HS5x.out 3).trans rfl
  have hx4 := (blk_cell HS5x.out 4).trans rfl
  have hx5 := (blk_cell HS5x.out 5).trans rfl
  have hx6 := (blk_cell HS5x.out 6).trans rfl
  have hy0 := (blk_cell HS5.out 0).trans rfl
  have hy1 := (blk_cell HS5.out 1).trans rfl
  have hy2 := (blk_cell HS5.out 2).trans rfl
  have hy3 := (blk_cell HS5.out 3).trans rfl
  have hy4 := (blk_cell HS5.out 4).trans rfl
  have hy5 := (blk_cell HS5.out 5).trans rfl
  have hy6 := (blk_cell HS5.out 6).trans rfl
  have HCALL := Aside0.mk (show ∀ W, Below w5.heap.size w5 W → Calls Try.prog 25 #[.agg #[.int .i64 x.mark, .int .i64 x.code, .int .i64 x.handle, .int .i64 x.kind, .int .i64 x.size, .slice A8 x.data.length c8, .slice A9 x.names.length c9], .agg #[.int .i64 y.mark, .int .i64 y.code, .int .i64 y.handle, .int .i64 y.kind, .int .i64 y.size, .slice B8 y.data.length d8, .slice B9 y.names.length d9]] W fun e w' => e = .returned (.bool t) ∧ Below W.heap.size W w' from fun W hW => packthreadlaw_sameReply.calls k x.mark x.code x.handle x.kind x.size A8 c8 x.data A9 c9 x.names y.mark y.code y.handle y.kind y.size B8 d8 y.data B9 d9 y.names _ _ (Kd.C_below HX8c.out hW) HX8l.out (Kd.C_below HX9c.out hW) HX9l.out (Kd.C_below HY8c.out hW) HY8l.out (Kd.C_below HY9c.out hW) HY9l.out HT.out)
  cases t with
  | true =>
    have hHH := HH.out
    rw [if_pos rfl] at hHH
    injection hHH with hHH
    subst hHH
    go_wp2_with (go_at_call 25; with_reducible refine (HCALL.out _ (Below.refl _ _)).mono ?_; rintro e' w6 ⟨rfl, hb6⟩; have HB6 := Aside0.mk (below_step HB5.out hb6); clear hb6)
    go_ret
    exact ⟨rfl, HB6.out⟩
  | false =>
    have hHH := HH.out
    rw [if_neg (by simp)] at hHH
    injection hHH with hHH
    subst hHH
    go_wp2_with (go_at_call 25; with_reducible refine (HCALL.out _ (Below.refl _ _)).mono ?_; rintro e' w6 ⟨rfl, hb6⟩; have HB6 := Aside0.mk (below_step HB5.out hb6); clear hb6)
    go_ret
    exact ⟨rfl, HB6.out⟩

end Go.Proofs.Ytkghoodhgihokaa.HMsgAnswereds
