/- Messages: the reader of the reference. -/
import Derived.Test.YtkghoodhgihokaaXMsgR
import Derived.Test.YtkghoodhgihokaaXMsgG
namespace Go.Proofs.Ytkghoodhgihokaa.Msg
open Go.RowKit Go.Lib Go.Proofs.YtkghoodhgihokaaW.PrintWords Go.Proofs.YtkghoodhgihokaaW.PrintLast Go.Proofs.YtkghoodhgihokaaW.PrintMore
set_option linter.unusedVariables false
set_option linter.unusedSimpArgs false
theorem set_nine {W : World} {g : Nat} {a0 a1 a2 a3 a4 a5 a6 a7 a8 c0 c1 c2 c3 c4 c5 c6 c7 c8 : Value} (h : W.heap[g]? = some (.cells #[a0, a1, a2, a3, a4, a5, a6, a7, a8] 29 (0, 0))) :
    (((((((((W.setCell ⟨g, 0, none⟩ c0).setCell ⟨g, 1, none⟩ c1).setCell ⟨g, 2, none⟩ c2).setCell ⟨g, 3, none⟩ c3).setCell ⟨g, 4, none⟩ c4).setCell ⟨g, 5, none⟩ c5).setCell ⟨g, 6, none⟩ c6).setCell ⟨g, 7, none⟩ c7).setCell ⟨g, 8, none⟩ c8).heap[g]? = some (.cells #[c0, c1, c2, c3, c4, c5, c6, c7, c8] 29 (0, 0)) := by
  have h0 := blk_set h 0 c0
  have h1 := blk_set h0 1 c1
  have h2 := blk_set h1 2 c2
  have h3 := blk_set h2 3 c3
  have h4 := blk_set h3 4 c4
  have h5 := blk_set h4 5 c5
  have h6 := blk_set h5 6 c6
  have h7 := blk_set h6 7 c7
  have h8 := blk_set h7 8 c8
  simpa using h8
theorem R_nine {α : Type} {d : Kd α} {e base : Nat} {ok : Nat → Prop} {v : Value} {xs : List α} {W : World} {g : Nat} {c0 c1 c2 c3 c4 c5 c6 c7 c8 : Value} (h : d.R e W base ok v xs) (hok : ∀ k, ok k → k ≠ g) :
    d.R e (((((((((W.setCell ⟨g, 0, none⟩ c0).setCell ⟨g, 1, none⟩ c1).setCell ⟨g, 2, none⟩ c2).setCell ⟨g, 3, none⟩ c3).setCell ⟨g, 4, none⟩ c4).setCell ⟨g, 5, none⟩ c5).setCell ⟨g, 6, none⟩ c6).setCell ⟨g, 7, none⟩ c7).setCell ⟨g, 8, none⟩ c8) base ok v xs :=
  Kd.R_far (Kd.R_far (Kd.R_far (Kd.R_far (Kd.R_far (Kd.R_far (Kd.R_far (Kd.R_far (Kd.R_far h hok _) hok _) hok _) hok _) hok _) hok _) hok _) hok _) hok _
theorem below_nine {w W : World} {g : Nat} {c0 c1 c2 c3 c4 c5 c6 c7 c8 : Value} (h : Below w.heap.size w W) (hg : w.heap.size ≤ g) :
    Below w.heap.size w (((((((((W.setCell ⟨g, 0, none⟩ c0).setCell ⟨g, 1, none⟩ c1).setCell ⟨g, 2, none⟩ c2).setCell ⟨g, 3, none⟩ c3).setCell ⟨g, 4, none⟩ c4).setCell ⟨g, 5, none⟩ c5).setCell ⟨g, 6, none⟩ c6).setCell ⟨g, 7, none⟩ c7).setCell ⟨g, 8, none⟩ c8) :=
  below_set (below_set (below_set (below_set (below_set (below_set (below_set (below_set (below_set h hg) hg) hg) hg) hg) hg) hg) hg) hg
/-- Two requests in memory: one that is read, one that is not touched. -/
def RqIn2 (b b0 B : Nat) (q : Rq) (w : World) : Prop := RqIn b B q w ∧ w.heap[b0]? = some (.cells #[.int .i64 0, .int .i64 0, .string ⟨#[]⟩, .string ⟨#[]⟩, .int .i64 0, .int .i64 0, .int .i64 0, .int .i64 0, .slice none 0 0] 29 (0, 0))
theorem rq2_below {b b0 B : Nat} {q : Rq} {w w' : World} (h : RqIn2 b b0 B q w) (hb : Below w.heap.size w w') : RqIn2 b b0 B q w' := ⟨rq_below h.1 hb, (hb.block _ (blk_ltn h.2)).trans h.2⟩
theorem rqpart_block {b : Nat} {p : Pv} (h : RqPart b p) : p.addr.block = b := by
  rcases h with ⟨wd, o, n, rfl, _, _⟩ | ⟨o, s, rfl, _⟩ | ⟨A', l', c', rfl⟩ <;> rfl
theorem takeRq2_calls (b b0 : Nat) (hne : b0 ≠ b) (ps : List Pv) (hps : ∀ p ∈ ps, RqPart b p) (w0 : World) (l : List Int) (A : Option Addr) (c : Nat) (s : Rq) (w : World) (v : Value) (hbb : w0.heap.size ≤ b)
    (hl4 : ps.length ≤ 1000) (hr : Kd.C (Kd.int .u8) w0 A l.length l) (hc : l.length ≤ c) (hb : ∀ x ∈ l, 0 ≤ x ∧ x ≤ 255) (hl : l.length ≤ 140737488351232) (hB : Below w0.heap.size w0 w) (hs : RqIn2 b b0 w0.heap.size s w) (hv : kpv.R 78 w w0.heap.size (fun _ => True) v ps) :
    Calls Try.prog 50 #[.slice A l.length c, v] w fun e w' => TPost (RqIn2 b b0 w0.heap.size) w0 v ps l (takeG updQ ps s l) e w' :=
  take_calls (RqIn2 b b0 w0.heap.size) updQ ps w0 l A c s w v (fun _ _ _ => rq2_below) (fun s w p x u hp hof _ hI hx => ⟨rq_upd (hps p hp) hof hI.1 hx, (Below.heap_setCell _ _ _ _ (by rw [rqpart_block (hps p hp)]; exact hne)).trans hI.2⟩)
    (fun p hp => by
      obtain ⟨h1, h2, h3, h4⟩ := part_ok (hps p hp) hbb
      exact ⟨h1, h2, h3, fun s w hI => h4 s w hI.1⟩) hl4 hr hc hb hl hB hs hv
theorem tno_of {σ : Type} {I : σ → World → Prop} {w0 : World} {v : Value} {ps : List Pv} {l : List Int} {e : Ending} {w' : World} (h : TPost I w0 v ps l none e w') : e = .returned (.tuple #[.slice none 0 0, .bool false]) ∧ (∃ s, I s w') ∧ Below w0.heap.size w0 w' := by
  rcases h with ⟨s, _, he, hi, hb⟩ | ⟨_, _, _, _, h, _⟩
  · exact ⟨he, ⟨s, hi⟩, hb⟩
  · cases h
/-- What parts that are read leave behind. -/
def TLeft {σ : Type} (I : σ → World → Prop) (w0 : World) (v : Value) (ps : List Pv) (s : σ) (w' : World) : Prop := I s w' ∧ Below w0.heap.size w0 w' ∧ kpv.R 78 w' w0.heap.size (fun _ => True) v ps
theorem tyes_of {σ : Type} {I : σ → World → Prop} {w0 : World} {v : Value} {ps : List Pv} {l : List Int} {s : σ} {r : List Int} {e : Ending} {w' : World} (h : TPost I w0 v ps l (some (s, r)) e w') : ∃ A c, e = .returned (.tuple #[.slice A r.length c, .bool true]) ∧ (r.length ≤ c ∧ Kd.C (Kd.int .u8) w0 A r.length r ∧ r.length ≤ l.length ∧ ∀ x ∈ r, 0 ≤ x ∧ x ≤ 255) ∧ TLeft I w0 v ps s w' := by
  rcases h with ⟨_, h, _⟩ | ⟨s, r, A, c, h, he, hc, hr, hrl, hrb, hi, hb, hv⟩
  · cases h
  · cases h
    exact ⟨A, c, he, ⟨hc, hr, hrl, hrb⟩, hi, hb, hv⟩
theorem kpv_congr {e : TypeId} {w : World} {base : Nat} {ok : Nat → Prop} {v : Value} {ps ps' : List Pv} (h : kpv.R e w base ok v ps) (hc : ps.map Pv.cells = ps'.map Pv.cells) : kpv.R e w base ok v ps' := by
  have hlen : ps.length = ps'.length := by have := congrArg List.length hc; simpa using this
  obtain ⟨h1, inner, h2, h3⟩ := h
  refine ⟨h1, inner, by rw [← hlen]; exact h2, by rw [h3.1, hlen], fun j p hj => ?_⟩
  have hj' : (ps'.map Pv.cells)[j]? = some p.cells := by rw [List.getElem?_map, hj]; rfl
  rw [← hc, List.getElem?_map] at hj'
  obtain ⟨p', hp', he⟩ := Option.map_eq_some_iff.1 hj'
  have := h3.2 j p' hp'
  show _ = p.cells
  rw [← he]
  exact this
theorem parts_cells (b : Nat) {q q' : Rq} (h : q.kind = q'.kind) : (partsV b q).map Pv.cells = (partsV b q').map Pv.cells := by
  unfold partsV
  rw [h]
  repeat' split
  all_goals rfl
theorem upd_kind {b : Nat} {q : Rq} {p : Pv} {x : GV} (h : p ∈ partsV b q) (s : Rq) : (updQ s p x).kind = s.kind := by
  have ho : p.addr.off ≠ 0 := by
    unfold partsV at h
    repeat' split at h
    all_goals simp only [List.mem_cons, List.not_mem_nil, or_false] at h
    all_goals first
      | (rcases h with rfl | rfl | rfl)
      | (rcases h with rfl | rfl)
      | (subst h)
      | (cases h; done)
    all_goals exact Nat.succ_ne_zero _
  cases x with
  | num n =>
    show (if p.addr.off = 0 then { s with kind := (n : Int) } else if p.addr.off = 1 then { s with mark := (n : Int) } else if p.addr.off = 4 then { s with how := (n : Int) } else if p.addr.off = 5 then { s with handle := (n : Int) } else if p.addr.off = 6 then { s with at_ := (n : Int) } else { s with count := (n : Int) }).kind = s.kind
    rw [if_neg ho]
    repeat' split
    all_goals rfl
  | text t =>
    show (if p.addr.off = 2 then { s with path := t } else { s with to_ := t }).kind = s.kind
    split <;> rfl
  | data l => rfl
theorem take_kind {b : Nat} {q0 : Rq} : ∀ (ps : List Pv) (s : Rq) (l : List Int) (q : Rq) (r : List Int), (∀ p ∈ ps, p ∈ partsV b q0) → takeG updQ ps s l = some (q, r) → q.kind = s.kind
  | [], s, l, q, r, _, h => by cases h; rfl
  | p :: t, s, l, q, r, hp, h => by
    cases hG : getG p l with
    | none => rw [takeG_no hG] at h; cases h
    | some xr =>
      obtain ⟨x, r'⟩ := xr
      rw [takeG_yes hG] at h
      rw [take_kind t _ r' q r (fun p' hp' => hp p' (List.mem_cons_of_mem _ hp')) h]
      exact upd_kind (hp p List.mem_cons_self) s
theorem at_kind (q : Rq) (A : Option Addr) (c : Nat) : (q.at A c).kind = q.kind := rfl
theorem allG_at (b : Nat) (q : Rq) (A : Option Addr) (c : Nat) : allG 0 (partsV b (q.at A c)) = allG 0 (partsV b q) := by
  unfold partsV
  rw [at_kind]
  repeat' split
  all_goals rfl
set_option maxHeartbeats 8000000 in
set_option maxRecDepth 100000 in
theorem asked_calls (A : Option Addr) (c : Nat) (l : List Int) (w : World) (hr : Kd.C (Kd.int .u8) w A l.length l) (hc : l.length ≤ c) (hb : ∀ x ∈ l, 0 ≤ x ∧ x ≤ 255) (hl : l.length ≤ 140737488351232) :
    Calls Try.prog 18 #[.slice A l.length c] w fun e w' => APost w (askedF (w.heap.size + 1) l) e w' := by
  have HB := Aside0.mk (((Below.refl _ w).alloc (Nat.le_refl _) (.cells zeroQ.cells 29)).alloc (by simp) (.cells zeroQ.cells 29))
  obtain ⟨W1, hW1⟩ : ∃ W, (w.alloc (.cells zeroQ.cells 29)).alloc (.cells zeroQ.cells 29) = W := ⟨_, rfl⟩
  have hn0 : W1.heap[w.heap.size]? = some (.cells zeroQ.cells 29 (0, 0)) := by rw [← hW1]; exact ((Below.refl _ (w.alloc (.cells zeroQ.cells 29))).alloc (Nat.le_refl _) (.cells zeroQ.cells 29)).block _ (by simp) |>.trans (heap_alloc_new w _)
  have hn1 : W1.heap[w.heap.size + 1]? = some (.cells zeroQ.cells 29 (0, 0)) := by
    rw [← hW1]
    have := heap_alloc_new (w.alloc (.cells zeroQ.cells 29)) (.cells zeroQ.cells 29)
    rw [show (w.alloc (.cells zeroQ.cells 29)).heap.size = w.heap.size + 1 by simp] at this
    exact this
  have hWW : (w.alloc (.cells #[.int .i64 0, .int .i64 0, .string ⟨#[]⟩, .string ⟨#[]⟩, .int .i64 0, .int .i64 0, .int .i64 0, .int .i64 0, .slice none 0 0] 29)).alloc (.cells #[.int .i64 0, .int .i64 0, .string ⟨#[]⟩, .string ⟨#[]⟩, .int .i64 0, .int .i64 0, .int .i64 0, .int .i64 0, .slice none 0 0] 29) = W1 := hW1
  rw [hW1] at HB
  clear hW1
  obtain ⟨b1, hb1⟩ : ∃ b, w.heap.size + 1 = b := ⟨_, rfl⟩
  obtain ⟨b0, hb0⟩ : ∃ b, w.heap.size = b := ⟨_, rfl⟩
  have hb01 : b0 + 1 = b1 := by omega
  have HNE := Aside0.mk (show b0 ≠ b1 by omega)
  have HB0 := Aside0.mk (show w.heap.size ≤ b0 by omega)
  have HB1 := Aside0.mk (show w.heap.size ≤ b1 by omega)
  rw [hb1] at hn1 ⊢
  have HI1 := Aside0.mk (show RqIn2 b1 b0 w.heap.size zeroQ W1 from ⟨⟨none, 0, hn1, Kd.R_nil _ _ _ _ _⟩, by rw [← hb0]; exact hn0⟩)
  have HR := Aside0.mk hr
  have HC := Aside0.mk hc
  have HBY := Aside0.mk hb
  have HL := Aside0.mk hl
  have HT1 := Aside0.mk (fun (W : World) (v : Value) (hB : Below w.heap.size w W) (hs : RqIn2 b1 b0 w.heap.size zeroQ W) (hv : kpv.R 78 W w.heap.size (fun _ => True) v (begunV b1 zeroQ)) => takeRq2_calls b1 b0 HNE.out (begunV b1 zeroQ) (begun_part b1 zeroQ) w l A c zeroQ W v HB1.out (by show 2 ≤ 1000; omega) HR.out HC.out HBY.out HL.out hB hs hv)
  clear hn0 hn1 hr hc hb hl
  cases hG1 : takeG updQ (begunV b1 zeroQ) zeroQ l with
  | none =>
    have HA := Aside0.mk (show askedF b1 l = (zeroQ, 5) by unfold askedF; rw [hG1])
    rw [hG1] at HT1
    clear hG1
    go_enter Try.func18, Try.ntmps18
    go_upto_region 2 with fail
    (try rw [hWW])
    (try rw [hb1])
    (try rw [hb0])
    (try rw [hb01])
    clear hWW hb1 hb01
    go_wp2_with (first
      | (go_at_call 41; refine (begun_calls b1 zeroQ _).mono ?_; rintro e w2 ⟨v2, rfl, ho2, hb2⟩; have HB2 := Aside0.mk (HB.out.trans (hb2.mono HB.out.size)); have HO2 := Aside0.mk (Kd.R_lower ho2 HB.out.size); have HI2 := Aside0.mk (rq2_below HI1.out hb2); clear ho2 hb2)
      | (go_at_call 50; refine (HT1.out _ _ HB2.out HI2.out HO2.out).mono ?_; rintro e w3 hp3; have hp3 := tno_of hp3; obtain ⟨rfl, ⟨s3, hi3⟩, hb3⟩ := hp3; have HB3 := Aside0.mk hb3; have HH3 := Aside0.mk hi3.2; have hz0 := (blk_cell hi3.2 0).trans rfl; have hz1 := (blk_cell hi3.2 1).trans rfl; have hz2 := (blk_cell hi3.2 2).trans rfl; have hz3 := (blk_cell hi3.2 3).trans rfl; have hz4 := (blk_cell hi3.2 4).trans rfl; have hz5 := (blk_cell hi3.2 5).trans rfl; have hz6 := (blk_cell hi3.2 6).trans rfl; have hz7 := (blk_cell hi3.2 7).trans rfl; have hz8 := (blk_cell hi3.2 8).trans rfl; have hf0 := blk_frozen hi3.2 0; have hf1 := blk_frozen hi3.2 1; have hf2 := blk_frozen hi3.2 2; have hf3 := blk_frozen hi3.2 3; have hf4 := blk_frozen hi3.2 4; have hf5 := blk_frozen hi3.2 5; have hf6 := blk_frozen hi3.2 6; have hf7 := blk_frozen hi3.2 7; have hf8 := blk_frozen hi3.2 8; clear hi3 hb3))
    try simp only [Exit.inBlock, Exit.then]
    refine bodyPost_ret (results_ct rfl _ _ b0 29 _ (0, 0) _ rfl (set_nine HH3.out) Try.underlying29 rfl (by kernel_rfl)) rfl ?_
    rw [HA.out]
    exact APost.zero (below_nine HB3.out HB0.out)
  | some qr =>
    obtain ⟨q1, l1⟩ := qr
    rw [hG1] at HT1
    go_enter Try.func18, Try.ntmps18
    go_upto_region 2 with fail
    (try rw [hWW])
    (try rw [hb1])
    (try rw [hb0])
    (try rw [hb01])
    clear hWW hb1 hb01
    go_upto_region 5 with (first
      | (go_at_call 41; refine (begun_calls b1 zeroQ _).mono ?_; rintro e w2 ⟨v2, rfl, ho2, hb2⟩; have HB2 := Aside0.mk (HB.out.trans (hb2.mono HB.out.size)); have HO2 := Aside0.mk (Kd.R_lower ho2 HB.out.size); have HI2 := Aside0.mk (rq2_below HI1.out hb2); clear ho2 hb2)
      | (go_at_call 50; refine (HT1.out _ _ HB2.out HI2.out HO2.out).mono ?_; rintro e w3 hp3; obtain ⟨A3, c3, rfl, hrr3, hl3⟩ := tyes_of hp3; have HB3 := Aside0.mk hl3.2.1; have HI3 := Aside0.mk hl3.1; have HR3 := Aside0.mk hrr3; clear hp3 hrr3 hl3))
    have hk3 : ∃ A4 c4, w3.heap[b1]? = some (.cells (q1.at A4 c4).cells 29 (0, 0)) := by obtain ⟨A4, c4, h, _⟩ := HI3.out.1; exact ⟨A4, c4, h⟩
    obtain ⟨A4, c4, hk3⟩ := hk3
    have HK3 := Aside0.mk (show w3.cell? ⟨b1, 0, none⟩ = some (.int .i64 q1.kind) from (blk_cell hk3 0).trans rfl)
    clear hk3
    have he := Lib.run_eql_slice_nil (P := Try.prog)
    by_cases hk : 1 ≤ q1.kind ∧ q1.kind ≤ 10
    case neg =>
      have HA := Aside0.mk (show askedF b1 l = (zeroQ, 3) by unfold askedF; rw [hG1]; show (if ¬ (1 ≤ q1.kind ∧ q1.kind ≤ 10) then _ else _) = _; rw [if_pos hk])
      have HKN := Aside0.mk hk
      clear hG1 hk
      go_wp2_with (go_at_call 42; refine (parts_none b1 q1 _ HK3.out HKN.out).mono ?_; rintro e w4 ⟨rfl, hb4⟩; have HB4 := Aside0.mk (HB3.out.trans (hb4.mono HB3.out.size)); have HH4 := Aside0.mk (rq2_below HI3.out hb4).2; have hz0 := (blk_cell HH4.out 0).trans rfl; have hz1 := (blk_cell HH4.out 1).trans rfl; have hz2 := (blk_cell HH4.out 2).trans rfl; have hz3 := (blk_cell HH4.out 3).trans rfl; have hz4 := (blk_cell HH4.out 4).trans rfl; have hz5 := (blk_cell HH4.out 5).trans rfl; have hz6 := (blk_cell HH4.out 6).trans rfl; have hz7 := (blk_cell HH4.out 7).trans rfl; have hz8 := (blk_cell HH4.out 8).trans rfl; have hf0 := blk_frozen HH4.out 0; have hf1 := blk_frozen HH4.out 1; have hf2 := blk_frozen HH4.out 2; have hf3 := blk_frozen HH4.out 3; have hf4 := blk_frozen HH4.out 4; have hf5 := blk_frozen HH4.out 5; have hf6 := blk_frozen HH4.out 6; have hf7 := blk_frozen HH4.out 7; have hf8 := blk_frozen HH4.out 8; clear hb4)
      try simp only [Exit.inBlock, Exit.then]
      refine bodyPost_ret (results_ct rfl _ _ b0 29 _ (0, 0) _ rfl (set_nine HH4.out) Try.underlying29 rfl (by kernel_rfl)) rfl ?_
      rw [HA.out]
      exact APost.zero (below_nine HB4.out HB0.out)
    have hkv : 0 < (partsV b1 q1).length := by
      rcases Nat.eq_zero_or_pos (partsV b1 q1).length with h | h
      · exact absurd hk ((parts_nil b1 q1).1 (List.eq_nil_of_length_eq_zero h))
      · exact h
    have HPL := Aside0.mk hkv
    have HPL2 := Aside0.mk (show (partsV b1 q1).length ≤ 1000 by have := partsV_len b1 q1; omega)
    have hA : askedF b1 l = match takeG updQ (partsV b1 q1) q1 l1 with
      | none => (zeroQ, 5)
      | some (q2, r2) => if 0 < r2.length then (zeroQ, 4) else if allG 0 (partsV b1 q2) ≠ 0 then (zeroQ, 4) else (q2, 0) := by
      unfold askedF; rw [hG1]; show (if ¬ (1 ≤ q1.kind ∧ q1.kind ≤ 10) then _ else _) = _; rw [if_neg (not_not_intro hk)]; rfl
    have HT2 := Aside0.mk (fun (W : World) (v : Value) (hB : Below w.heap.size w W) (hs : RqIn2 b1 b0 w.heap.size q1 W) (hv : kpv.R 78 W w.heap.size (fun _ => True) v (partsV b1 q1)) => takeRq2_calls b1 b0 HNE.out (partsV b1 q1) (parts_part b1 q1) w l1 A3 c3 q1 W v HB1.out HPL2.out HR3.out.2.1 HR3.out.1 HR3.out.2.2.2 (by have := HR3.out.2.2.1; have := HL.out; omega) hB hs hv)
    clear hG1 hk hkv
    go_upto_region 6 with (go_at_call 42; refine (parts_calls b1 q1 _ HK3.out).mono ?_; rintro e w4 ⟨v4, rfl, ho4, hb4⟩; have HB4 := Aside0.mk (HB3.out.trans (hb4.mono HB3.out.size)); have HI4 := Aside0.mk (rq2_below HI3.out hb4); have HO4 := Aside0.mk (Kd.R_lower ho4 HB3.out.size); obtain ⟨g4, cap4, hv4, _, _, _⟩ := Kd.R_form ho4 HPL.out; subst hv4; clear ho4 hb4)
    cases hG2 : takeG updQ (partsV b1 q1) q1 l1 with
    | none =>
      rw [hG2] at HT2 hA
      have HA := Aside0.mk (show askedF b1 l = (zeroQ, 5) from hA)
      clear hG2 hA
      go_wp2_with (go_at_call 50; refine (HT2.out _ _ HB4.out HI4.out HO4.out).mono ?_; rintro e w5 hp5; have hp5 := tno_of hp5; obtain ⟨rfl, ⟨s5, hi5⟩, hb5⟩ := hp5; have HB5 := Aside0.mk hb5; have HH5 := Aside0.mk hi5.2; have hz0 := (blk_cell HH5.out 0).trans rfl; have hz1 := (blk_cell HH5.out 1).trans rfl; have hz2 := (blk_cell HH5.out 2).trans rfl; have hz3 := (blk_cell HH5.out 3).trans rfl; have hz4 := (blk_cell HH5.out 4).trans rfl; have hz5 := (blk_cell HH5.out 5).trans rfl; have hz6 := (blk_cell HH5.out 6).trans rfl; have hz7 := (blk_cell HH5.out 7).trans rfl; have hz8 := (blk_cell HH5.out 8).trans rfl; have hf0 := blk_frozen HH5.out 0; have hf1 := blk_frozen HH5.out 1; have hf2 := blk_frozen HH5.out 2; have hf3 := blk_frozen HH5.out 3; have hf4 := blk_frozen HH5.out 4; have hf5 := blk_frozen HH5.out 5; have hf6 := blk_frozen HH5.out 6; have hf7 := blk_frozen HH5.out 7; have hf8 := blk_frozen HH5.out 8; clear hi5 hb5)
      try simp only [Exit.inBlock, Exit.then]
      refine bodyPost_ret (results_ct rfl _ _ b0 29 _ (0, 0) _ rfl (set_nine HH5.out) Try.underlying29 rfl (by kernel_rfl)) rfl ?_
      rw [HA.out]
      exact APost.zero (below_nine HB5.out HB0.out)
    | some qr =>
      obtain ⟨q2, l2⟩ := qr
      rw [hG2] at HT2 hA
      have HQK := Aside0.mk (take_kind (partsV b1 q1) q1 l1 q2 l2 (fun p hp => hp) hG2)
      have TK2 := 0
      clear TK2 hG2
      by_cases hl2 : 0 < l2.length
      · have HA := Aside0.mk (show askedF b1 l = (zeroQ, 4) from hA.trans (if_pos hl2))
        have d2 : decide ((0 : Int) < (l2.length : Int)) = true := decide_eq_true (by omega)
        have d2n : decide (0 < l2.length) = true := decide_eq_true hl2
        clear hA hl2
        go_wp2_with (go_at_call 50; refine (HT2.out _ _ HB4.out HI4.out HO4.out).mono ?_; rintro e w5 hp5; obtain ⟨A5, c5, rfl, hrr5, hl5⟩ := tyes_of hp5; have HB5 := Aside0.mk hl5.2.1; have HI5 := Aside0.mk hl5.1; have HH5 := Aside0.mk hl5.1.2; have hz0 := (blk_cell HH5.out 0).trans rfl; have hz1 := (blk_cell HH5.out 1).trans rfl; have hz2 := (blk_cell HH5.out 2).trans rfl; have hz3 := (blk_cell HH5.out 3).trans rfl; have hz4 := (blk_cell HH5.out 4).trans rfl; have hz5 := (blk_cell HH5.out 5).trans rfl; have hz6 := (blk_cell HH5.out 6).trans rfl; have hz7 := (blk_cell HH5.out 7).trans rfl; have hz8 := (blk_cell HH5.out 8).trans rfl; have hf0 := blk_frozen HH5.out 0; have hf1 := blk_frozen HH5.out 1; have hf2 := blk_frozen HH5.out 2; have hf3 := blk_frozen HH5.out 3; have hf4 := blk_frozen HH5.out 4; have hf5 := blk_frozen HH5.out 5; have hf6 := blk_frozen HH5.out 6; have hf7 := blk_frozen HH5.out 7; have hf8 := blk_frozen HH5.out 8; clear hp5 hrr5 hl5)
        try simp only [Exit.inBlock, Exit.then]
        refine bodyPost_ret (results_ct rfl _ _ b0 29 _ (0, 0) _ rfl (set_nine HH5.out) Try.underlying29 rfl (by kernel_rfl)) rfl ?_
        rw [HA.out]
        exact APost.zero (below_nine HB5.out HB0.out)
      · have d2 : decide ((0 : Int) < (l2.length : Int)) = false := decide_eq_false (by omega)
        have d2n : decide (0 < l2.length) = false := decide_eq_false hl2
        have hA2 : askedF b1 l = if allG 0 (partsV b1 q2) ≠ 0 then (zeroQ, 4) else (q2, 0) := hA.trans (if_neg hl2)
        clear hA hl2
        go_upto_region 11 with (go_at_call 50; refine (HT2.out _ _ HB4.out HI4.out HO4.out).mono ?_; rintro e w5 hp5; obtain ⟨A5, c5, rfl, hrr5, hl5⟩ := tyes_of hp5; have HB5 := Aside0.mk hl5.2.1; have HI5 := Aside0.mk hl5.1; have HV5 := Aside0.mk hl5.2.2; clear hp5 hrr5 hl5)
        have hk5 : ∃ A6 c6, w5.heap[b1]? = some (.cells (q2.at A6 c6).cells 29 (0, 0)) ∧ Kd.R (Kd.int .u8) 5 w5 w.heap.size (fun _ => True) (.slice A6 q2.data.length c6) q2.data := HI5.out.1
        obtain ⟨A6, c6, hk5, hR6⟩ := hk5
        have HK5 := Aside0.mk hk5
        have HR6 := Aside0.mk hR6
        have HV6 := Aside0.mk (kpv_congr HV5.out (parts_cells b1 (show q1.kind = (q2.at A6 c6).kind from HQK.out.symm)))
        obtain ⟨z, hz⟩ : ∃ z, allG 0 (partsV b1 q2) = z := ⟨_, rfl⟩
        have HZ := Aside0.mk (show allG 0 (partsV b1 (q2.at A6 c6)) = z from (allG_at b1 q2 A6 c6).trans hz)
        rw [hz] at hA2
        have hR6' := Kd.R_reads' hR6
        have HHAS := Aside0.mk (show ∀ p ∈ partsV b1 (q2.at A6 c6), p.has w5 ∧ p.wok from fun p hp => full_has b1 (q2.at A6 c6) w5 hk5 hR6'.2.1 hR6'.2.2 p (List.mem_append_right _ hp))
        have HPL6 := Aside0.mk (show (partsV b1 (q2.at A6 c6)).length ≤ 1000 by have := partsV_len b1 (q2.at A6 c6); omega)
        clear hk5 hR6 hR6' hz
        by_cases hz : z = 0
        · subst hz
          have HA := Aside0.mk (show askedF b1 l = (q2, 0) from hA2.trans (if_neg (by simp)))
          clear hA2
          go_upto_region 13 with (go_at_call 44; refine (all_calls _ _ _ _ _ HV6.out HPL6.out HHAS.out).mono ?_; rintro e w6 ⟨rfl, hb6⟩; have HB6 := Aside0.mk (HB5.out.trans (hb6.mono HB5.out.size)); have HH6 := Aside0.mk ((hb6.block _ (blk_ltn HI5.out.2)).trans HI5.out.2); have HK6 := Aside0.mk ((hb6.block _ (blk_ltn HK5.out)).trans HK5.out); have HR7 := Aside0.mk (Kd.R_below HR6.out hb6); rw [HZ.out]; clear hb6)
          obtain ⟨hy0, hy1, hy2, hy3, hy4, hy5, hy6, hy7, hy8⟩ := nine_cells HK6.out
          have hz0 := (blk_cell HH6.out 0).trans rfl
          have hz1 := (blk_cell HH6.out 1).trans rfl
          have hz2 := (blk_cell HH6.out 2).trans rfl
          have hz3 := (blk_cell HH6.out 3).trans rfl
          have hz4 := (blk_cell HH6.out 4).trans rfl
          have hz5 := (blk_cell HH6.out 5).trans rfl
          have hz6 := (blk_cell HH6.out 6).trans rfl
          have hz7 := (blk_cell HH6.out 7).trans rfl
          have hz8 := (blk_cell HH6.out 8).trans rfl
          have hf0 := blk_frozen HH6.out 0
          have hf1 := blk_frozen HH6.out 1
          have hf2 := blk_frozen HH6.out 2
          have hf3 := blk_frozen HH6.out 3
          have hf4 := blk_frozen HH6.out 4
          have hf5 := blk_frozen HH6.out 5
          have hf6 := blk_frozen HH6.out 6
          have hf7 := blk_frozen HH6.out 7
          have hf8 := blk_frozen HH6.out 8
          go_wp2
          try simp only [Exit.inBlock, Exit.then]
          refine bodyPost_ret (results_ct rfl _ _ b0 29 _ (0, 0) _ rfl (set_nine HH6.out) Try.underlying29 rfl (by kernel_rfl)) rfl ?_
          rw [HA.out]
          exact .mk A6 c6 rfl (Kd.R_reads' HR7.out).2.1 (Kd.R_reads' (R_nine (Kd.R_types HR7.out HH6.out (by intro q hq; rcases List.mem_cons.1 hq with rfl | hq <;> first | decide | cases hq)) (fun k hk => hk.2))).2.2 (below_nine HB6.out HB0.out)
        · have HA := Aside0.mk (show askedF b1 l = (zeroQ, 4) from hA2.trans (if_pos hz))
          have ez : (z != 0) = true := bne_iff_ne.2 hz
          have ez2 : (z == 0) = false := beq_eq_false_iff_ne.2 hz
          clear hA2 hz
          go_wp2_with (go_at_call 44; refine (all_calls _ _ _ _ _ HV6.out HPL6.out HHAS.out).mono ?_; rintro e w6 ⟨rfl, hb6⟩; have HB6 := Aside0.mk (HB5.out.trans (hb6.mono HB5.out.size)); have HH6 := Aside0.mk ((hb6.block _ (blk_ltn HI5.out.2)).trans HI5.out.2); rw [HZ.out]; have hz0 := (blk_cell HH6.out 0).trans rfl; have hz1 := (blk_cell HH6.out 1).trans rfl; have hz2 := (blk_cell HH6.out 2).trans rfl; have hz3 := (blk_cell HH6.out 3).trans rfl; have hz4 := (blk_cell HH6.out 4).trans rfl; have hz5 := (blk_cell HH6.out 5).trans rfl; have hz6 := (blk_cell HH6.out 6).trans rfl; have hz7 := (blk_cell HH6.out 7).trans rfl; have hz8 := (blk_cell HH6.out 8).trans rfl; have hf0 := blk_frozen HH6.out 0; have hf1 := blk_frozen HH6.out 1; have hf2 := blk_frozen HH6.out 2; have hf3 := blk_frozen HH6.out 3; have hf4 := blk_frozen HH6.out 4; have hf5 := blk_frozen HH6.out 5; have hf6 := blk_frozen HH6.out 6; have hf7 := blk_frozen HH6.out 7; have hf8 := blk_frozen HH6.out 8; clear hb6)
          try simp only [Exit.inBlock, Exit.then]
          refine bodyPost_ret (results_ct rfl _ _ b0 29 _ (0, 0) _ rfl (set_nine HH6.out) Try.underlying29 rfl (by kernel_rfl)) rfl ?_
          rw [HA.out]
          exact APost.zero (below_nine HB6.out HB0.out)
end Go.Proofs.Ytkghoodhgihokaa.Msg
