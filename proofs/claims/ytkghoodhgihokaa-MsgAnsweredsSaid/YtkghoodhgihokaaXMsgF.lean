/- Messages: msg.Ask. -/
import Derived.Test.YtkghoodhgihokaaXMsgD
import Derived.Test.YtkghoodhgihokaaXMsgE
namespace Go.Proofs.Ytkghoodhgihokaa.Msg
open Go.RowKit Go.Lib Go.Proofs.YtkghoodhgihokaaW.PrintWords Go.Proofs.YtkghoodhgihokaaW.PrintLast Go.Proofs.YtkghoodhgihokaaW.PrintMore
set_option linter.unusedVariables false
set_option linter.unusedSimpArgs false
/-- A part without its place. -/
def Pv.strip : Pv → Pv
  | .num wd _ n => .num wd ⟨0, 0, none⟩ n
  | .text _ s => .text ⟨0, 0, none⟩ s
  | .data _ _ l _ => .data ⟨0, 0, none⟩ none l 0
theorem fits_strip (p : Pv) : fitsF p.strip = fitsF p := by cases p <;> rfl
theorem put_strip (p : Pv) : putF p.strip = putF p := by cases p <;> rfl
theorem all_strip : ∀ (o : Int) (l : List Pv), allG o (l.map Pv.strip) = allG o l
  | _, [] => rfl
  | o, p :: t => by
    rw [List.map_cons]
    unfold allG
    rw [fits_strip, all_strip]
theorem puts_strip (l : List Pv) : (l.map Pv.strip).flatMap putF = l.flatMap putF := by
  induction l with
  | nil => rfl
  | cons p t ih => rw [List.map_cons, List.flatMap_cons, List.flatMap_cons, put_strip, ih]
/-- A request without the place of its bytes. -/
def Rq.bare (q : Rq) : Rq := { q with dA := none, dc := 0 }
/-- All parts of a request. -/
def fullV (b : Nat) (q : Rq) : List Pv := begunV b q ++ partsV b q
theorem full_strip (b : Nat) (q : Rq) : (fullV b q).map Pv.strip = (fullV 0 q.bare).map Pv.strip := by
  unfold fullV
  rw [List.map_append, List.map_append]
  congr 1
  unfold partsV
  have hk : q.bare.kind = q.kind := rfl
  rw [hk]
  by_cases h1 : q.kind = 1
  · rw [if_pos h1, if_pos h1]; rfl
  rw [if_neg h1, if_neg h1]
  by_cases h2 : q.kind = 2
  · rw [if_pos h2, if_pos h2]; rfl
  rw [if_neg h2, if_neg h2]
  by_cases h3 : q.kind = 3
  · rw [if_pos h3, if_pos h3]; rfl
  rw [if_neg h3, if_neg h3]
  by_cases h4 : q.kind = 4
  · rw [if_pos h4, if_pos h4]; rfl
  rw [if_neg h4, if_neg h4]
  by_cases h5 : q.kind = 5 ∨ q.kind = 6 ∨ q.kind = 7 ∨ q.kind = 8
  · rw [if_pos h5, if_pos h5]; rfl
  rw [if_neg h5, if_neg h5]
  by_cases h9 : q.kind = 9 ∨ q.kind = 10
  · rw [if_pos h9, if_pos h9]; rfl
  rw [if_neg h9, if_neg h9]
theorem parts_nil (b : Nat) (q : Rq) : partsV b q = [] ↔ ¬ (1 ≤ q.kind ∧ q.kind ≤ 10) := by
  unfold partsV
  repeat' split
  all_goals simp
  all_goals omega
theorem full_off (b : Nat) (q : Rq) : (fullV b q).map Pv.off = (fullV 0 q.bare).map Pv.off := by
  unfold fullV
  rw [List.map_append, List.map_append]
  congr 1
  unfold partsV
  have hk : q.bare.kind = q.kind := rfl
  rw [hk]
  by_cases h1 : q.kind = 1
  · rw [if_pos h1, if_pos h1]; rfl
  rw [if_neg h1, if_neg h1]
  by_cases h2 : q.kind = 2
  · rw [if_pos h2, if_pos h2]; rfl
  rw [if_neg h2, if_neg h2]
  by_cases h3 : q.kind = 3
  · rw [if_pos h3, if_pos h3]; rfl
  rw [if_neg h3, if_neg h3]
  by_cases h4 : q.kind = 4
  · rw [if_pos h4, if_pos h4]; rfl
  rw [if_neg h4, if_neg h4]
  by_cases h5 : q.kind = 5 ∨ q.kind = 6 ∨ q.kind = 7 ∨ q.kind = 8
  · rw [if_pos h5, if_pos h5]; rfl
  rw [if_neg h5, if_neg h5]
  by_cases h9 : q.kind = 9 ∨ q.kind = 10
  · rw [if_pos h9, if_pos h9]; rfl
  rw [if_neg h9, if_neg h9]
theorem clr_bare (q : Rq) (o : Nat) : (clrO q o).bare = (clrO q.bare o).bare := by
  unfold clrO
  repeat' split
  all_goals rfl
theorem bareB_bare (q : Rq) : bareB q.bare = bareB q := rfl
theorem foldl_bare : ∀ (l : List Nat) (q q' : Rq), q.bare = q'.bare → (l.foldl clrO q).bare = (l.foldl clrO q').bare
  | [], _, _, h => h
  | o :: l, q, q', h => foldl_bare l _ _ (by rw [clr_bare, h, ← clr_bare])
theorem bareF_at (b : Nat) (q : Rq) : bareF b q = bareF 0 q.bare := by
  show bareB (((fullV b q).map Pv.off).foldl clrO q) = bareB (((fullV 0 q.bare).map Pv.off).foldl clrO q.bare)
  rw [full_off b q, ← bareB_bare, foldl_bare _ q q.bare rfl, bareB_bare]
theorem allG_zero : ∀ (l : List Pv) (o : Int), allG o l = 0 → o = 0 ∧ ∀ p ∈ l, fitsF p = 0
  | [], o, h => ⟨h, fun _ hp => by cases hp⟩
  | p :: t, o, h => by
    unfold allG at h
    by_cases h2 : fitsF p = 2
    · rw [if_pos h2] at h; cases h
    · rw [if_neg h2] at h
      by_cases ho : o = 0
      · rw [if_pos ho] at h
        obtain ⟨h3, h4⟩ := allG_zero t _ h
        exact ⟨ho, fun x hx => by
          rcases List.mem_cons.1 hx with rfl | hx
          · exact h3
          · exact h4 x hx⟩
      · rw [if_neg ho] at h
        exact absurd (allG_zero t _ h).1 ho
theorem fits_small {p : Pv} (h : fitsF p = 0) (hw : p.wok) : p.small := by
  cases p with
  | num wd a n => exact hw
  | text a s =>
    have h' : (if 200 < s.size then (1 : Int) else 0) = 0 := h
    show s.size ≤ 70000
    by_cases h2 : 200 < s.size
    · rw [if_pos h2] at h'; cases h'
    · omega
  | data a A l c =>
    have h' : (if 100 < l.length then (1 : Int) else 0) = 0 := h
    show l.length ≤ 70000
    by_cases h2 : 100 < l.length
    · rw [if_pos h2] at h'; cases h'
    · omega
theorem put_len {p : Pv} (h : p.small) : (putF p).length ≤ 70004 := by
  cases p with
  | num wd a n => have := bytesF_len wd n; show (bytesF wd n).length ≤ _; omega
  | text a s =>
    have h' : s.size ≤ 70000 := h
    have := bytesF_len 2 (s.size : Int)
    show (bytesF 2 (s.size : Int) ++ bytesOf s).length ≤ _
    rw [List.length_append, bytesOf_length]; omega
  | data a A l c =>
    have h' : l.length ≤ 70000 := h
    have := bytesF_len 2 (l.length : Int)
    show (bytesF 2 (l.length : Int) ++ l).length ≤ _
    rw [List.length_append]; omega
theorem put_len2 {p : Pv} (h : fitsF p = 0) (hw : p.wok) : (putF p).length ≤ 204 := by
  cases p with
  | num wd a n => have := bytesF_len wd n; show (bytesF wd n).length ≤ _; omega
  | text a s =>
    have h' : (if 200 < s.size then (1 : Int) else 0) = 0 := h
    have := bytesF_len 2 (s.size : Int)
    show (bytesF 2 (s.size : Int) ++ bytesOf s).length ≤ _
    rw [List.length_append, bytesOf_length]
    by_cases h2 : 200 < s.size
    · rw [if_pos h2] at h'; cases h'
    · omega
  | data a A l c =>
    have h' : (if 100 < l.length then (1 : Int) else 0) = 0 := h
    have := bytesF_len 2 (l.length : Int)
    show (bytesF 2 (l.length : Int) ++ l).length ≤ _
    rw [List.length_append]
    by_cases h2 : 100 < l.length
    · rw [if_pos h2] at h'; cases h'
    · omega
/-- What msg.Ask answers. -/
def askF (q : Rq) : List Int × Int :=
  if ¬ (1 ≤ q.kind ∧ q.kind ≤ 10) then ([], 3) else if bareF 0 q = false then ([], 4) else if allG 0 (fullV 0 q) ≠ 0 then ([], allG 0 (fullV 0 q)) else ((fullV 0 q).flatMap putF, 0)
theorem full_has (b : Nat) (q : Rq) (w : World) (hb : w.heap[b]? = some (.cells q.cells 29 (0, 0))) (hdc : q.data.length ≤ q.dc) (hd : Kd.C (Kd.int .u8) w q.dA q.data.length q.data) : ∀ p ∈ fullV b q, p.has w ∧ p.wok := by
  intro p hp
  have hc : ∀ o u, q.cells[o]? = some u → w.cell? ⟨b, o, none⟩ = some u := fun o u hu => by rw [cell_of_row w _ _ _ _ _ hb]; exact hu
  rcases List.mem_append.1 hp with h | h
  · simp only [begunV, List.mem_cons, List.not_mem_nil, or_false] at h
    rcases h with rfl | rfl
    · exact ⟨hc 0 _ rfl, .inl rfl⟩
    · exact ⟨hc 1 _ rfl, .inr (.inr rfl)⟩
  · unfold partsV at h
    repeat' split at h
    all_goals simp only [List.mem_cons, List.not_mem_nil, or_false] at h
    all_goals first
      | (rcases h with rfl | rfl | rfl)
      | (rcases h with rfl | rfl)
      | (subst h)
      | (cases h; done)
    all_goals first
      | exact ⟨hc _ _ rfl, .inl rfl⟩
      | exact ⟨hc _ _ rfl, .inr (.inl rfl)⟩
      | exact ⟨hc _ _ rfl, .inr (.inr rfl)⟩
      | exact ⟨hc _ _ rfl, trivial⟩
      | exact ⟨⟨hc _ _ rfl, hdc, hd⟩, trivial⟩
set_option maxHeartbeats 8000000 in
set_option maxRecDepth 100000 in
theorem ask_calls (q : Rq) (w : World) (hdl : q.data.length ≤ 140737488351232) (hdc : q.data.length ≤ q.dc) (hd : Kd.C (Kd.int .u8) w q.dA q.data.length q.data) :
    Calls Try.prog 15 #[.agg q.cells] w fun e w' => ∃ v, e = .returned (.tuple #[v, .int .i64 (askF q.bare).2]) ∧ Kd.R (Kd.int .u8) 5 w' w.heap.size (fun _ => True) v (askF q.bare).1 ∧ Below w.heap.size w w' := by
  obtain ⟨r1, r2, hr⟩ : ∃ r1 r2, askF q.bare = (r1, r2) := ⟨_, _, rfl⟩
  rw [hr]
  have HASK := Aside0.mk hr
  clear hr
  have hb0 : Below w.heap.size w (w.alloc (.cells q.cells 29)) := (Below.refl _ w).alloc (Nat.le_refl _) _
  have hq0 := heap_alloc_new w (.cells q.cells 29)
  obtain ⟨W1, hW1⟩ : ∃ W, w.alloc (.cells q.cells 29) = W := ⟨_, rfl⟩
  obtain ⟨b1, hb1⟩ : ∃ b, w.heap.size = b := ⟨_, rfl⟩
  have hW1' : w.alloc (.cells #[.int .i64 q.kind, .int .i64 q.mark, .string q.path, .string q.to_, .int .i64 q.how, .int .i64 q.handle, .int .i64 q.at_, .int .i64 q.count, .slice q.dA q.data.length q.dc] 29) = W1 := hW1
  rw [hW1] at hb0 hq0
  rw [hb1] at hq0
  have HB0 := Aside0.mk hb0
  have HQ0 := Aside0.mk hq0
  have HD := Aside0.mk hd
  have HHAS := Aside0.mk (full_has b1 q W1 hq0 hdc (Kd.C_below hd hb0))
  have hk0 : W1.cell? ⟨b1, 0, none⟩ = some (.int .i64 q.kind) := by rw [cell_of_row _ _ _ _ _ _ hq0]; rfl
  have HK0 := Aside0.mk hk0
  have hc0 := (blk_cell hq0 0).trans rfl
  have hrow : W1.heap[b1]? = some (.cells #[.int .i64 q.kind, .int .i64 q.mark, .string q.path, .string q.to_, .int .i64 q.how, .int .i64 q.handle, .int .i64 q.at_, .int .i64 q.count, .slice q.dA q.data.length q.dc] 29 (0, 0)) := hq0
  have HROW := Aside0.mk hrow
  have HPN := Aside0.mk (parts_nil b1 q)
  clear hb0 hq0 hk0 hW1 hd hc0 hrow
  have hlen : (fullV b1 q).length ≤ 5 := by have := partsV_len b1 q; unfold fullV; rw [List.length_append]; show 2 + _ ≤ 5; omega
  have hlen2 : (fullV b1 q).length = 2 + (partsV b1 q).length := by unfold fullV; rw [List.length_append]; rfl
  obtain ⟨l, hl⟩ : ∃ l, fullV b1 q = l := ⟨_, rfl⟩
  rw [hl] at hlen hlen2 HHAS
  have HL := Aside0.mk hl
  have HL2 := Aside0.mk hlen2
  clear hl hlen2
  have HAS := Aside0.mk (show allG 0 l = allG 0 (fullV 0 q.bare) by rw [← HL.out, ← all_strip, full_strip, all_strip])
  have HPU := Aside0.mk (show l.flatMap putF = (fullV 0 q.bare).flatMap putF by rw [← HL.out, ← puts_strip, full_strip, puts_strip])
  have HBA := Aside0.mk fun b => bareF_at b q
  show Calls Try.prog 15 #[.agg #[.int .i64 q.kind, .int .i64 q.mark, .string q.path, .string q.to_, .int .i64 q.how, .int .i64 q.handle, .int .i64 q.at_, .int .i64 q.count, .slice q.dA q.data.length q.dc]] w _
  have HBE := Aside0.mk hb1
  go_enter Try.func15, Try.ntmps15
  go_upto_region 1 with fail
  (try rw [hW1'])
  (try rw [hb1])
  clear hb1 hW1'
  go_upto_region 2 with (first
    | (go_at_call 41; refine (begun_calls b1 q _).mono ?_; rintro e w2 ⟨v2, rfl, ho2, hb2⟩; have HO2 := Aside0.mk ho2; have HB2 := Aside0.mk hb2; clear ho2 hb2)
    | (go_at_call 42; refine (parts_calls b1 q _ ((HB2.out.cell (World.block_lt_of_cell? W1 _ HK0.out)).trans HK0.out)).mono ?_; rintro e w3 ⟨v3, rfl, ho3, hb3⟩; have HO3 := Aside0.mk (Kd.R_below HO2.out hb3); have HP3 := Aside0.mk (Kd.R_reads ho3); have HB3 := Aside0.mk (HB2.out.trans (hb3.mono HB2.out.size)); clear ho3 hb3; obtain ⟨A3, c3, hv3, hc3, hC3⟩ := HP3.out; subst hv3; have HC3 := Aside0.mk hC3; clear hC3 hc3 HP3)
    | ((with_reducible refine gate_builtin (b := .append) (xs := #[.tmp 9, .tmp 10]) rfl ?_); at_builtin; refine Kd.R_append_rows kpv (w0 := W1) W1.heap.size rfl (.tmp 9) (.tmp 10) 70 78 (.agg #[.int .i64 0, .pointer none, .pointer none, .pointer none]) 32 rfl Try.underlying70 info78 rfl (by decide) (by decide) v2 (begunV b1 q) (partsV b1 q) _ _ _ (fun _ => True) (fun _ => False) rfl rfl HO3.out HC3.out (fun _ _ h => h) (fun _ hk => hk.elim) (fun _ _ => trivial) HB3.out HB3.out.size (by have := partsV_len b1 q; show (2 + (partsV b1 q).length) * 32 ≤ _; omega) ?_; intro v4 w4 ho hb hg hat; rw [show begunV b1 q ++ partsV b1 q = l from HL.out] at ho; obtain ⟨A4, c4, hv4⟩ := Kd.R_slice ho; subst hv4; have HO4 := Aside0.mk ho; have HB4 := Aside0.mk hb; clear ho hb hg hat))
  have hrow4 := (HB4.out.block _ (blk_ltn HROW.out)).trans HROW.out
  have hz0 : w4.cell? ⟨b1, 0, none⟩ = some (.int .i64 q.kind) := (blk_cell hrow4 0).trans rfl
  have hz1 : w4.cell? ⟨b1, 1, none⟩ = some (.int .i64 q.mark) := (blk_cell hrow4 1).trans rfl
  have hz2 : w4.cell? ⟨b1, 2, none⟩ = some (.string q.path) := (blk_cell hrow4 2).trans rfl
  have hz3 : w4.cell? ⟨b1, 3, none⟩ = some (.string q.to_) := (blk_cell hrow4 3).trans rfl
  have hz4 : w4.cell? ⟨b1, 4, none⟩ = some (.int .i64 q.how) := (blk_cell hrow4 4).trans rfl
  have hz5 : w4.cell? ⟨b1, 5, none⟩ = some (.int .i64 q.handle) := (blk_cell hrow4 5).trans rfl
  have hz6 : w4.cell? ⟨b1, 6, none⟩ = some (.int .i64 q.at_) := (blk_cell hrow4 6).trans rfl
  have hz7 : w4.cell? ⟨b1, 7, none⟩ = some (.int .i64 q.count) := (blk_cell hrow4 7).trans rfl
  have hz8 : w4.cell? ⟨b1, 8, none⟩ = some (.slice q.dA q.data.length q.dc) := (blk_cell hrow4 8).trans rfl
  clear hrow4
  have hask := HASK.out
  unfold askF at hask
  have hkb : q.bare.kind = q.kind := rfl
  rw [hkb] at hask
  clear hkb
  by_cases hkk : 1 ≤ q.kind ∧ q.kind ≤ 10
  case neg =>
    rw [if_pos hkk] at hask
    have hpn := HPN.out.2 hkk
    have hl2 : l.length = 2 := by rw [HL2.out, hpn]; rfl
    have e1 : ((l.length : Int) == 2) = true := beq_iff_eq.2 (by omega)
    have e1n : (l.length == 2) = true := beq_iff_eq.2 hl2
    clear hl2 hkk
    obtain ⟨rfl, rfl⟩ := Prod.mk.inj hask
    go_wp2
    go_ret2
    exact ⟨_, rfl, Kd.R_nil _ _ _ _ _, HB0.out.trans (HB4.out.mono HB0.out.size)⟩
  rw [if_neg (not_not_intro hkk)] at hask
  have hpp : 0 < (partsV b1 q).length := by
    rcases Nat.eq_zero_or_pos (partsV b1 q).length with h | h
    · exact absurd hkk (HPN.out.1 (List.eq_nil_of_length_eq_zero h))
    · exact h
  have hlen2 := HL2.out
  have e1 : ((l.length : Int) == 2) = false := beq_eq_false_iff_ne.2 (by omega)
  have e1n : (l.length == 2) = false := beq_eq_false_iff_ne.2 (by omega)
  clear hpp hlen2
  have HKK := Aside0.mk hkk
  clear hkk
  by_cases hba : bareF 0 q.bare = false
  · rw [if_pos hba] at hask
    obtain ⟨rfl, rfl⟩ := Prod.mk.inj hask
    clear hask
    go_wp2_with (first | (go_at_call 43; refine (bare_calls q _ hdl).mono ?_; rintro e w5 ⟨rfl, hb5⟩; have HB5 := Aside0.mk hb5; clear hb5; rw [HBA.out, hba]))
    go_ret2
    exact ⟨_, rfl, Kd.R_nil _ _ _ _ _, HB0.out.trans ((HB4.out.trans (HB5.out.mono HB4.out.size)).mono HB0.out.size)⟩
  have hba2 : bareF 0 q.bare = true := by cases h : bareF 0 q.bare with | true => rfl | false => exact absurd h hba
  rw [if_neg hba] at hask
  by_cases hal : allG 0 (fullV 0 q.bare) ≠ 0
  · rw [if_pos hal] at hask
    have hal2 := HAS.out
    obtain ⟨z, hz⟩ : ∃ z, allG 0 (fullV 0 q.bare) = z := ⟨_, rfl⟩
    rw [hz] at hask hal hal2
    obtain ⟨rfl, rfl⟩ := Prod.mk.inj hask
    have ez : (z != 0) = true := bne_iff_ne.2 hal
    have ez2 : (z == 0) = false := beq_eq_false_iff_ne.2 hal
    clear hask hz hal
    go_wp2_with (first | (go_at_call 43; refine (bare_calls q _ hdl).mono ?_; rintro e w5 ⟨rfl, hb5⟩; have HB5 := Aside0.mk (HB4.out.trans (hb5.mono HB4.out.size)); have HO5 := Aside0.mk (Kd.R_below HO4.out hb5); clear hb5; rw [HBA.out, hba2]) | (go_at_call 44; refine (all_calls l _ _ _ _ HO5.out (by omega) (fun p hp => ⟨Pv.has_below (HHAS.out p hp).1 HB5.out, (HHAS.out p hp).2⟩)).mono ?_; rintro e w6 ⟨rfl, hb6⟩; have HB6 := Aside0.mk (HB5.out.trans (hb6.mono HB5.out.size)); clear hb6; rw [hal2]))
    go_ret2
    exact ⟨_, rfl, Kd.R_nil _ _ _ _ _, HB0.out.trans (HB6.out.mono HB0.out.size)⟩
  · rw [if_neg hal] at hask
    have hal2 : allG 0 l = 0 := by rw [HAS.out]; exact Classical.not_not.1 hal
    have HZF := Aside0.mk (allG_zero l 0 hal2).2
    obtain ⟨hr1, rfl⟩ := Prod.mk.inj hask
    rw [← HPU.out] at hr1
    have HR1 := Aside0.mk hr1
    clear hask hal hr1
    go_wp2_with (first | (go_at_call 43; refine (bare_calls q _ hdl).mono ?_; rintro e w5 ⟨rfl, hb5⟩; have HB5 := Aside0.mk (HB4.out.trans (hb5.mono HB4.out.size)); have HO5 := Aside0.mk (Kd.R_below HO4.out hb5); clear hb5; rw [HBA.out, hba2]) | (go_at_call 44; refine (all_calls l _ _ _ _ HO5.out (by omega) (fun p hp => ⟨Pv.has_below (HHAS.out p hp).1 HB5.out, (HHAS.out p hp).2⟩)).mono ?_; rintro e w6 ⟨rfl, hb6⟩; have HB6 := Aside0.mk (HB5.out.trans (hb6.mono HB5.out.size)); have HO6 := Aside0.mk (Kd.R_below HO5.out hb6); clear hb6; rw [hal2]))
    have HP7 := Aside0.mk fun p (hp : p ∈ l) => (⟨Pv.has_below (HHAS.out p hp).1 HB6.out, fits_small (HZF.out p hp) (HHAS.out p hp).2⟩ : p.has w6 ∧ p.small)
    have HPL := Aside0.mk fun p (hp : p ∈ l) => put_len2 (HZF.out p hp) (HHAS.out p hp).2
    have hbw6 : Aside0 (Below w.heap.size w w6) := ⟨HB0.out.trans (HB6.out.mono HB0.out.size)⟩
    go_wp2
    go_loopg [6, 27] l.length (fun g s6 s27 wx => ∃ (i : Nat) (o : List Int), i + g = l.length ∧ s27 = .int .i64 (i : Int) ∧ Aside0 ((l.take i).flatMap putF = o ∧ o.length ≤ 204 * i) ∧ Aside0 (Kd.R (Kd.int .u8) 5 wx w6.heap.size (fun _ => True) s6 o) ∧ Aside0 (Below w6.heap.size w6 wx))
    case atStart => exact ⟨0, [], by omega, rfl, ⟨rfl, by simp⟩, ⟨Kd.R_nil _ _ _ _ _⟩, ⟨Below.refl _ _⟩⟩
    case round =>
      obtain ⟨i, o, hig, rfl, HO, HRo, HB⟩ := hrel
      have HIG := Aside0.mk hig
      cases gk with
      | zero =>
        obtain rfl : i = l.length := by omega
        have d1 : decide (((l.length : Nat) : Int) < ((l.length : Nat) : Int)) = false := decide_eq_false (by omega)
        have ho := HO.out.1
        rw [List.take_length, HR1.out] at ho
        subst ho
        go_wp2
        go_ret2
        exact ⟨_, rfl, Kd.R_lower HRo.out hbw6.out.size, hbw6.out.trans (HB.out.mono hbw6.out.size)⟩
      | succ g =>
        have hi : i < l.length := by omega
        have d1 : decide ((i : Int) < ((l.length : Nat) : Int)) = true := decide_eq_true (by omega)
        have d1n : decide (i < l.length) = true := decide_eq_true hi
        have i0 : (0 : Int) ≤ (i : Int) := by omega
        have i1 : (i : Int) < (l.length : Int) := by omega
        have HRx := Aside0.mk (Kd.R_below HO6.out HB.out)
        obtain ⟨g0, cap, hv, _, _, _⟩ := Kd.R_form HRx.out (by omega)
        injection hv with hv1 hv2 hv3
        subst hv1
        subst hv3
        have hrg := kpv_at HRx.out hi
        have hp := HP7.out _ (List.getElem_mem hi)
        have hpl := HPL.out _ (List.getElem_mem hi)
        have hstep : (l.take (i + 1)).flatMap putF = o ++ putF l[i] := by
          rw [List.take_succ_eq_append_getElem hi, List.flatMap_append, HO.out.1]; simp
        obtain ⟨p, hpp⟩ : ∃ p, l[i] = p := ⟨_, rfl⟩
        rw [hpp] at hrg hp hpl hstep
        clear hpp
        have HPH := Aside0.mk hp
        have HST := Aside0.mk (show (l.take (i + 1)).flatMap putF = o ++ putF p ∧ (o ++ putF p).length ≤ 204 * (i + 1) from ⟨hstep, by have := HO.out.2; rw [List.length_append]; omega⟩)
        have HO5' := Aside0.mk HO.out.2
        obtain ⟨x0, x1, x2, x3, hx⟩ : ∃ x0 x1 x2 x3, p.cells = [x0, x1, x2, x3] ∧ (∃ z, x0 = .int .i64 z) ∧ (∃ y, x1 = .pointer y) ∧ (∃ y, x2 = .pointer y) ∧ (∃ y, x3 = .pointer y) := by
          cases p <;> exact ⟨_, _, _, _, rfl, ⟨_, rfl⟩, ⟨_, rfl⟩, ⟨_, rfl⟩, ⟨_, rfl⟩⟩
        obtain ⟨hx, ⟨z0, rfl⟩, ⟨z1, rfl⟩, ⟨z2, rfl⟩, ⟨z3, rfl⟩⟩ := hx
        have hval : p.val = .agg #[.int .i64 z0, .pointer z1, .pointer z2, .pointer z3] := by unfold Pv.val; rw [hx]
        rw [hx] at hrg
        have HC := Aside0.mk fun (wx : World) (v : Value) (hB : Below w6.heap.size w6 wx) (ho : Kd.R (Kd.int .u8) 5 wx w6.heap.size (fun _ => True) v o) (hl : o.length ≤ 100000) => put_calls p w6 wx v o hB ho hl HPH.out.1 HPH.out.2
        rw [hval] at HC
        clear hp hpl hx hval hstep
        go_upto_region 14 with (first | (refine wpList_load_mid rfl 78 (.tmp 29) rfl g0 (i * 4) ?hx78 _ _ hrg Try.underlying78 rfl (by kernel_rfl) ?_) | (go_at_call 45; refine (HC.out _ _ (HB.out.alloc HB.out.size _) (Kd.R_alloc HRo.out _) (by have := HO5'.out; omega)).mono ?_; rintro e w8 ⟨v8, rfl, ho8, hb8⟩; have HO8 := Aside0.mk ho8; have HB8 := Aside0.mk hb8; clear ho8 hb8))
        clear HC
        go_wp2
        go_roundg g
        case measure => omega
        case rel => exact ⟨i + 1, o ++ putF p, by have := HIG.out; omega, by rfl, HST, HO8, HB8⟩
end Go.Proofs.Ytkghoodhgihokaa.Msg
