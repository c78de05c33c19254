/- Patterns of names: packthreadref.globItem.takes. -/
import Derived.Test.YtkghoodhgihokaaXGlobI
import Derived.Deep.MidRow
namespace Go.Proofs.Ytkghoodhgihokaa.Glob
open Go.RowKit Go.Lib Go.Proofs.YtkghoodhgihokaaW.PrintWords Go.Proofs.YtkghoodhgihokaaW.PrintLast Go.Proofs.YtkghoodhgihokaaW.PrintMore
set_option linter.unusedVariables false
set_option linter.unusedSimpArgs false
theorem takes_none (k o : Nat) (nt : Bool) (b : Nat) : takesI (k, o, [], nt) b = if k = 63 then true else if k = 61 then b == o else nt := by
  unfold takesI
  simp [inR]
theorem inR_take {rs : List (Nat × Nat)} {i : Nat} (h : i < rs.length) (b : Nat) : inR (rs.take (i + 1)) b = (inR (rs.take i) b || (decide (rs[i].1 ≤ b) && decide (b ≤ rs[i].2))) := by
  unfold inR
  rw [List.take_succ_eq_append_getElem h, List.any_append]
  simp
theorem krg_at {w : World} {g n c : Nat} {rs : List (Nat × Nat)} {base : Nat} {ok : Nat → Prop} (h : krg.R 141 w base ok (.slice (some ⟨g, 0, none⟩) n c) rs) {i : Nat} (hi : i < rs.length) :
    w.rangeAt g (i * 2) [.int .u8 (rs[i].1 : Int), .int .u8 (rs[i].2 : Int)] := by
  obtain ⟨_, _, hC⟩ := Kd.R_reads' h
  obtain ⟨ad, cs, had, hl, hK, hcs⟩ := Kd.C_get hC (0, 0) (i : Int) (by omega) (by omega)
  injection had with had
  subst had
  have e : rs.getD (i : Int).toNat (0, 0) = rs[i] := by
    rw [show (i : Int).toNat = i by omega]
    simp [hi]
  rw [e] at hK
  obtain ⟨c0, c1, rfl, h0, h1⟩ := hK
  have h0' : c0 = [.int .u8 (rs[i].1 : Int)] := h0
  have h1' : c1 = [.int .u8 (rs[i].2 : Int)] := h1
  subst h0'
  subst h1'
  intro j v hj
  have := hcs j v hj
  rw [Addr.add_mid] at this
  rw [show i * 2 + j = 0 + ((i : Int).toNat * krg.sz + j) by rw [show (i : Int).toNat = i by omega]; show i * 2 + j = 0 + (i * (1 + 1) + j); omega]
  exact this
set_option maxHeartbeats 4000000 in
set_option maxRecDepth 100000 in
theorem takes_calls (k o : Nat) (nt : Bool) (rs : List (Nat × Nat)) (v : Value) (b : Nat) (w : World) (base : Nat) (ok : Nat → Prop) (hR : krg.R 141 w base ok v rs) (hl : rs.length ≤ 1000) :
    Calls Try.prog 89 #[.agg #[.int .u8 (k : Int), .int .u8 (o : Int), v, .bool nt], .int .u8 (b : Int)] w fun e w' => e = .returned (.bool (takesI (k, o, rs, nt) b)) ∧ Below w.heap.size w w' := by
  obtain ⟨RR, hRR⟩ : ∃ r, takesI (k, o, rs, nt) b = r := ⟨_, rfl⟩
  rw [hRR]
  have HR := Aside0.mk hR
  clear hR
  obtain ⟨A, cp, hA⟩ := Kd.R_slice HR.out
  subst hA
  have hb0 : Below w.heap.size w (w.alloc (.cells #[.int .u8 (k : Int), .int .u8 (o : Int), .slice A rs.length cp, .bool nt] 140)) := (Below.refl _ w).alloc (Nat.le_refl _) _
  have hit : (w.alloc (.cells #[.int .u8 (k : Int), .int .u8 (o : Int), .slice A rs.length cp, .bool nt] 140)).heap[w.heap.size]? = some (.cells #[.int .u8 (k : Int), .int .u8 (o : Int), .slice A rs.length cp, .bool nt] 140 (0, 0)) := heap_alloc_new w _
  go_enter Try.func89, Try.ntmps89
  go_upto_region 1 with fail
  obtain ⟨W1, hW1⟩ : ∃ W, w.alloc (.cells #[.int .u8 (k : Int), .int .u8 (o : Int), .slice A rs.length cp, .bool nt] 140) = W := ⟨_, rfl⟩
  obtain ⟨b2, hb2⟩ : ∃ b, w.heap.size = b := ⟨_, rfl⟩
  have HR1 := Aside0.mk (Kd.R_alloc HR.out (.cells #[.int .u8 (k : Int), .int .u8 (o : Int), .slice A rs.length cp, .bool nt] 140))
  rw [hW1] at hb0 hit HR1 ⊢
  rw [hb2] at hit ⊢
  have HB0 := Aside0.mk hb0
  clear hb0
  have HIT := Aside0.mk hit
  clear hit HR hW1
  have hk0 : W1.cell? ⟨b2, 0, none⟩ = some (.int .u8 (k : Int)) := by rw [cell_of_row W1 _ _ _ _ _ HIT.out]; rfl
  have hk1 : W1.cell? ⟨b2, 1, none⟩ = some (.int .u8 (o : Int)) := by rw [cell_of_row W1 _ _ _ _ _ HIT.out]; rfl
  have hk2 : W1.cell? ⟨b2, 2, none⟩ = some (.slice A rs.length cp) := by rw [cell_of_row W1 _ _ _ _ _ HIT.out]; rfl
  by_cases c63 : k = 63
  · subst c63
    have e : takesI (63, o, rs, nt) b = true := rfl
    rw [e] at hRR
    subst hRR
    go_wp2
    go_ret
    exact ⟨rfl, HB0.out⟩
  have n63 : ((k : Int) == 63) = false := beq_eq_false_iff_ne.2 (by omega)
  by_cases c61 : k = 61
  · subst c61
    have e : takesI (61, o, rs, nt) b = (b == o) := by unfold takesI; rw [if_neg (by show ¬ (61 : Nat) = 63; decide), if_pos rfl]
    rw [e] at hRR
    have e2 : ((b : Int) == (o : Int)) = RR := by
      rw [← hRR, Bool.eq_iff_iff, beq_iff_eq, beq_iff_eq]
      omega
    clear hRR e
    go_wp2
    go_ret
    exact ⟨rfl, HB0.out⟩
  have n61 : ((k : Int) == 61) = false := beq_eq_false_iff_ne.2 (by omega)
  have hRR2 : (inR rs b != nt) = RR := by rw [← hRR]; unfold takesI; rw [if_neg c63, if_neg c61]
  have HRR := Aside0.mk hRR2
  clear hRR hRR2 c63 c61
  go_wp2
  go_loopg [5, 21] rs.length (fun g s5 s21 wx => ∃ i : Nat, i + g = rs.length ∧ s21 = .int .i64 (i : Int) ∧ s5 = .bool (inR (rs.take i) b) ∧ Aside0 (Below W1.heap.size W1 wx))
  case atStart => exact ⟨0, by omega, rfl, rfl, ⟨Below.refl _ _⟩⟩
  case round =>
    obtain ⟨i, hig, rfl, rfl, HB⟩ := hrel
    cases gk with
    | zero =>
      obtain rfl : i = rs.length := by omega
      have d1 : decide (((rs.length : Nat) : Int) < ((rs.length : Nat) : Int)) = false := decide_eq_false (by omega)
      have hlt2 : b2 < W1.heap.size := (Array.getElem?_eq_some_iff.1 HIT.out).1
      have hk3 : wr.cell? ⟨b2, 3, none⟩ = some (.bool nt) := by rw [cell_of_row wr _ _ _ _ _ ((HB.out.block _ hlt2).trans HIT.out)]; rfl
      rw [List.take_length]
      obtain ⟨q, hq⟩ : ∃ q, inR rs b = q := ⟨_, rfl⟩
      rw [hq] at HRR ⊢
      go_wp2
      go_ret
      exact ⟨by rw [← HRR.out]; rfl, HB0.out.trans (HB.out.mono HB0.out.size)⟩
    | succ g =>
      have hi : i < rs.length := by omega
      have d1 : decide ((i : Int) < ((rs.length : Nat) : Int)) = true := decide_eq_true (by omega)
      have d2 : decide (i < rs.length) = true := decide_eq_true hi
      have i0 : (0 : Int) ≤ (i : Int) := by omega
      have i1 : (i : Int) < (rs.length : Int) := by omega
      obtain ⟨g0, cap, hv, _, _, _⟩ := Kd.R_form HR1.out (by omega)
      injection hv with hv1 hv2 hv3
      subst hv1
      subst hv3
      have hrg := krg_at (Kd.R_below HR1.out HB.out) hi
      have hstep := inR_take hi b
      obtain ⟨c, hc⟩ : ∃ c, rs[i].1 = c := ⟨_, rfl⟩
      obtain ⟨d, hd⟩ : ∃ d, rs[i].2 = d := ⟨_, rfl⟩
      rw [hc, hd] at hrg hstep
      obtain ⟨q, hq⟩ : ∃ q, inR (rs.take i) b = q := ⟨_, rfl⟩
      rw [hq] at hstep ⊢
      have HST := Aside0.mk hstep
      clear hstep
      go_upto_region 10 with (first | (refine wpList_load_mid rfl 141 (.tmp 23) rfl g0 (i * 2) ?hx141 _ _ hrg Try.underlying141 rfl (by kernel_rfl) ?_))
      obtain ⟨W2, hW2⟩ : ∃ W, wr.alloc (.cells #[.int .u8 (c : Int), .int .u8 (d : Int)] 141) = W := ⟨_, rfl⟩
      obtain ⟨b7, hb7⟩ : ∃ b, wr.heap.size = b := ⟨_, rfl⟩
      have hrow := heap_alloc_new wr (.cells #[.int .u8 (c : Int), .int .u8 (d : Int)] 141)
      have HB2 := Aside0.mk (HB.out.trans (((Below.refl wr.heap.size wr).alloc (Nat.le_refl _) (.cells #[.int .u8 (c : Int), .int .u8 (d : Int)] 141)).mono HB.out.size))
      rw [hW2] at hrow HB2 ⊢
      rw [hb7] at hrow ⊢
      clear hW2 hb7 hrg
      have hc0 : W2.cell? ⟨b7, 0, none⟩ = some (.int .u8 (c : Int)) := by rw [cell_of_row W2 _ _ _ _ _ hrow]; rfl
      have hc1 : W2.cell? ⟨b7, 1, none⟩ = some (.int .u8 (d : Int)) := by rw [cell_of_row W2 _ _ _ _ _ hrow]; rfl
      clear hrow
      have hfin : ∀ z, inR (rs.take (i + 1)) b = z → Value.bool z = Value.bool (inR (rs.take (i + 1)) b) := fun z h => by rw [h]
      have HFIN := Aside0.mk hfin
      clear hfin
      cases q with
      | true =>
        go_wp2
        go_roundg g
        case measure => omega
        case rel => exact ⟨i + 1, by omega, rfl, HFIN.out _ (by rw [HST.out, Bool.true_or]), HB2⟩
      | false =>
        by_cases h1 : c ≤ b
        · have e1 : decide ((c : Int) ≤ (b : Int)) = true := decide_eq_true (by omega)
          have e1' : decide (c ≤ b) = true := decide_eq_true h1
          by_cases h2 : b ≤ d
          · have e2 : decide ((b : Int) ≤ (d : Int)) = true := decide_eq_true (by omega)
            have e2' : decide (b ≤ d) = true := decide_eq_true h2
            go_wp2
            go_roundg g
            case measure => omega
            case rel => exact ⟨i + 1, by omega, rfl, HFIN.out _ (by rw [HST.out, decide_eq_true h1, decide_eq_true h2]; rfl), HB2⟩
          · have e2 : decide ((b : Int) ≤ (d : Int)) = false := decide_eq_false (by omega)
            have e2' : decide (b ≤ d) = false := decide_eq_false h2
            go_wp2
            go_roundg g
            case measure => omega
            case rel => exact ⟨i + 1, by omega, rfl, HFIN.out _ (by rw [HST.out, decide_eq_true h1, decide_eq_false h2]; rfl), HB2⟩
        · have e1 : decide ((c : Int) ≤ (b : Int)) = false := decide_eq_false (by omega)
          have e1' : decide (c ≤ b) = false := decide_eq_false h1
          go_wp2
          go_roundg g
          case measure => omega
          case rel => exact ⟨i + 1, by omega, rfl, HFIN.out _ (by rw [HST.out, decide_eq_false h1]; rfl), HB2⟩
end Go.Proofs.Ytkghoodhgihokaa.Glob
