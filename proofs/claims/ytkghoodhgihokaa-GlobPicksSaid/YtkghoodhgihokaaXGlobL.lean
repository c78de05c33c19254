/- Patterns of names: glob.match. -/
import Derived.Test.YtkghoodhgihokaaXGlobK
namespace Go.Proofs.Ytkghoodhgihokaa.Glob
open Go.RowKit Go.Lib Go.Proofs.YtkghoodhgihokaaW.PrintWords Go.Proofs.YtkghoodhgihokaaW.PrintLast Go.Proofs.YtkghoodhgihokaaW.PrintMore
set_option linter.unusedVariables false
set_option linter.unusedSimpArgs false
theorem kpt_at {w : World} {g n c : Nat} {ps : List Pt} {base : Nat} {ok : Nat → Prop} (h : kpt.R 133 w base ok (.slice (some ⟨g, 0, none⟩) n c) ps) {i : Nat} (hi : i < ps.length) {j : Nat} {v : Value} (hj : (cellsP ps[i].1 ps[i].2)[j]? = some v) :
    w.cell? ⟨g, i * 257 + j, none⟩ = some v := by
  obtain ⟨_, _, hC⟩ := Kd.R_reads' h
  obtain ⟨ad, cs, had, hl, hK, hcs⟩ := Kd.C_get hC (false, fun _ => false) (i : Int) (by omega) (by omega)
  injection had with had
  subst had
  have e : ps.getD (i : Int).toNat (false, fun _ => false) = ps[i] := by
    rw [show (i : Int).toNat = i by omega]
    simp [hi]
  rw [e] at hK
  have hK' : cs = (cellsP ps[i].1 ps[i].2).toList := hK
  subst hK'
  have := hcs j v (by rw [Array.getElem?_toList]; exact hj)
  rw [show i * 257 + j = 0 + ((i : Int).toNat * kpt.sz + j) by rw [show (i : Int).toNat = i by omega]; show i * 257 + j = 0 + (i * 257 + j); omega]
  rw [Addr.add_mid] at this
  exact this
set_option maxHeartbeats 4000000 in
set_option maxRecDepth 100000 in
theorem match_calls (ps : List Pt) (s : List UInt8) (v : Value) (w : World) (base : Nat) (ok : Nat → Prop) (hR : kpt.R 133 w base ok v ps) (hl : ps.length ≤ 1000) (hs : s.length ≤ 1000) :
    Calls Try.prog 60 #[v, .string (bs s)] w fun e w' => e = .returned (.bool (gB ps s)) ∧ Below w.heap.size w w' := by
  have HR := Aside0.mk hR
  clear hR
  obtain ⟨A, cp, hA⟩ := Kd.R_slice HR.out
  subst hA
  obtain ⟨RR, hRR⟩ : ∃ r, gB ps s = r := ⟨_, rfl⟩
  rw [hRR]
  have hRR2 := gB_iff ps s
  rw [hRR] at hRR2
  have HRR := Aside0.mk hRR2
  clear hRR hRR2
  have hbz := bs_size s
  go_enter Try.func60, Try.ntmps60
  go_wp2
  go_loopg [5, 6, 7, 8] (mM ps.length s.length 0 0 0) (fun g s5 s6 s7 s8 wx => ∃ i at_ rr from_ : Nat, s5 = .int .i64 (i : Int) ∧ s6 = .int .i64 (at_ : Int) ∧ s7 = .int .i64 ((rr : Int) - 1) ∧ s8 = .int .i64 (from_ : Int) ∧ Aside0 (g = mM ps.length s.length i rr from_) ∧ Aside0 (i ≤ ps.length ∧ rr ≤ i ∧ from_ ≤ at_ ∧ at_ ≤ s.length) ∧ Aside0 (GJ2 ps s i at_ rr from_) ∧ Aside0 (Below w.heap.size w wx))
  case atStart => exact ⟨0, 0, 0, 0, rfl, rfl, rfl, rfl, ⟨rfl⟩, ⟨by omega⟩, ⟨.start ps s⟩, ⟨Below.refl _ _⟩⟩
  case round =>
    obtain ⟨i, at_, rr, from_, rfl, rfl, rfl, rfl, HG, HB4, HJ, HB⟩ := hrel
    obtain ⟨b1, b2, b3, b4⟩ := HB4.out
    by_cases ha : at_ < s.length
    · have d1 : decide ((at_ : Int) < ((bs s).size : Int)) = true := decide_eq_true (by omega)
      have d1n : decide (at_ < (bs s).size) = true := decide_eq_true (by omega)
      by_cases hi : i < ps.length
      · have d2 : decide ((i : Int) < ((ps.length : Nat) : Int)) = true := decide_eq_true (by omega)
        have d2n : decide (i < ps.length) = true := decide_eq_true hi
        obtain ⟨g0, cap, hv, _, _, _⟩ := Kd.R_form HR.out (by omega)
        injection hv with hv1 hv2 hv3
        subst hv1
        subst hv3
        have hc0 := kpt_at (Kd.R_below HR.out HB.out) hi (cellsP_zero _ _)
        rw [Nat.add_zero] at hc0
        obtain ⟨r0, hr0⟩ : ∃ r, ps[i].1 = r := ⟨_, rfl⟩
        rw [hr0] at hc0
        cases r0 with
        | true =>
          go_wp2
          go_roundg (mM ps.length s.length (i + 1) (i + 1) at_)
          case measure => rw [HG.out]; exact mM_run hi b2
          case rel => exact ⟨i + 1, at_, i + 1, at_, by rfl, rfl, by first | rfl | (congr 1; omega), rfl, ⟨rfl⟩, ⟨by omega⟩, ⟨HJ.out.run (List.getElem?_eq_getElem hi) hr0⟩, HB⟩
        | false =>
          have hcx := kpt_at (Kd.R_below HR.out HB.out) hi (cellsP_at ps[i].1 ps[i].2 s[at_].toNat s[at_].toNat_lt)
          rw [← Nat.add_assoc] at hcx
          have hx256 : s[at_].toNat < 256 := s[at_].toNat_lt
          obtain ⟨x, hx⟩ : ∃ x, s[at_] = x := ⟨_, rfl⟩
          have hget : ∀ h : at_ < (bs s).size, (bs s)[at_]'h = x := fun _ => hx
          obtain ⟨r1, hr1⟩ : ∃ r, ps[i].2 s[at_].toNat = r := ⟨_, rfl⟩
          rw [hr1] at hcx
          rw [hx] at hcx hx256
          have hx1 : (x.toNat : Int) < 256 := by omega
          cases r1 with
          | true =>
            go_upto_region 8 with fail
            go_quiet (fail)
            go_wp2
            go_roundg (mM ps.length s.length (i + 1) rr from_)
            case measure => rw [HG.out]; exact mM_take hi
            case rel => exact ⟨i + 1, at_ + 1, rr, from_, by rfl, by rfl, rfl, rfl, ⟨rfl⟩, ⟨by omega⟩, ⟨HJ.out.take (List.getElem?_eq_getElem hi) hr0 (List.getElem?_eq_getElem ha) hr1⟩, ⟨pw_below_drewN HB.out _⟩⟩
          | false =>
            have HNO := Aside0.mk (GJ2.no (i := i) (List.getElem?_eq_getElem ha) (fun p hp => by rw [List.getElem?_eq_getElem hi] at hp; injection hp with hp; subst hp; exact ⟨hr0, by rw [hx] at hr1 ⊢; exact hr1⟩))
            obtain ⟨z, hz⟩ : ∃ z : Int, (rr : Int) - 1 = z := ⟨_, rfl⟩
            have z1 : -1 ≤ z := by omega
            have z2 : z ≤ 1000 := by omega
            rw [hz]
            have HZ := Aside0.mk hz
            clear hz
            by_cases hrr : 0 < rr
            · have hz0 : (0 : Int) ≤ z := by have := HZ.out; omega
              have d5 : decide ((0 : Int) ≤ z) = true := decide_eq_true hz0
              go_upto_region 8 with fail
              go_quiet (fail)
              go_wp2
              go_roundg (mM ps.length s.length rr rr (from_ + 1))
              case measure => rw [HG.out]; exact mM_back (by omega) (by omega)
              case rel => exact ⟨rr, from_ + 1, rr, from_ + 1, by have := HZ.out; first | (congr 1; omega) | (subst this; congr 1; omega), by rfl, by rw [HZ.out], by rfl, ⟨rfl⟩, ⟨by omega⟩, ⟨HJ.out.back hrr HNO.out⟩, ⟨pw_below_drewN HB.out _⟩⟩
            · obtain rfl : rr = 0 := by omega
              have hz0 : ¬ (0 : Int) ≤ z := by have := HZ.out; omega
              have d5 : decide ((0 : Int) ≤ z) = false := decide_eq_false hz0
              have hF : RR = false := Bool.eq_false_iff.2 fun h => HJ.out.fail HNO.out (HRR.out.1 h)
              go_upto_region 8 with fail
              go_quiet (fail)
              go_wp2
              go_ret
              exact ⟨by first | rfl | (rw [hF]; rfl), pw_below_drewN HB.out _⟩
      · have d2 : decide ((i : Int) < ((ps.length : Nat) : Int)) = false := decide_eq_false (by omega)
        have d2n : decide (i < ps.length) = false := decide_eq_false hi
        have HNO := Aside0.mk (GJ2.no (ps := ps) (i := i) (List.getElem?_eq_getElem ha) (fun p hp => by rw [List.getElem?_eq_none (by omega)] at hp; cases hp))
        obtain ⟨z, hz⟩ : ∃ z : Int, (rr : Int) - 1 = z := ⟨_, rfl⟩
        have z1 : -1 ≤ z := by omega
        have z2 : z ≤ 1000 := by omega
        rw [hz]
        have HZ := Aside0.mk hz
        clear hz
        by_cases hrr : 0 < rr
        · have hz0 : (0 : Int) ≤ z := by have := HZ.out; omega
          have d5 : decide ((0 : Int) ≤ z) = true := decide_eq_true hz0
          go_upto_region 8 with fail
          go_quiet (fail)
          go_wp2
          go_roundg (mM ps.length s.length rr rr (from_ + 1))
          case measure => rw [HG.out]; exact mM_back (by omega) (by omega)
          case rel => exact ⟨rr, from_ + 1, rr, from_ + 1, by have := HZ.out; first | (congr 1; omega) | (subst this; congr 1; omega), by rfl, by rw [HZ.out], by rfl, ⟨rfl⟩, ⟨by omega⟩, ⟨HJ.out.back hrr HNO.out⟩, ⟨pw_below_drewN HB.out _⟩⟩
        · obtain rfl : rr = 0 := by omega
          have hz0 : ¬ (0 : Int) ≤ z := by have := HZ.out; omega
          have d5 : decide ((0 : Int) ≤ z) = false := decide_eq_false hz0
          have hF : RR = false := Bool.eq_false_iff.2 fun h => HJ.out.fail HNO.out (HRR.out.1 h)
          go_upto_region 8 with fail
          go_quiet (fail)
          go_wp2
          go_ret
          exact ⟨by first | rfl | (rw [hF]; rfl), pw_below_drewN HB.out _⟩
    · have d1 : decide ((at_ : Int) < ((bs s).size : Int)) = false := decide_eq_false (by omega)
      have d1n : decide (at_ < (bs s).size) = false := decide_eq_false (by omega)
      have HE := Aside0.mk (HRR.out.trans (HJ.out.end_ (by omega)))
      clear HG HJ HRR
      go_wp2
      go_loopg [5] (ps.length - i) (fun g s5 wx => ∃ i2 : Nat, s5 = .int .i64 (i2 : Int) ∧ Aside0 (g = ps.length - i2) ∧ Aside0 (i2 ≤ ps.length) ∧ Aside0 (RR = true ↔ G (ps.drop i2) []) ∧ Aside0 (Below w.heap.size w wx))
      case atStart => exact ⟨i, rfl, ⟨rfl⟩, ⟨b1⟩, HE, HB⟩
      case round =>
        obtain ⟨i2, rfl, HG2, HI2, HE2, HB2⟩ := hrel
        by_cases hi : i2 < ps.length
        · have d2 : decide ((i2 : Int) < ((ps.length : Nat) : Int)) = true := decide_eq_true (by omega)
          have d2n : decide (i2 < ps.length) = true := decide_eq_true hi
          obtain ⟨g0, cap, hv, _, _, _⟩ := Kd.R_form HR.out (by omega)
          injection hv with hv1 hv2 hv3
          subst hv1
          subst hv3
          have hc0 := kpt_at (Kd.R_below HR.out HB2.out) hi (cellsP_zero _ _)
          rw [Nat.add_zero] at hc0
          obtain ⟨r0, hr0⟩ : ∃ r, ps[i2].1 = r := ⟨_, rfl⟩
          rw [hr0] at hc0
          cases r0 with
          | true =>
            have HE3 := Aside0.mk (HE2.out.trans (G.skipEnd (List.getElem?_eq_getElem hi) hr0))
            go_wp2
            go_roundg (ps.length - (i2 + 1))
            case measure => have := HG2.out; omega
            case rel => exact ⟨i2 + 1, rfl, ⟨rfl⟩, ⟨by omega⟩, HE3, HB2⟩
          | false =>
            have hF : RR = false := Bool.eq_false_iff.2 fun h => G.stopEnd (List.getElem?_eq_getElem hi) hr0 (HE2.out.1 h)
            have d3 : decide (i2 = ps.length) = false := decide_eq_false (by omega)
            have d4 : ((i2 : Int) == ((ps.length : Nat) : Int)) = false := beq_eq_false_iff_ne.2 (by omega)
            have d5 : (i2 == ps.length) = false := beq_eq_false_iff_ne.2 (by omega)
            go_wp2
            go_ret
            exact ⟨by first | rfl | (rw [hF]; rfl), HB2.out⟩
        · obtain rfl : i2 = ps.length := by have := HI2.out; omega
          have d2 : decide (((ps.length : Nat) : Int) < ((ps.length : Nat) : Int)) = false := decide_eq_false (by omega)
          have hT : RR = true := HE2.out.2 (by rw [List.drop_length]; exact .nil)
          go_wp2
          go_ret
          exact ⟨by first | rfl | (rw [hT]; rfl), HB2.out⟩
end Go.Proofs.Ytkghoodhgihokaa.Glob
