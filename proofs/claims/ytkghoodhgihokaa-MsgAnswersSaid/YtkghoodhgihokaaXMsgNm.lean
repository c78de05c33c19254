/- Which names package msg refuses: slices.ContainsFunc at names, msg.fault's closure. -/
import Derived.Test.YtkghoodhgihokaaXName
namespace Go.Proofs.Ytkghoodhgihokaa.Msg
set_option linter.unusedVariables false
open Go.RowKit Go.Lib Go.Proofs.YtkghoodhgihokaaW.PrintWords Go.Proofs.YtkghoodhgihokaaW.PrintLast Go.Proofs.YtkghoodhgihokaaW.PrintMore
set_option maxHeartbeats 2000000 in
set_option maxRecDepth 100000 in
theorem noNameM_calls (s : ByteArray) (w : World) : Calls Try.prog 81 #[.string s] w fun e w' => e = .returned (.bool (!nameB s)) ∧ Below w.heap.size w w' := by
  go_enter Try.func81, Try.ntmps81
  go_wp2_with (go_at_call 70; refine (name_calls s w).mono ?_; rintro e w' ⟨rfl, hw⟩; have HW := Aside0.mk hw; clear hw)
  go_ret
  exact ⟨rfl, HW.out⟩
set_option maxHeartbeats 4000000 in
set_option maxRecDepth 100000 in
theorem indexNoM_calls (A : Option Addr) (c : Nat) (l : List ByteArray) (w : World) (hr : Kd.C Kd.string w A l.length l) (hc : l.length ≤ c) (hl : l.length ≤ 1000) :
    Calls Try.prog 96 #[.slice A l.length c, .func (.func 81) #[] #[]] w fun e w' => ∃ i : Int, e = .returned (.int .i64 i) ∧ (0 ≤ i ↔ l.any (fun s => !nameB s) = true) ∧ Below w.heap.size w w' := by
  have HR := Aside0.mk hr
  clear hr
  go_enter Try.func96, Try.ntmps96
  go_wp2
  go_loopw [8] (fun v8 wr => ∃ j : Nat, v8 = .int .i64 (j : Int) ∧ Aside0 (j ≤ l.length) ∧ Aside0 ((l.take j).any (fun s => !nameB s) = false) ∧ Aside0 (Below w.heap.size w wr)) (fun v8 _ => l.length - (RowKit.intOf v8).toNat)
  case atStart => exact ⟨0, rfl, ⟨Nat.zero_le _⟩, ⟨rfl⟩, ⟨Below.refl _ _⟩⟩
  case round =>
    obtain ⟨j, rfl, HJ, HN, HB⟩ := hrel
    by_cases hj : j < l.length
    · have e1_ : decide ((j : Int) < (l.length : Int)) = true := decide_eq_true (by omega)
      have p1 : (0 : Int) ≤ (j : Int) := by omega
      have q1 : (j : Int) < (l.length : Int) := by omega
      obtain ⟨ad, rfl, h0⟩ := Kd.at_string (Kd.C_below HR.out HB.out) (j : Int) p1 q1
      rw [Int.toNat_natCast] at h0
      replace p1 := eq_true p1
      replace q1 := eq_true q1
      have hm : rdOf ByteArray.empty l (j : Int) = l[j] := by simp [rdOf, List.getD_eq_getElem?_getD, List.getElem?_eq_getElem hj]
      have hx : (l.take (j + 1)).any (fun s => !nameB s) = ((l.take j).any (fun s => !nameB s) || !nameB (rdOf ByteArray.empty l (j : Int))) := by rw [List.take_add_one, List.getElem?_eq_getElem hj, Option.toList_some, List.any_append, hm]; simp
      have HX := Aside0.mk hx
      have HM := Aside0.mk hm
      clear hx hm
      obtain ⟨s, hs⟩ : ∃ s, rdOf ByteArray.empty l (j : Int) = s := ⟨_, rfl⟩
      rw [hs] at h0
      cases ho : nameB s with
      | false =>
        go_wp2_with (first | (go_at_call 81; refine (noNameM_calls s _).mono ?_; rintro e w1 ⟨rfl, hb1⟩; have HB1 := Aside0.mk hb1; clear hb1; rw [ho]))
        go_ret
        refine ⟨_, rfl, ⟨fun _ => List.any_eq_true.2 ⟨l[j], List.getElem_mem hj, by rw [← HM.out, hs, ho]; rfl⟩, fun _ => by omega⟩, HB.out.trans (HB1.out.mono HB.out.size)⟩
      | true =>
        go_wp2_with (first | (go_at_call 81; refine (noNameM_calls s _).mono ?_; rintro e w1 ⟨rfl, hb1⟩; have HB1 := Aside0.mk hb1; clear hb1; rw [ho]))
        go_roundw
        case measure => simp only [RowKit.intOf]; omega
        case rel => exact ⟨j + 1, rfl, ⟨by omega⟩, ⟨by rw [HX.out, HN.out, hs, ho]; rfl⟩, ⟨HB.out.trans (HB1.out.mono HB.out.size)⟩⟩
    · have e1_ : decide ((j : Int) < (l.length : Int)) = false := decide_eq_false (by omega)
      have hN := HN.out
      have hJ := HJ.out
      rw [List.take_of_length_le (by omega)] at hN
      go_wp2
      go_ret
      refine ⟨_, rfl, ⟨fun h => absurd h (by decide), fun h => by rw [hN] at h; cases h⟩, HB.out⟩
set_option maxHeartbeats 2000000 in
set_option maxRecDepth 100000 in
theorem hasNoM_calls (A : Option Addr) (c : Nat) (l : List ByteArray) (w : World) (hr : Kd.C Kd.string w A l.length l) (hc : l.length ≤ c) (hl : l.length ≤ 1000) :
    Calls Try.prog 68 #[.slice A l.length c, .func (.func 81) #[] #[]] w fun e w' => e = .returned (.bool (l.any (fun s => !nameB s))) ∧ Below w.heap.size w w' := by
  have HR := Aside0.mk hr
  clear hr
  go_enter Try.func68, Try.ntmps68
  go_wp2_with (first | (go_at_call 96; refine (indexNoM_calls A c l _ HR.out hc hl).mono ?_; rintro e w1 ⟨i, rfl, hi, hb1⟩; have HB1 := Aside0.mk hb1; have HI := Aside0.mk hi; clear hb1 hi; obtain ⟨hd, hhd⟩ : ∃ hd, decide (0 ≤ i) = hd := ⟨_, rfl⟩))
  go_ret
  have e : decide (0 ≤ i) = l.any (fun s => !nameB s) := by
    cases hv : l.any (fun s => !nameB s) with
    | true => exact decide_eq_true (HI.out.2 hv)
    | false => exact decide_eq_false (fun h => by have := HI.out.1 h; rw [hv] at this; cases this)
  exact ⟨by rw [← e, hhd]; rfl, HB1.out⟩
end Go.Proofs.Ytkghoodhgihokaa.Msg
