/- Fetch: the want that is open. -/
import Derived.Test.YtkghoodhgihokaaXFetchA
namespace Go.Proofs.Ytkghoodhgihokaa.Fetch
open Go.RowKit Go.Lib Go.Proofs.YtkghoodhgihokaaW.PrintWords Go.Proofs.YtkghoodhgihokaaW.PrintLast Go.Proofs.YtkghoodhgihokaaW.PrintMore Go.Proofs.Ytkghoodhgihokaa.HFetchPlays
set_option linter.unusedVariables false
set_option linter.unusedSimpArgs false
/-- The box of the fetcher's pointer, and where its end lies. -/
def BoxF (w : World) (b2 f : Nat) (e : Int) : Prop := w.cell? ⟨b2, 0, none⟩ = some (.pointer (some ⟨f, 0, none⟩)) ∧ w.cell? ⟨f, 2, none⟩ = some (.int .i64 e)
theorem cell_below {w w' : World} (hb : Below w.heap.size w w') {b o : Nat} {v : Value} (h : w.cell? ⟨b, o, none⟩ = some v) : w'.cell? ⟨b, o, none⟩ = some v := by
  have hlt : b < w.heap.size := by
    rcases Nat.lt_or_ge b w.heap.size with h' | h'
    · exact h'
    · simp [World.cell?, Array.getElem?_eq_none h'] at h
  rw [← h]
  unfold World.cell?
  rw [hb.block b hlt]
theorem BoxF.below {w w' : World} {b2 f : Nat} {e : Int} (h : BoxF w b2 f e) (hb : Below w.heap.size w w') : BoxF w' b2 f e := ⟨cell_below hb h.1, cell_below hb h.2⟩
set_option maxHeartbeats 2000000 in
set_option maxRecDepth 100000 in
theorem open_calls (x : S61) (b2 f : Nat) (en : Int) (w : World) (h : BoxF w b2 f en) : Calls Try.prog 91 #[.agg #[.int .i64 x.f0, .int .i64 x.f1], .pointer (some ⟨b2, 0, none⟩)] w fun e w' => e = .returned (.bool (decide (x.f0 < en))) ∧ Below w.heap.size w w' := by
  have hB := (Below.refl _ w).alloc (Nat.le_refl _) (.cells #[.int .i64 x.f0, .int .i64 x.f1] 61)
  have hx := heap_alloc_new w (.cells #[.int .i64 x.f0, .int .i64 x.f1] 61)
  obtain ⟨W1, hW1⟩ : ∃ W, w.alloc (.cells #[.int .i64 x.f0, .int .i64 x.f1] 61) = W := ⟨_, rfl⟩
  obtain ⟨b1, hb1⟩ : ∃ b, w.heap.size = b := ⟨_, rfl⟩
  rw [hW1] at hB hx
  obtain ⟨h1, h2⟩ := h.below hB
  rw [hb1] at hx
  have hx0 := (blk_cell hx 0).trans rfl
  have HB := Aside0.mk hB
  clear hx hB h
  obtain ⟨r, hr⟩ : ∃ r, decide (x.f0 < en) = r := ⟨_, rfl⟩
  rw [hr]
  go_enter Try.func91, Try.ntmps91
  go_upto_region 1 with fail
  (try rw [hW1])
  (try rw [hb1])
  clear hW1 hb1
  go_quiet (fail)
  go_wp2
  go_ret
  exact ⟨rfl, HB.out.trans ⟨rfl, rfl, rfl, Nat.le_refl _, fun _ _ => rfl⟩⟩
set_option maxHeartbeats 2000000 in
set_option maxRecDepth 100000 in
theorem index_calls (A : Option Addr) (c : Nat) (l : List S61) (b2 f : Nat) (en : Int) (w : World) (hr : Kd.C k61 w A l.length l) (hl : l.length ≤ 100000) (h : BoxF w b2 f en) :
    Calls Try.prog 101 #[.slice A l.length c, .func (.func 91) #[] #[.pointer (some ⟨b2, 0, none⟩)]] w fun e w' => ∃ i : Int, e = .returned (.int .i64 i) ∧ (0 ≤ i ↔ l.any (fun x => decide (x.f0 < en)) = true) ∧ Below w.heap.size w w' := by
  have HR := Aside0.mk hr
  have HX0 := Aside0.mk h
  clear hr h
  go_enter Try.func101, Try.ntmps101
  go_wp2
  go_loopw [8] (fun v8 wr => ∃ j : Nat, v8 = .int .i64 (j : Int) ∧ Aside0 (j ≤ l.length) ∧ Aside0 ((l.take j).any (fun x => decide (x.f0 < en)) = false) ∧ Aside0 (Below w.heap.size w wr)) (fun v8 _ => l.length - (intOf v8).toNat)
  case atStart => exact ⟨0, rfl, ⟨Nat.zero_le _⟩, ⟨rfl⟩, ⟨Below.refl _ _⟩⟩
  case round =>
    obtain ⟨j, rfl, HJ, HN, HB⟩ := hrel
    by_cases hj : j < l.length
    · have e1_ : decide ((j : Int) < (l.length : Int)) = true := decide_eq_true (by omega)
      have p1 : (0 : Int) ≤ (j : Int) := by omega
      have q1 : (j : Int) < (l.length : Int) := by omega
      obtain ⟨ad, rfl, h0, h1⟩ := at_T61 (Kd.C_below HR.out HB.out) (j : Int) p1 q1
      rw [Int.toNat_natCast] at h0 h1
      replace p1 := eq_true p1
      replace q1 := eq_true q1
      have hj4 : j ≤ 100000 := by omega
      have hm : rd_T61 l (j : Int) = l[j] := by unfold rd_T61; rw [Int.toNat_natCast, List.getD_eq_getElem?_getD, List.getElem?_eq_getElem hj]; rfl
      have hx : (l.take (j + 1)).any (fun x => decide (x.f0 < en)) = ((l.take j).any (fun x => decide (x.f0 < en)) || decide ((rd_T61 l (j : Int)).f0 < en)) := by rw [List.take_add_one, List.getElem?_eq_getElem hj, Option.toList_some, List.any_append, hm]; simp
      have HX := Aside0.mk hx
      have HM := Aside0.mk hm
      obtain ⟨y, hy⟩ : ∃ y, rd_T61 l (j : Int) = y := ⟨_, rfl⟩
      rw [hy] at h0 h1 HX HM
      have HOC := Aside0.mk (fun W (hW : Below w.heap.size w W) => open_calls y b2 f en W (HX0.out.below hW))
      clear hx hm hy
      cases ho : decide (y.f0 < en) with
      | true =>
        rw [ho] at HOC
        go_wp2_with (first | (go_at_call 91; refine (HOC.out _ HB.out).mono ?_; rintro e w1 ⟨rfl, hb1⟩; have HB1 := Aside0.mk hb1; clear hb1))
        go_ret
        refine ⟨_, rfl, ⟨fun _ => List.any_eq_true.2 ⟨l[j], List.getElem_mem hj, by rw [← HM.out]; exact ho⟩, fun _ => by omega⟩, HB.out.trans (HB1.out.mono HB.out.size)⟩
      | false =>
        rw [ho] at HOC
        go_wp2_with (first | (go_at_call 91; refine (HOC.out _ HB.out).mono ?_; rintro e w1 ⟨rfl, hb1⟩; have HB1 := Aside0.mk hb1; clear hb1))
        go_roundw
        case measure => simp only [intOf]; omega
        case rel => exact ⟨j + 1, rfl, ⟨by omega⟩, ⟨by rw [HX.out, HN.out, ho]; rfl⟩, ⟨HB.out.trans (HB1.out.mono HB.out.size)⟩⟩
    · have e1_ : decide ((j : Int) < (l.length : Int)) = false := decide_eq_false (by omega)
      have hN := HN.out
      have hJ := HJ.out
      rw [List.take_of_length_le (by omega)] at hN
      go_wp2
      go_ret
      refine ⟨_, rfl, ⟨fun h => absurd h (by decide), fun h => by rw [hN] at h; cases h⟩, HB.out⟩
set_option maxHeartbeats 2000000 in
set_option maxRecDepth 100000 in
theorem contains_calls (A : Option Addr) (c : Nat) (l : List S61) (b2 f : Nat) (en : Int) (w : World) (hr : Kd.C k61 w A l.length l) (hl : l.length ≤ 100000) (h : BoxF w b2 f en) :
    Calls Try.prog 92 #[.slice A l.length c, .func (.func 91) #[] #[.pointer (some ⟨b2, 0, none⟩)]] w fun e w' => e = .returned (.bool (l.any (fun x => decide (x.f0 < en)))) ∧ Below w.heap.size w w' := by
  have HC := Aside0.mk (index_calls A c l b2 f en w hr hl h)
  clear hr h
  obtain ⟨bo, hbo⟩ : ∃ bo, l.any (fun x => decide (x.f0 < en)) = bo := ⟨_, rfl⟩
  go_enter Try.func92, Try.ntmps92
  go_wp2_with (first | ((with_reducible refine gate_callee (f := 101) rfl ?_); refine goesL_ (some 7) rfl rfl Try.func101 (by kernel_rfl) rfl #[.slice A l.length c, .func (.func 91) #[] #[.pointer (some ⟨b2, 0, none⟩)]] rfl (by (try simp only [List.map_toArray, List.map_cons, List.map_nil]); first | done | rfl) ?_; refine HC.out.mono ?_; rintro e' w1 ⟨i_, rfl, hi_, hb1⟩; refine ⟨_, rfl, ?_⟩; have HI := Aside0.mk hi_; have HB1 := Aside0.mk hb1; clear hi_ hb1; obtain ⟨hd, hhd⟩ : ∃ t, decide (0 ≤ i_) = t := ⟨_, rfl⟩))
  go_ret
  have e : hd = l.any (fun x => decide (x.f0 < en)) := by
    rw [← hhd]
    cases hv : l.any (fun x => decide (x.f0 < en)) with
    | true => exact decide_eq_true (HI.out.2 hv)
    | false => exact decide_eq_false (fun h => by have := HI.out.1 h; rw [hv] at this; cases this)
  rw [e]
  exact ⟨rfl, HB1.out⟩
end Go.Proofs.Ytkghoodhgihokaa.Fetch
