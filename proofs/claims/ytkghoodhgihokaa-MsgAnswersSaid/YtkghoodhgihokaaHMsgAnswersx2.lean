/- The contracts of the functions that the law MsgAnswers reaches: Go's code comes to what these Lean functions tell (written by a program of ours and the kit's, out of the translation). -/
import Derived.Test.YtkghoodhgihokaaXMsgG
import Derived.Test.YtkghoodhgihokaaXMsgZ
import Derived.Test.YtkghoodhgihokaaHMsgAnswersx0
import Derived.Test.YtkghoodhgihokaaHMsgAnswersx1
namespace Go.Proofs.Ytkghoodhgihokaa.HMsgAnswers
open Go.RowKit Go.Proofs.YtkghoodhgihokaaW.PrintWords Go.Proofs.YtkghoodhgihokaaW.PrintLast Go.Proofs.YtkghoodhgihokaaW.PrintMore
attribute [local go_sem] max2_int min2_int max_two min_two max_three min_three max_four min_four   -- for this text's walks alone
set_option linter.unusedVariables false
set_option linter.unusedSimpArgs false

/-! ### packthreadref_answerFault: function 56 -/
theorem w64n {x : Int} (h : -9223372036854775808 ≤ x) (h' : x ≤ 9223372036854775807) : wrap64 x = x := by unfold wrap64; omega
theorem af_bt (s : ByteArray) (i : Nat) (h : i < s.size) : bt s (i : Int) = ((s[i]'h).toNat : Int) := by
  simp [bt, getElem!_pos, h]
theorem af_two (x : UInt8) : two.data.toList.contains x = (x.toNat == 47 || x.toNat == 0) := by
  show ([47, 0] : List UInt8).contains x = _
  have h1 : (x == 47) = (x.toNat == 47) := by
    rw [Bool.eq_iff_iff, beq_iff_eq, beq_iff_eq]
    exact ⟨fun e => by rw [e]; rfl, fun e => UInt8.toNat_inj.1 e⟩
  have h2 : (x == 0) = (x.toNat == 0) := by
    rw [Bool.eq_iff_iff, beq_iff_eq, beq_iff_eq]
    exact ⟨fun e => by rw [e]; rfl, fun e => UInt8.toNat_inj.1 e⟩
  simp only [List.contains_cons, List.contains_nil, Bool.or_false, h1, h2]
theorem af_mayl (s : ByteArray) (hs : s.size ≤ 16) : ∀ (d k i : Nat), s.size - i = d → i ≤ s.size → d < k → Lib.NoAny s.data.toList two.data.toList i →
    packthreadref_nameMay.l0 k s (i : Int) = some (!Lib.containsAny s.data.toList two.data.toList) := by
  intro d
  induction d with
  | zero =>
    intro k i hd hi hk hn
    obtain ⟨k, rfl⟩ : ∃ m, k = m + 1 := ⟨k - 1, by omega⟩
    rw [packthreadref_nameMay.l0, if_neg (by omega)]
    have he : i = s.data.toList.length := by have := Lib.size_eq s; omega
    unfold Lib.containsAny
    rw [Lib.indexAny_none (he ▸ hn)]
    rfl
  | succ d ih =>
    intro k i hd hi hk hn
    obtain ⟨k, rfl⟩ : ∃ m, k = m + 1 := ⟨k - 1, by omega⟩
    have hlt : i < s.size := by omega
    have hx := Lib.data_getElem? s i hlt
    rw [packthreadref_nameMay.l0, if_pos (by omega), if_pos (by omega), af_bt s i hlt]
    have hc := af_two (s[i]'hlt)
    by_cases h0 : ((s[i]'hlt).toNat : Int) = 0
    · rw [if_pos h0]
      have : two.data.toList.contains (s[i]'hlt) = true := by rw [hc]; simp; omega
      unfold Lib.containsAny
      rw [Lib.indexAny_hit hn hx this, decide_eq_true (by omega)]
      rfl
    · rw [if_neg h0]
      by_cases h1 : ((s[i]'hlt).toNat : Int) = 47
      · rw [if_pos h1]
        have : two.data.toList.contains (s[i]'hlt) = true := by rw [hc]; simp; omega
        unfold Lib.containsAny
        rw [Lib.indexAny_hit hn hx this, decide_eq_true (by omega)]
        rfl
      · rw [if_neg h1]
        have hno : two.data.toList.contains (s[i]'hlt) = false := by
          rw [hc, Bool.or_eq_false_iff, beq_eq_false_iff_ne, beq_eq_false_iff_ne]
          omega
        have e : wrap64 ((i : Int) + 1) = ((i + 1 : Nat) : Int) := by rw [w64n (by omega) (by omega)]; omega
        rw [e]
        exact ih k (i + 1) (by omega) (by omega) (by omega) (hn.succ hx hno)
theorem af_may (s : ByteArray) (k : Nat) (hk : 20 < k) : packthreadref_nameMay.f k s = some (nameB s) := by
  obtain ⟨k, rfl⟩ : ∃ m, k = m + 1 := ⟨k - 1, by omega⟩
  unfold packthreadref_nameMay.f nameB
  by_cases h0 : (s.size : Int) = 0
  · rw [if_pos h0, packthreadref_nameMay.j0, if_pos rfl, decide_eq_false (by omega)]; rfl
  · rw [if_neg h0, decide_eq_true (show 1 ≤ s.size by omega)]
    by_cases h1 : (s.size : Int) > 16
    · rw [if_pos h1, packthreadref_nameMay.j0, if_pos rfl, decide_eq_false (by omega)]; rfl
    · rw [if_neg h1, decide_eq_true (show s.size ≤ 16 by omega)]
      by_cases h2 : s.toList = [46]
      · rw [if_pos h2, packthreadref_nameMay.j0, if_pos rfl, h2]; rfl
      · rw [if_neg h2, packthreadref_nameMay.j0]
        have b2 : (s.toList == [46]) = false := beq_eq_false_iff_ne.2 h2
        rw [b2]
        by_cases h3 : s.toList = [46, 46]
        · rw [h3]; rfl
        · have b3 : (s.toList == [46, 46]) = false := beq_eq_false_iff_ne.2 h3
          rw [b3, if_neg (by simp)]
          have := af_mayl s (by omega) s.size k 0 rfl (by omega) (by omega) (Lib.NoAny.zero _ _)
          rw [show ((0 : Nat) : Int) = 0 from rfl] at this
          rw [this]
          simp
set_option maxHeartbeats 4000000 in
set_option maxRecDepth 100000 in
theorem four2_calls (n : Int) (w : World) : Calls Try.prog 82 #[.int .i64 n] w fun e w' => e = .returned (.bool (Msg.four n)) ∧ w' = w := by
  by_cases h0 : 0 ≤ n
  · have d0 : decide (0 ≤ n) = true := decide_eq_true h0
    have hf : Msg.four n = decide (n ≤ 4294967295) := by unfold Msg.four; rw [d0, Bool.true_and]
    obtain ⟨r, hr⟩ : ∃ r, decide (n ≤ 4294967295) = r := ⟨_, rfl⟩
    rw [hr] at hf
    rw [hf]
    go_enter Try.func82, Try.ntmps82
    go_wp2
    go_ret
    exact ⟨rfl, rfl⟩
  · have d0 : decide (0 ≤ n) = false := decide_eq_false h0
    have hf : Msg.four n = false := by unfold Msg.four; rw [d0]; rfl
    rw [hf]
    go_enter Try.func82, Try.ntmps82
    go_wp2
    go_ret
    exact ⟨rfl, rfl⟩
def rangeP (q : Msg.Rp) : Bool := !Msg.four q.mark || (decide (q.code < 0) || (decide (255 < q.code) || (!Msg.four q.handle || (decide (q.kind < 0) || (decide (255 < q.kind) || !Msg.four q.size)))))
def sizeP (q : Msg.Rp) : Bool := decide (100 < q.data.length) || decide (40 < q.names.length)
/-- What the reference refuses of a reply. -/
def rfaultF (q : Msg.Rp) : Int := if rangeP q = true then 2 else if sizeP q = true then 1 else if q.names.any (fun s => !nameB s) = true then 4 else 0
set_option maxHeartbeats 8000000 in
set_option maxRecDepth 100000 in
theorem rfault_calls (q : Msg.Rp) (w : World) (hdl : q.data.length ≤ 140737488351232) (hnl : q.names.length ≤ 140737488351232) (hnc : q.names.length ≤ q.nc) (hn : Kd.C Kd.string w q.nA q.names.length q.names) :
    Calls Try.prog 56 #[.agg q.cells] w fun e w' => e = .returned (.int .i64 (rfaultF q)) ∧ Below w.heap.size w w' := by
  have hq0 := heap_alloc_new w (.cells q.cells 39)
  have HB := Aside0.mk ((Below.refl _ w).alloc (Nat.le_refl _) (.cells q.cells 39))
  obtain ⟨W1, hW1⟩ : ∃ W, w.alloc (.cells q.cells 39) = W := ⟨_, rfl⟩
  obtain ⟨b1, hb1⟩ : ∃ b, w.heap.size = b := ⟨_, rfl⟩
  have hW1' : w.alloc (.cells #[.int .i64 q.mark, .int .i64 q.code, .int .i64 q.handle, .int .i64 q.kind, .int .i64 q.size, .slice q.dA q.data.length q.dc, .slice q.nA q.names.length q.nc] 39) = W1 := hW1
  rw [hW1] at hq0 HB
  rw [hb1] at hq0
  obtain ⟨hy0, hy1, hy2, hy3, hy4, hy5, hy6⟩ := Msg.seven_cells hq0
  have HN := Aside0.mk (Kd.C_below hn HB.out)
  clear hq0 hW1 hn
  obtain ⟨RES, hRES⟩ : ∃ r, rfaultF q = r := ⟨_, rfl⟩
  rw [hRES]
  have HF1 := Aside0.mk (show RES = if rangeP q = true then 2 else if sizeP q = true then 1 else if q.names.any (fun s => !nameB s) = true then 4 else 0 from hRES.symm)
  clear hRES
  show Calls Try.prog 56 #[.agg #[.int .i64 q.mark, .int .i64 q.code, .int .i64 q.handle, .int .i64 q.kind, .int .i64 q.size, .slice q.dA q.data.length q.dc, .slice q.nA q.names.length q.nc]] w _
  go_enter Try.func56, Try.ntmps56
  go_upto_region 2 with fail
  (try rw [hW1'])
  (try rw [hb1])
  clear hW1' hb1
  by_cases rm : Msg.four q.mark = false
  case pos =>
    have hR : (2 : Int) = RES := by rw [HF1.out]; simp [rangeP, rm]
    clear HF1
    subst hR
    go_wp2_with (first | (go_at_call 82; (try (refine gate_guard (by rfl) ?_; dsimp only)); (first | (with_reducible refine (four2_calls q.mark _).mono ?_) | (with_reducible refine (four2_calls q.handle _).mono ?_) | (with_reducible refine (four2_calls q.size _).mono ?_)); rintro e w_ ⟨rfl, hw_⟩; rw [hw_]; clear hw_; (first | rw [rm] | rw [rn] | rw [rs])))
    go_ret
    exact ⟨rfl, HB.out⟩
  have rm : Msg.four q.mark = true := by cases h : Msg.four q.mark with | true => rfl | false => exact absurd h rm
  by_cases rc0 : q.code < 0
  case pos =>
    have rc0 : decide (q.code < 0) = true := decide_eq_true rc0
    have hR : (2 : Int) = RES := by rw [HF1.out]; simp [rangeP, rm, rc0]
    clear HF1
    subst hR
    go_wp2_with (first | (go_at_call 82; (try (refine gate_guard (by rfl) ?_; dsimp only)); (first | (with_reducible refine (four2_calls q.mark _).mono ?_) | (with_reducible refine (four2_calls q.handle _).mono ?_) | (with_reducible refine (four2_calls q.size _).mono ?_)); rintro e w_ ⟨rfl, hw_⟩; rw [hw_]; clear hw_; (first | rw [rm] | rw [rn] | rw [rs])))
    go_ret
    exact ⟨rfl, HB.out⟩
  have rc0 : decide (q.code < 0) = false := decide_eq_false rc0
  by_cases rc1 : 255 < q.code
  case pos =>
    have rc1 : decide (255 < q.code) = true := decide_eq_true rc1
    have hR : (2 : Int) = RES := by rw [HF1.out]; simp [rangeP, rm, rc0, rc1]
    clear HF1
    subst hR
    go_wp2_with (first | (go_at_call 82; (try (refine gate_guard (by rfl) ?_; dsimp only)); (first | (with_reducible refine (four2_calls q.mark _).mono ?_) | (with_reducible refine (four2_calls q.handle _).mono ?_) | (with_reducible refine (four2_calls q.size _).mono ?_)); rintro e w_ ⟨rfl, hw_⟩; rw [hw_]; clear hw_; (first | rw [rm] | rw [rn] | rw [rs])))
    go_ret
    exact ⟨rfl, HB.out⟩
  have rc1 : decide (255 < q.code) = false := decide_eq_false rc1
  by_cases rn : Msg.four q.handle = false
  case pos =>
    have hR : (2 : Int) = RES := by rw [HF1.out]; simp [rangeP, rm, rc0, rc1, rn]
    clear HF1
    subst hR
    go_wp2_with (first | (go_at_call 82; (try (refine gate_guard (by rfl) ?_; dsimp only)); (first | (with_reducible refine (four2_calls q.mark _).mono ?_) | (with_reducible refine (four2_calls q.handle _).mono ?_) | (with_reducible refine (four2_calls q.size _).mono ?_)); rintro e w_ ⟨rfl, hw_⟩; rw [hw_]; clear hw_; (first | rw [rm] | rw [rn] | rw [rs])))
    go_ret
    exact ⟨rfl, HB.out⟩
  have rn : Msg.four q.handle = true := by cases h : Msg.four q.handle with | true => rfl | false => exact absurd h rn
  by_cases rk0 : q.kind < 0
  case pos =>
    have rk0 : decide (q.kind < 0) = true := decide_eq_true rk0
    have hR : (2 : Int) = RES := by rw [HF1.out]; simp [rangeP, rm, rc0, rc1, rn, rk0]
    clear HF1
    subst hR
    go_wp2_with (first | (go_at_call 82; (try (refine gate_guard (by rfl) ?_; dsimp only)); (first | (with_reducible refine (four2_calls q.mark _).mono ?_) | (with_reducible refine (four2_calls q.handle _).mono ?_) | (with_reducible refine (four2_calls q.size _).mono ?_)); rintro e w_ ⟨rfl, hw_⟩; rw [hw_]; clear hw_; (first | rw [rm] | rw [rn] | rw [rs])))
    go_ret
    exact ⟨rfl, HB.out⟩
  have rk0 : decide (q.kind < 0) = false := decide_eq_false rk0
  by_cases rk1 : 255 < q.kind
  case pos =>
    have rk1 : decide (255 < q.kind) = true := decide_eq_true rk1
    have hR : (2 : Int) = RES := by rw [HF1.out]; simp [rangeP, rm, rc0, rc1, rn, rk0, rk1]
    clear HF1
    subst hR
    go_wp2_with (first | (go_at_call 82; (try (refine gate_guard (by rfl) ?_; dsimp only)); (first | (with_reducible refine (four2_calls q.mark _).mono ?_) | (with_reducible refine (four2_calls q.handle _).mono ?_) | (with_reducible refine (four2_calls q.size _).mono ?_)); rintro e w_ ⟨rfl, hw_⟩; rw [hw_]; clear hw_; (first | rw [rm] | rw [rn] | rw [rs])))
    go_ret
    exact ⟨rfl, HB.out⟩
  have rk1 : decide (255 < q.kind) = false := decide_eq_false rk1
  by_cases rs : Msg.four q.size = false
  case pos =>
    have hR : (2 : Int) = RES := by rw [HF1.out]; simp [rangeP, rm, rc0, rc1, rn, rk0, rk1, rs]
    clear HF1
    subst hR
    go_wp2_with (first | (go_at_call 82; (try (refine gate_guard (by rfl) ?_; dsimp only)); (first | (with_reducible refine (four2_calls q.mark _).mono ?_) | (with_reducible refine (four2_calls q.handle _).mono ?_) | (with_reducible refine (four2_calls q.size _).mono ?_)); rintro e w_ ⟨rfl, hw_⟩; rw [hw_]; clear hw_; (first | rw [rm] | rw [rn] | rw [rs])))
    go_ret
    exact ⟨rfl, HB.out⟩
  have rs : Msg.four q.size = true := by cases h : Msg.four q.size with | true => rfl | false => exact absurd h rs
  have HF2 := Aside0.mk (show RES = if sizeP q = true then 1 else if q.names.any (fun s => !nameB s) = true then 4 else 0 by rw [HF1.out, if_neg (by simp [rangeP, rm, rc0, rc1, rn, rk0, rk1, rs])])
  clear HF1
  go_upto_region 4 with (first | (go_at_call 82; (try (refine gate_guard (by rfl) ?_; dsimp only)); (first | (with_reducible refine (four2_calls q.mark _).mono ?_) | (with_reducible refine (four2_calls q.handle _).mono ?_) | (with_reducible refine (four2_calls q.size _).mono ?_)); rintro e w_ ⟨rfl, hw_⟩; rw [hw_]; clear hw_; (first | rw [rm] | rw [rn] | rw [rs])))
  by_cases z1 : 100 < q.data.length
  · have z1i : decide ((100 : Int) < (q.data.length : Int)) = true := decide_eq_true (by omega)
    have z1n : decide (100 < q.data.length) = true := decide_eq_true z1
    have hR : (1 : Int) = RES := by rw [HF2.out]; simp [sizeP, z1]
    clear HF2
    subst hR
    go_wp2
    go_ret
    exact ⟨rfl, HB.out⟩
  have z1i : decide ((100 : Int) < (q.data.length : Int)) = false := decide_eq_false (by omega)
  have z1n : decide (100 < q.data.length) = false := decide_eq_false z1
  by_cases z2 : 40 < q.names.length
  · have z2i : decide ((40 : Int) < (q.names.length : Int)) = true := decide_eq_true (by omega)
    have z2n : decide (40 < q.names.length) = true := decide_eq_true z2
    have hR : (1 : Int) = RES := by rw [HF2.out]; simp [sizeP, z2]
    clear HF2
    subst hR
    go_wp2
    go_ret
    exact ⟨rfl, HB.out⟩
  have z2i : decide ((40 : Int) < (q.names.length : Int)) = false := decide_eq_false (by omega)
  have z2n : decide (40 < q.names.length) = false := decide_eq_false z2
  have HF3 := Aside0.mk (show RES = if q.names.any (fun s => !nameB s) = true then 4 else 0 by rw [HF2.out, if_neg (by simp [sizeP, z1n, z2n])])
  have HLE := Aside0.mk (show q.names.length ≤ 40 by omega)
  clear HF2 z1 z2
  go_wp2
  go_loopg [58] q.names.length (fun g s58 wx => ∃ i : Nat, i + g = q.names.length ∧ s58 = .int .i64 (i : Int) ∧ Aside0 ((q.names.take i).any (fun s => !nameB s) = false) ∧ Aside0 (Below W1.heap.size W1 wx))
  case atStart => exact ⟨0, by omega, rfl, ⟨rfl⟩, ⟨Below.refl _ _⟩⟩
  case round =>
    obtain ⟨i, hig, rfl, HO, HBx⟩ := hrel
    have HIG := Aside0.mk hig
    cases gk with
    | zero =>
      obtain rfl : i = q.names.length := by omega
      have d1 : decide (((q.names.length : Nat) : Int) < ((q.names.length : Nat) : Int)) = false := decide_eq_false (by omega)
      have ho := HO.out
      rw [List.take_length] at ho
      have hR : (0 : Int) = RES := by rw [HF3.out, ho]; rfl
      clear HF3 ho HO
      subst hR
      go_wp2
      go_ret
      exact ⟨rfl, HB.out.trans (HBx.out.mono HB.out.size)⟩
    | succ g =>
      have hi : i < q.names.length := by omega
      have d1 : decide ((i : Int) < (q.names.length : Int)) = true := decide_eq_true (by omega)
      have d1n : decide (i < q.names.length) = true := decide_eq_true hi
      have p1 : (0 : Int) ≤ (i : Int) := by omega
      have q1 : (i : Int) < (q.names.length : Int) := by omega
      obtain ⟨ad, had, h0⟩ := Kd.at_string (Kd.C_below HN.out HBx.out) (i : Int) p1 q1
      rw [Int.toNat_natCast] at h0
      replace p1 := eq_true p1
      replace q1 := eq_true q1
      have hm0 : rdOf ByteArray.empty q.names (i : Int) = q.names[i] := by simp [rdOf, List.getD_eq_getElem?_getD, List.getElem?_eq_getElem hi]
      have hmem := List.getElem_mem hi
      have hstep : (q.names.take (i + 1)).any (fun s => !nameB s) = !nameB q.names[i] := by
        rw [List.take_succ_eq_append_getElem hi, List.any_append, HO.out]; simp
      obtain ⟨s, hs⟩ : ∃ s, q.names[i] = s := ⟨_, rfl⟩
      rw [hm0, hs] at h0
      rw [hs] at hmem hstep
      have hw4 : wrap64 ((i : Int) + 1) = ((i + 1 : Nat) : Int) := by have := HLE.out; unfold wrap64; omega
      have HST := Aside0.mk hstep
      have HMEM := Aside0.mk hmem
      clear hm0 hmem hstep hs hi hig HO
      go_upto_region 9 with fail
      clear had
      cases hb : nameB s with
      | false =>
        have HHB := Aside0.mk (af_may s 30 (by omega))
        have hR : (4 : Int) = RES := by rw [HF3.out, if_pos (List.any_eq_true.2 ⟨s, HMEM.out, by rw [hb]; rfl⟩)]
        rw [hb] at HHB
        clear HF3 hb
        subst hR
        go_wp2_with (go_at_call 74; (with_reducible refine (packthreadref_nameMay.calls 30 s _ _ HHB.out).mono ?_); rintro e w3 ⟨rfl, hd_⟩; have HB3 := Aside0.mk (HBx.out.trans ((Drawn0.below hd_).mono HBx.out.size)); clear hd_)
        go_ret
        exact ⟨rfl, HB.out.trans (HB3.out.mono HB.out.size)⟩
      | true =>
        have HHB := Aside0.mk (af_may s 30 (by omega))
        rw [hb] at HHB
        have HST2 := Aside0.mk (show (q.names.take (i + 1)).any (fun s => !nameB s) = false by rw [HST.out, hb]; rfl)
        clear hb
        go_wp2_with (go_at_call 74; (with_reducible refine (packthreadref_nameMay.calls 30 s _ _ HHB.out).mono ?_); rintro e w3 ⟨rfl, hd_⟩; have HB3 := Aside0.mk (HBx.out.trans ((Drawn0.below hd_).mono HBx.out.size)); clear hd_)
        go_roundg g
        case measure => omega
        case rel => exact ⟨i + 1, by have := HIG.out; omega, by rw [hw4], HST2, HB3⟩
def packthreadref_answerFault.f (a0 a1 a2 a3 a4 : Int) (l5 : List Int) (l6 : List ByteArray) : Option Int :=
  if l5.length < 140737488351233 ∧ l6.length < 140737488351233 then some (rfaultF ⟨a0, a1, a2, a3, a4, none, l5, 0, none, l6, 0⟩) else none
theorem packthreadref_answerFault.calls (a0 a1 a2 a3 a4 : Int) (A5 : Option Addr) (c5 : Nat) (l5 : List Int) (A6 : Option Addr) (c6 : Nat) (l6 : List ByteArray) (r : Int) (w : World) (hr5 : Kd.C (Kd.int .u8) w A5 l5.length l5) (hc5 : l5.length ≤ c5) (hr6 : Kd.C Kd.string w A6 l6.length l6) (hc6 : l6.length ≤ c6) (h : packthreadref_answerFault.f a0 a1 a2 a3 a4 l5 l6 = some r) :
    Calls Try.prog 56 #[.agg #[.int .i64 a0, .int .i64 a1, .int .i64 a2, .int .i64 a3, .int .i64 a4, .slice A5 l5.length c5, .slice A6 l6.length c6]] w fun e w' => e = .returned (.int .i64 r) ∧ Below w.heap.size w w' := by
  unfold packthreadref_answerFault.f at h
  by_cases hl : l5.length < 140737488351233 ∧ l6.length < 140737488351233
  · rw [if_pos hl] at h
    cases h
    exact rfault_calls ⟨a0, a1, a2, a3, a4, A5, l5, c5, A6, l6, c6⟩ w (by show l5.length ≤ _; omega) (by show l6.length ≤ _; omega) hc6 hr6
  · rw [if_neg hl] at h; cases h

end Go.Proofs.Ytkghoodhgihokaa.HMsgAnswers
