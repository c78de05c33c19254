/- Messages: fits, all. -/
import Derived.Test.YtkghoodhgihokaaXMsgA
namespace Go.Proofs.Ytkghoodhgihokaa.Msg
open Go.RowKit Go.Lib Go.Proofs.YtkghoodhgihokaaW.PrintWords Go.Proofs.YtkghoodhgihokaaW.PrintLast Go.Proofs.YtkghoodhgihokaaW.PrintMore
set_option linter.unusedVariables false
set_option linter.unusedSimpArgs false
/-- What is refused of a part. -/
def fitsF : Pv → Int
  | .num wd _ n => if n < 0 ∨ 0 < n / 2 ^ (8 * wd) then 2 else 0
  | .text _ s => if 200 < s.size then 1 else 0
  | .data _ _ l _ => if 100 < l.length then 1 else 0
/-- A part is of a width that the program knows. -/
def Pv.wok : Pv → Prop
  | .num wd _ n => wd = 1 ∨ wd = 2 ∨ wd = 4
  | .text _ s => True
  | .data _ _ l _ => True
theorem fitsF_num {wd : Nat} {a : Addr} {n : Int} : fitsF (.num wd a n) = if n < 0 ∨ 0 < n / 2 ^ (8 * wd) then 2 else 0 := rfl
set_option maxHeartbeats 4000000 in
set_option maxRecDepth 100000 in
theorem fits_num1 (a : Addr) (n : Int) (w : World) (h : w.cell? a = some (.int .i64 n)) :
    Calls Try.prog 77 #[.agg #[.int .i64 1, .pointer (some a), .pointer none, .pointer none]] w fun e w' => e = .returned (.int .i64 (fitsF (.num 1 a n))) ∧ Below w.heap.size w w' := by
  have HB := Aside0.mk ((Below.refl _ w).alloc (Nat.le_refl _) (.cells #[.int .i64 1, .pointer (some a), .pointer none, .pointer none] 78))
  have hc0 : (w.alloc (.cells #[.int .i64 1, .pointer (some a), .pointer none, .pointer none] 78)).cell? a = some (.int .i64 n) := (((Below.refl _ w).alloc (Nat.le_refl _) _).cell (World.block_lt_of_cell? w _ h)).trans h
  by_cases h0 : n < 0
  · have d1 : decide (n < 0) = true := decide_eq_true h0
    have hF : fitsF (.num 1 a n) = 2 := if_pos (Or.inl h0)
    rw [hF]
    go_enter Try.func77, Try.ntmps77
    go_upto_region 1 with fail
    go_quiet (fail)
    go_wp2
    go_ret
    exact ⟨rfl, pw_below_drewN HB.out _⟩
  · have d1 : decide (n < 0) = false := decide_eq_false h0
    by_cases h1 : 0 < n / 256
    · have d2 : decide (0 < n / 256) = true := decide_eq_true h1
      have hF : fitsF (.num 1 a n) = 2 := if_pos (Or.inr h1)
      rw [hF]
      go_enter Try.func77, Try.ntmps77
      go_upto_region 1 with fail
      go_quiet (fail)
      go_wp2
      go_ret
      exact ⟨rfl, pw_below_drewN HB.out _⟩
    · have d2 : decide (0 < n / 256) = false := decide_eq_false h1
      have hF : fitsF (.num 1 a n) = 0 := if_neg (fun h => h.elim h0 h1)
      rw [hF]
      go_enter Try.func77, Try.ntmps77
      go_upto_region 1 with fail
      go_quiet (fail)
      go_wp2
      go_ret
      exact ⟨rfl, pw_below_drewN HB.out _⟩
set_option maxHeartbeats 4000000 in
set_option maxRecDepth 100000 in
theorem fits_num2 (a : Addr) (n : Int) (w : World) (h : w.cell? a = some (.int .i64 n)) :
    Calls Try.prog 77 #[.agg #[.int .i64 2, .pointer (some a), .pointer none, .pointer none]] w fun e w' => e = .returned (.int .i64 (fitsF (.num 2 a n))) ∧ Below w.heap.size w w' := by
  have HB := Aside0.mk ((Below.refl _ w).alloc (Nat.le_refl _) (.cells #[.int .i64 2, .pointer (some a), .pointer none, .pointer none] 78))
  have hc0 : (w.alloc (.cells #[.int .i64 2, .pointer (some a), .pointer none, .pointer none] 78)).cell? a = some (.int .i64 n) := (((Below.refl _ w).alloc (Nat.le_refl _) _).cell (World.block_lt_of_cell? w _ h)).trans h
  by_cases h0 : n < 0
  · have d1 : decide (n < 0) = true := decide_eq_true h0
    have hF : fitsF (.num 2 a n) = 2 := if_pos (Or.inl h0)
    rw [hF]
    go_enter Try.func77, Try.ntmps77
    go_upto_region 1 with fail
    go_quiet (fail)
    go_wp2
    go_ret
    exact ⟨rfl, pw_below_drewN HB.out _⟩
  · have d1 : decide (n < 0) = false := decide_eq_false h0
    by_cases h1 : 0 < n / 65536
    · have d2 : decide (0 < n / 65536) = true := decide_eq_true h1
      have hF : fitsF (.num 2 a n) = 2 := if_pos (Or.inr h1)
      rw [hF]
      go_enter Try.func77, Try.ntmps77
      go_upto_region 1 with fail
      go_quiet (fail)
      go_wp2
      go_ret
      exact ⟨rfl, pw_below_drewN HB.out _⟩
    · have d2 : decide (0 < n / 65536) = false := decide_eq_false h1
      have hF : fitsF (.num 2 a n) = 0 := if_neg (fun h => h.elim h0 h1)
      rw [hF]
      go_enter Try.func77, Try.ntmps77
      go_upto_region 1 with fail
      go_quiet (fail)
      go_wp2
      go_ret
      exact ⟨rfl, pw_below_drewN HB.out _⟩
set_option maxHeartbeats 4000000 in
set_option maxRecDepth 100000 in
theorem fits_num4 (a : Addr) (n : Int) (w : World) (h : w.cell? a = some (.int .i64 n)) :
    Calls Try.prog 77 #[.agg #[.int .i64 4, .pointer (some a), .pointer none, .pointer none]] w fun e w' => e = .returned (.int .i64 (fitsF (.num 4 a n))) ∧ Below w.heap.size w w' := by
  have HB := Aside0.mk ((Below.refl _ w).alloc (Nat.le_refl _) (.cells #[.int .i64 4, .pointer (some a), .pointer none, .pointer none] 78))
  have hc0 : (w.alloc (.cells #[.int .i64 4, .pointer (some a), .pointer none, .pointer none] 78)).cell? a = some (.int .i64 n) := (((Below.refl _ w).alloc (Nat.le_refl _) _).cell (World.block_lt_of_cell? w _ h)).trans h
  by_cases h0 : n < 0
  · have d1 : decide (n < 0) = true := decide_eq_true h0
    have hF : fitsF (.num 4 a n) = 2 := if_pos (Or.inl h0)
    rw [hF]
    go_enter Try.func77, Try.ntmps77
    go_upto_region 1 with fail
    go_quiet (fail)
    go_wp2
    go_ret
    exact ⟨rfl, pw_below_drewN HB.out _⟩
  · have d1 : decide (n < 0) = false := decide_eq_false h0
    by_cases h1 : 0 < n / 4294967296
    · have d2 : decide (0 < n / 4294967296) = true := decide_eq_true h1
      have hF : fitsF (.num 4 a n) = 2 := if_pos (Or.inr h1)
      rw [hF]
      go_enter Try.func77, Try.ntmps77
      go_upto_region 1 with fail
      go_quiet (fail)
      go_wp2
      go_ret
      exact ⟨rfl, pw_below_drewN HB.out _⟩
    · have d2 : decide (0 < n / 4294967296) = false := decide_eq_false h1
      have hF : fitsF (.num 4 a n) = 0 := if_neg (fun h => h.elim h0 h1)
      rw [hF]
      go_enter Try.func77, Try.ntmps77
      go_upto_region 1 with fail
      go_quiet (fail)
      go_wp2
      go_ret
      exact ⟨rfl, pw_below_drewN HB.out _⟩
set_option maxHeartbeats 4000000 in
set_option maxRecDepth 100000 in
theorem fits_text (a : Addr) (s : ByteArray) (w : World) (h : w.cell? a = some (.string s)) :
    Calls Try.prog 77 #[.agg #[.int .i64 0, .pointer none, .pointer (some a), .pointer none]] w fun e w' => e = .returned (.int .i64 (fitsF (.text a s))) ∧ Below w.heap.size w w' := by
  have HB := Aside0.mk ((Below.refl _ w).alloc (Nat.le_refl _) (.cells #[.int .i64 0, .pointer none, .pointer (some a), .pointer none] 78))
  have hc0 : (w.alloc (.cells #[.int .i64 0, .pointer none, .pointer (some a), .pointer none] 78)).cell? a = some (.string s) := (((Below.refl _ w).alloc (Nat.le_refl _) _).cell (World.block_lt_of_cell? w _ h)).trans h
  by_cases h0 : 200 < s.size
  · have d1 : decide ((200 : Int) < (s.size : Int)) = true := decide_eq_true (by omega)
    have d1n : decide (200 < s.size) = true := decide_eq_true h0
    have hF : fitsF (.text a s) = 1 := if_pos h0
    rw [hF]
    go_enter Try.func77, Try.ntmps77
    go_upto_region 1 with fail
    go_quiet (fail)
    go_wp2
    go_ret
    exact ⟨rfl, pw_below_drewN HB.out _⟩
  · have d1 : decide ((200 : Int) < (s.size : Int)) = false := decide_eq_false (by omega)
    have d1n : decide (200 < s.size) = false := decide_eq_false h0
    have hF : fitsF (.text a s) = 0 := if_neg h0
    rw [hF]
    go_enter Try.func77, Try.ntmps77
    go_upto_region 1 with fail
    go_quiet (fail)
    go_wp2
    go_ret
    exact ⟨rfl, pw_below_drewN HB.out _⟩
set_option maxHeartbeats 4000000 in
set_option maxRecDepth 100000 in
theorem fits_data (a : Addr) (A : Option Addr) (l : List Int) (c : Nat) (w : World) (h : w.cell? a = some (.slice A l.length c)) :
    Calls Try.prog 77 #[.agg #[.int .i64 0, .pointer none, .pointer none, .pointer (some a)]] w fun e w' => e = .returned (.int .i64 (fitsF (.data a A l c))) ∧ Below w.heap.size w w' := by
  have HB := Aside0.mk ((Below.refl _ w).alloc (Nat.le_refl _) (.cells #[.int .i64 0, .pointer none, .pointer none, .pointer (some a)] 78))
  have hc0 : (w.alloc (.cells #[.int .i64 0, .pointer none, .pointer none, .pointer (some a)] 78)).cell? a = some (.slice A l.length c) := (((Below.refl _ w).alloc (Nat.le_refl _) _).cell (World.block_lt_of_cell? w _ h)).trans h
  by_cases h0 : 100 < l.length
  · have d1 : decide ((100 : Int) < (l.length : Int)) = true := decide_eq_true (by omega)
    have d1n : decide (100 < l.length) = true := decide_eq_true h0
    have hF : fitsF (.data a A l c) = 1 := if_pos h0
    rw [hF]
    go_enter Try.func77, Try.ntmps77
    go_upto_region 1 with fail
    go_quiet (fail)
    go_wp2
    go_ret
    exact ⟨rfl, pw_below_drewN HB.out _⟩
  · have d1 : decide ((100 : Int) < (l.length : Int)) = false := decide_eq_false (by omega)
    have d1n : decide (100 < l.length) = false := decide_eq_false h0
    have hF : fitsF (.data a A l c) = 0 := if_neg h0
    rw [hF]
    go_enter Try.func77, Try.ntmps77
    go_upto_region 1 with fail
    go_quiet (fail)
    go_wp2
    go_ret
    exact ⟨rfl, pw_below_drewN HB.out _⟩
theorem fits_calls (p : Pv) (w : World) (h : p.has w) (hw : p.wok) : Calls Try.prog 77 #[p.val] w fun e w' => e = .returned (.int .i64 (fitsF p)) ∧ Below w.heap.size w w' := by
  cases p with
  | num wd a n =>
    rcases hw with rfl | rfl | rfl
    · exact fits_num1 a n w h
    · exact fits_num2 a n w h
    · exact fits_num4 a n w h
  | text a s => exact fits_text a s w h
  | data a A l c => exact fits_data a A l c w h.1
/-- What is refused of parts, behind what was refused. -/
def allG : Int → List Pv → Int
  | o, [] => o
  | o, p :: t => if fitsF p = 2 then 2 else allG (if o = 0 then fitsF p else o) t
theorem kpv_at {w : World} {g n c : Nat} {ps : List Pv} {base : Nat} {ok : Nat → Prop} (h : kpv.R 78 w base ok (.slice (some ⟨g, 0, none⟩) n c) ps) {i : Nat} (hi : i < ps.length) : w.rangeAt g (i * 4) (ps[i]).cells := by
  obtain ⟨_, _, hC⟩ := Kd.R_reads' h
  obtain ⟨ad, cs, had, hl, hK, hcs⟩ := Kd.C_get hC (.text ⟨0, 0, none⟩ ⟨#[]⟩) (i : Int) (by omega) (by omega)
  injection had with had
  subst had
  have e : ps.getD (i : Int).toNat (.text ⟨0, 0, none⟩ ⟨#[]⟩) = ps[i] := by
    rw [show (i : Int).toNat = i by omega]
    simp [hi]
  rw [e] at hK
  have hK' : cs = (ps[i]).cells := hK
  subst hK'
  intro j v hj
  have := hcs j v hj
  rw [Addr.add_mid] at this
  rw [show i * 4 + j = 0 + ((i : Int).toNat * kpv.sz + j) by rw [show (i : Int).toNat = i by omega]; show i * 4 + j = 0 + (i * 4 + j); omega]
  exact this
theorem fitsF_vals (p : Pv) : fitsF p = 0 ∨ fitsF p = 1 ∨ fitsF p = 2 := by
  cases p with
  | num wd a n =>
    rw [fitsF_num]
    by_cases h : n < 0 ∨ 0 < n / 2 ^ (8 * wd)
    · rw [if_pos h]; exact .inr (.inr rfl)
    · rw [if_neg h]; exact .inl rfl
  | text a s =>
    by_cases h : 200 < s.size
    · exact .inr (.inl (if_pos h))
    · exact .inl (if_neg h)
  | data a A l c =>
    by_cases h : 100 < l.length
    · exact .inr (.inl (if_pos h))
    · exact .inl (if_neg h)
set_option maxHeartbeats 4000000 in
set_option maxRecDepth 100000 in
theorem all_calls (ps : List Pv) (v : Value) (w : World) (base : Nat) (ok : Nat → Prop) (hR : kpv.R 78 w base ok v ps) (hl : ps.length ≤ 1000) (hh : ∀ p ∈ ps, p.has w ∧ p.wok) :
    Calls Try.prog 44 #[v] w fun e w' => e = .returned (.int .i64 (allG 0 ps)) ∧ Below w.heap.size w w' := by
  have HR := Aside0.mk hR
  clear hR
  have HH := Aside0.mk hh
  clear hh
  obtain ⟨A, cp, hA⟩ := Kd.R_slice HR.out
  subst hA
  obtain ⟨RES, hRES⟩ : ∃ r, allG 0 ps = r := ⟨_, rfl⟩
  rw [hRES]
  go_enter Try.func44, Try.ntmps44
  go_wp2
  go_loopg [3, 9] ps.length (fun g s3 s9 wx => ∃ (i : Nat) (o : Int), i + g = ps.length ∧ s9 = .int .i64 (i : Int) ∧ s3 = .int .i64 o ∧ Aside0 (allG o (ps.drop i) = RES) ∧ Aside0 (Below w.heap.size w wx))
  case atStart => exact ⟨0, 0, by omega, rfl, rfl, ⟨hRES⟩, ⟨Below.refl _ _⟩⟩
  case round =>
    obtain ⟨i, o, hig, rfl, rfl, HE, HB⟩ := hrel
    cases gk with
    | zero =>
      obtain rfl : i = ps.length := by omega
      have d1 : decide (((ps.length : Nat) : Int) < ((ps.length : Nat) : Int)) = false := decide_eq_false (by omega)
      have hE := HE.out
      rw [List.drop_length] at hE
      have hE2 : o = RES := hE
      clear hE hRES HE
      subst hE2
      go_wp2
      go_ret
      exact ⟨rfl, HB.out⟩
    | succ g =>
      have hi : i < ps.length := by omega
      have HIG := Aside0.mk hig
      have d1 : decide ((i : Int) < ((ps.length : Nat) : Int)) = true := decide_eq_true (by omega)
      have d1n : decide (i < ps.length) = true := decide_eq_true hi
      have i0 : (0 : Int) ≤ (i : Int) := by omega
      have i1 : (i : Int) < (ps.length : Int) := by omega
      obtain ⟨g0, cap, hv, _, _, _⟩ := Kd.R_form HR.out (by omega)
      injection hv with hv1 hv2 hv3
      subst hv1
      subst hv3
      have hrg := kpv_at (Kd.R_below HR.out HB.out) hi
      have hp := HH.out _ (List.getElem_mem hi)
      have hE := HE.out
      rw [List.drop_eq_getElem_cons hi] at hE
      obtain ⟨p, hpp⟩ : ∃ p, ps[i] = p := ⟨_, rfl⟩
      rw [hpp] at hrg hp hE
      clear hpp
      have HPH := Aside0.mk (Pv.has_below hp.1 HB.out)
      have HPW := Aside0.mk hp.2
      have hpl := Pv.len p
      obtain ⟨x0, x1, x2, x3, hx⟩ : ∃ x0 x1 x2 x3, p.cells = [x0, x1, x2, x3] ∧ (∃ z, x0 = .int .i64 z) ∧ (∃ y, x1 = .pointer y) ∧ (∃ y, x2 = .pointer y) ∧ (∃ y, x3 = .pointer y) := by
        cases p <;> exact ⟨_, _, _, _, rfl, ⟨_, rfl⟩, ⟨_, rfl⟩, ⟨_, rfl⟩, ⟨_, rfl⟩⟩
      obtain ⟨hx, ⟨z0, rfl⟩, ⟨z1, rfl⟩, ⟨z2, rfl⟩, ⟨z3, rfl⟩⟩ := hx
      have hval : p.val = .agg #[.int .i64 z0, .pointer z1, .pointer z2, .pointer z3] := by unfold Pv.val; rw [hx]
      rw [hx] at hrg
      have HC := Aside0.mk fun w1 h => fits_calls p w1 h HPW.out
      rw [hval] at HC
      clear hp hpl hx hval
      have hfv := fitsF_vals p
      have HE1 := Aside0.mk (show (if fitsF p = 2 then 2 else allG (if o = 0 then fitsF p else o) (ps.drop (i + 1))) = RES from hE)
      clear hE HE hRES
      obtain ⟨f, hf⟩ : ∃ f, fitsF p = f := ⟨_, rfl⟩
      rw [hf] at HE1 hfv
      have HF := Aside0.mk hf
      clear hf
      go_upto_region 6 with (first | (refine wpList_load_mid rfl 78 (.tmp 11) rfl g0 (i * 4) ?hx78 _ _ hrg Try.underlying78 rfl (by kernel_rfl) ?_) | (go_at_call 77; refine (HC.out _ (Pv.has_below HPH.out ((Below.refl _ _).alloc (Nat.le_refl _) _))).mono ?_; rintro e w2 ⟨rfl, hb2⟩; have HB2 := Aside0.mk (HB.out.trans ((((Below.refl wr.heap.size wr).alloc (Nat.le_refl _) _).trans (hb2.mono (by simp))).mono HB.out.size)); clear hb2; rw [HF.out]))
      clear HC
      by_cases f2 : f = 2
      · subst f2
        have hE2 : (2 : Int) = RES := by have := HE1.out; rw [if_pos rfl] at this; exact this
        clear HE1
        subst hE2
        go_wp2
        go_ret
        exact ⟨rfl, HB2.out⟩
      · have n2 : (f == 2) = false := beq_eq_false_iff_ne.2 f2
        by_cases o0 : o = 0
        · subst o0
          have HE3 := Aside0.mk (show allG f (ps.drop (i + 1)) = RES by have := HE1.out; rw [if_neg f2, if_pos rfl] at this; exact this)
          clear f2
          go_wp2
          go_roundg g
          case measure => omega
          case rel => exact ⟨i + 1, f, by have := HIG.out; omega, by rfl, rfl, HE3, HB2⟩
        · have no : (o == 0) = false := beq_eq_false_iff_ne.2 o0
          have HE3 := Aside0.mk (show allG o (ps.drop (i + 1)) = RES by have := HE1.out; rw [if_neg f2, if_neg o0] at this; exact this)
          clear f2 o0
          go_wp2
          go_roundg g
          case measure => omega
          case rel => exact ⟨i + 1, o, by have := HIG.out; omega, by rfl, rfl, HE3, HB2⟩
end Go.Proofs.Ytkghoodhgihokaa.Msg
