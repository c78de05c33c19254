/- XMsgC, XMsgD. -/
import Derived.Test.YtkghoodhgihokaaXMsgA
import Derived.Test.YtkghoodhgihokaaXMsgB
import Derived.LaidEqlPtr
import Derived.Lib.Builder
namespace Go.Proofs.Ytkghoodhgihokaa.Msg
open Go.RowKit Go.Lib Go.Proofs.YtkghoodhgihokaaW.PrintWords Go.Proofs.YtkghoodhgihokaaW.PrintLast Go.Proofs.YtkghoodhgihokaaW.PrintMore
set_option linter.unusedVariables false
set_option linter.unusedSimpArgs false
/-- What is refused of a part. -/
def fitsF : Pv → Int
  | .num wd _ n => if n < 0 ∨ 0 < n / 2 ^ (8 * wd) then 2 else 0
  | .text _ s => if 200 < s.size then 1 else 0
  | .data _ _ l _ => if 100 < l.length then 1 else 0
/-- A part is of a width that the program knows. -/
def Pv.wok : Pv → Prop
  | .num wd _ n => wd = 1 ∨ wd = 2 ∨ wd = 4
  | .text _ s => True
  | .data _ _ l _ => True
theorem fitsF_num {wd : Nat} {a : Addr} {n : Int} : fitsF (.num wd a n) = if n < 0 ∨ 0 < n / 2 ^ (8 * wd) then 2 else 0 := rfl
set_option maxHeartbeats 4000000 in
set_option maxRecDepth 100000 in
theorem fits_num1 (a : Addr) (n : Int) (w : World) (h : w.cell? a = some (.int .i64 n)) :
    Calls Try.prog 77 #[.agg #[.int .i64 1, .pointer (some a), .pointer none, .pointer none]] w fun e w' => e = .returned (.int .i64 (fitsF (.num 1 a n))) ∧ Below w.heap.size w w' := by
  have HB := Aside0.mk ((Below.refl _ w).alloc (Nat.le_refl _) (.cells #[.int .i64 1, .pointer (some a), .pointer none, .pointer none] 78))
  have hc0 : (w.alloc (.cells #[.int .i64 1, .pointer (some a), .pointer none, .pointer none] 78)).cell? a = some (.int .i64 n) := (((Below.refl _ w).alloc (Nat.le_refl _) _).cell (World.block_lt_of_cell? w _ h)).trans h
  by_cases h0 : n < 0
  · have d1 : decide (n < 0) = true := decide_eq_true h0
    have hF : fitsF (.num 1 a n) = 2 := if_pos (Or.inl h0)
    rw [hF]
    go_enter Try.func77, Try.ntmps77
    go_upto_region 1 with fail
    go_quiet (fail)
    go_wp2
    go_ret
    exact ⟨rfl, pw_below_drewN HB.out _⟩
  · have d1 : decide (n < 0) = false := decide_eq_false h0
    by_cases h1 : 0 < n / 256
    · have d2 : decide (0 < n / 256) = true := decide_eq_true h1
      have hF : fitsF (.num 1 a n) = 2 := if_pos (Or.inr h1)
      rw [hF]
      go_enter Try.func77, Try.ntmps77
      go_upto_region 1 with fail
      go_quiet (fail)
      go_wp2
      go_ret
      exact ⟨rfl, pw_below_drewN HB.out _⟩
    · have d2 : decide (0 < n / 256) = false := decide_eq_false h1
      have hF : fitsF (.num 1 a n) = 0 := if_neg (fun h => h.elim h0 h1)
      rw [hF]
      go_enter Try.func77, Try.ntmps77
      go_upto_region 1 with fail
      go_quiet (fail)
      go_wp2
      go_ret
      exact ⟨rfl, pw_below_drewN HB.out _⟩
set_option maxHeartbeats 4000000 in
set_option maxRecDepth 100000 in
theorem fits_num2 (a : Addr) (n : Int) (w : World) (h : w.cell? a = some (.int .i64 n)) :
    Calls Try.prog 77 #[.agg #[.int .i64 2, .pointer (some a), .pointer none, .pointer none]] w fun e w' => e = .returned (.int .i64 (fitsF (.num 2 a n))) ∧ Below w.heap.size w w' := by
  have HB := Aside0.mk ((Below.refl _ w).alloc (Nat.le_refl _) (.cells #[.int .i64 2, .pointer (some a), .pointer none, .pointer none] 78))
  have hc0 : (w.alloc (.cells #[.int .i64 2, .pointer (some a), .pointer none, .pointer none] 78)).cell? a = some (.int .i64 n) := (((Below.refl _ w).alloc (Nat.le_refl _) _).cell (World.block_lt_of_cell? w _ h)).trans h
  by_cases h0 : n < 0
  · have d1 : decide (n < 0) = true := decide_eq_true h0
    have hF : fitsF (.num 2 a n) = 2 := if_pos (Or.inl h0)
    rw [hF]
    go_enter Try.func77, Try.ntmps77
    go_upto_region 1 with fail
    go_quiet (fail)
    go_wp2
    go_ret
    exact ⟨rfl, pw_below_drewN HB.out _⟩
  · have d1 : decide (n < 0) = false := decide_eq_false h0
    by_cases h1 : 0 < n / 65536
    · have d2 : decide (0 < n / 65536) = true := decide_eq_true h1
      have hF : fitsF (.num 2 a n) = 2 := if_pos (Or.inr h1)
      rw [hF]
      go_enter Try.func77, Try.ntmps77
      go_upto_region 1 with fail
      go_quiet (fail)
      go_wp2
      go_ret
      exact ⟨rfl, pw_below_drewN HB.out _⟩
    · have d2 : decide (0 < n / 65536) = false := decide_eq_false h1
      have hF : fitsF (.num 2 a n) = 0 := if_neg (fun h => h.elim h0 h1)
      rw [hF]
      go_enter Try.func77, Try.ntmps77
      go_upto_region 1 with fail
      go_quiet (fail)
      go_wp2
      go_ret
      exact ⟨rfl, pw_below_drewN HB.out _⟩
set_option maxHeartbeats 4000000 in
set_option maxRecDepth 100000 in
theorem fits_num4 (a : Addr) (n : Int) (w : World) (h : w.cell? a = some (.int .i64 n)) :
    Calls Try.prog 77 #[.agg #[.int .i64 4, .pointer (some a), .pointer none, .pointer none]] w fun e w' => e = .returned (.int .i64 (fitsF (.num 4 a n))) ∧ Below w.heap.size w w' := by
  have HB := Aside0.mk ((Below.refl _ w).alloc (Nat.le_refl _) (.cells #[.int .i64 4, .pointer (some a), .pointer none, .pointer none] 78))
  have hc0 : (w.alloc (.cells #[.int .i64 4, .pointer (some a), .pointer none, .pointer none] 78)).cell? a = some (.int .i64 n) := (((Below.refl _ w).alloc (Nat.le_refl _) _).cell (World.block_lt_of_cell? w _ h)).trans h
  by_cases h0 : n < 0
  · have d1 : decide (n < 0) = true := decide_eq_true h0
    have hF : fitsF (.num 4 a n) = 2 := if_pos (Or.inl h0)
    rw [hF]
    go_enter Try.func77, Try.ntmps77
    go_upto_region 1 with fail
    go_quiet (fail)
    go_wp2
    go_ret
    exact ⟨rfl, pw_below_drewN HB.out _⟩
  · have d1 : decide (n < 0) = false := decide_eq_false h0
    by_cases h1 : 0 < n / 4294967296
    · have d2 : decide (0 < n / 4294967296) = true := decide_eq_true h1
      have hF : fitsF (.num 4 a n) = 2 := if_pos (Or.inr h1)
      rw [hF]
      go_enter Try.func77, Try.ntmps77
      go_upto_region 1 with fail
      go_quiet (fail)
      go_wp2
      go_ret
      exact ⟨rfl, pw_below_drewN HB.out _⟩
    · have d2 : decide (0 < n / 4294967296) = false := decide_eq_false h1
      have hF : fitsF (.num 4 a n) = 0 := if_neg (fun h => h.elim h0 h1)
      rw [hF]
      go_enter Try.func77, Try.ntmps77
      go_upto_region 1 with fail
      go_quiet (fail)
      go_wp2
      go_ret
      exact ⟨rfl, pw_below_drewN HB.out _⟩
set_option maxHeartbeats 4000000 in
set_option maxRecDepth 100000 in
theorem fits_text (a : Addr) (s : ByteArray) (w : World) (h : w.cell? a = some (.string s)) :
    Calls Try.prog 77 #[.agg #[.int .i64 0, .pointer none, .pointer (some a), .pointer none]] w fun e w' => e = .returned (.int .i64 (fitsF (.text a s))) ∧ Below w.heap.size w w' := by
  have HB := Aside0.mk ((Below.refl _ w).alloc (Nat.le_refl _) (.cells #[.int .i64 0, .pointer none, .pointer (some a), .pointer none] 78))
  have hc0 : (w.alloc (.cells #[.int .i64 0, .pointer none, .pointer (some a), .pointer none] 78)).cell? a = some (.string s) := (((Below.refl _ w).alloc (Nat.le_refl _) _).cell (World.block_lt_of_cell? w _ h)).trans h
  by_cases h0 : 200 < s.size
  · have d1 : decide ((200 : Int) < (s.size : Int)) = true := decide_eq_true (by omega)
    have d1n : decide (200 < s.size) = true := decide_eq_true h0
    have hF : fitsF (.text a s) = 1 := if_pos h0
    rw [hF]
    go_enter Try.func77, Try.ntmps77
    go_upto_region 1 with fail
    go_quiet (fail)
    go_wp2
    go_ret
    exact ⟨rfl, pw_below_drewN HB.out _⟩
  · have d1 : decide ((200 : Int) < (s.size : Int)) = false := decide_eq_false (by omega)
    have d1n : decide (200 < s.size) = false := decide_eq_false h0
    have hF : fitsF (.text a s) = 0 := if_neg h0
    rw [hF]
    go_enter Try.func77, Try.ntmps77
    go_upto_region 1 with fail
    go_quiet (fail)
    go_wp2
    go_ret
    exact ⟨rfl, pw_below_drewN HB.out _⟩
set_option maxHeartbeats 4000000 in
set_option maxRecDepth 100000 in
theorem fits_data (a : Addr) (A : Option Addr) (l : List Int) (c : Nat) (w : World) (h : w.cell? a = some (.slice A l.length c)) :
    Calls Try.prog 77 #[.agg #[.int .i64 0, .pointer none, .pointer none, .pointer (some a)]] w fun e w' => e = .returned (.int .i64 (fitsF (.data a A l c))) ∧ Below w.heap.size w w' := by
  have HB := Aside0.mk ((Below.refl _ w).alloc (Nat.le_refl _) (.cells #[.int .i64 0, .pointer none, .pointer none, .pointer (some a)] 78))
  have hc0 : (w.alloc (.cells #[.int .i64 0, .pointer none, .pointer none, .pointer (some a)] 78)).cell? a = some (.slice A l.length c) := (((Below.refl _ w).alloc (Nat.le_refl _) _).cell (World.block_lt_of_cell? w _ h)).trans h
  by_cases h0 : 100 < l.length
  · have d1 : decide ((100 : Int) < (l.length : Int)) = true := decide_eq_true (by omega)
    have d1n : decide (100 < l.length) = true := decide_eq_true h0
    have hF : fitsF (.data a A l c) = 1 := if_pos h0
    rw [hF]
    go_enter Try.func77, Try.ntmps77
    go_upto_region 1 with fail
    go_quiet (fail)
    go_wp2
    go_ret
    exact ⟨rfl, pw_below_drewN HB.out _⟩
  · have d1 : decide ((100 : Int) < (l.length : Int)) = false := decide_eq_false (by omega)
    have d1n : decide (100 < l.length) = false := decide_eq_false h0
    have hF : fitsF (.data a A l c) = 0 := if_neg h0
    rw [hF]
    go_enter Try.func77, Try.ntmps77
    go_upto_region 1 with fail
    go_quiet (fail)
    go_wp2
    go_ret
    exact ⟨rfl, pw_below_drewN HB.out _⟩
theorem fits_calls (p : Pv) (w : World) (h : p.has w) (hw : p.wok) : Calls Try.prog 77 #[p.val] w fun e w' => e = .returned (.int .i64 (fitsF p)) ∧ Below w.heap.size w w' := by
  cases p with
  | num wd a n =>
    rcases hw with rfl | rfl | rfl
    · exact fits_num1 a n w h
    · exact fits_num2 a n w h
    · exact fits_num4 a n w h
  | text a s => exact fits_text a s w h
  | data a A l c => exact fits_data a A l c w h.1
/-- What is refused of parts, behind what was refused. -/
def allG : Int → List Pv → Int
  | o, [] => o
  | o, p :: t => if fitsF p = 2 then 2 else allG (if o = 0 then fitsF p else o) t
theorem kpv_at {w : World} {g n c : Nat} {ps : List Pv} {base : Nat} {ok : Nat → Prop} (h : kpv.R 78 w base ok (.slice (some ⟨g, 0, none⟩) n c) ps) {i : Nat} (hi : i < ps.length) : w.rangeAt g (i * 4) (ps[i]).cells := by
  obtain ⟨_, _, hC⟩ := Kd.R_reads' h
  obtain ⟨ad, cs, had, hl, hK, hcs⟩ := Kd.C_get hC (.text ⟨0, 0, none⟩ ⟨#[]⟩) (i : Int) (by omega) (by omega)
  injection had with had
  subst had
  have e : ps.getD (i : Int).toNat (.text ⟨0, 0, none⟩ ⟨#[]⟩) = ps[i] := by
    rw [show (i : Int).toNat = i by omega]
    simp [hi]
  rw [e] at hK
  have hK' : cs = (ps[i]).cells := hK
  subst hK'
  intro j v hj
  have := hcs j v hj
  rw [Addr.add_mid] at this
  rw [show i * 4 + j = 0 + ((i : Int).toNat * kpv.sz + j) by rw [show (i : Int).toNat = i by omega]; show i * 4 + j = 0 + (i * 4 + j); omega]
  exact this
theorem fitsF_vals (p : Pv) : fitsF p = 0 ∨ fitsF p = 1 ∨ fitsF p = 2 := by
  cases p with
  | num wd a n =>
    rw [fitsF_num]
    by_cases h : n < 0 ∨ 0 < n / 2 ^ (8 * wd)
    · rw [if_pos h]; exact .inr (.inr rfl)
    · rw [if_neg h]; exact .inl rfl
  | text a s =>
    by_cases h : 200 < s.size
    · exact .inr (.inl (if_pos h))
    · exact .inl (if_neg h)
  | data a A l c =>
    by_cases h : 100 < l.length
    · exact .inr (.inl (if_pos h))
    · exact .inl (if_neg h)
set_option maxHeartbeats 4000000 in
set_option maxRecDepth 100000 in
theorem all_calls (ps : List Pv) (v : Value) (w : World) (base : Nat) (ok : Nat → Prop) (hR : kpv.R 78 w base ok v ps) (hl : ps.length ≤ 1000) (hh : ∀ p ∈ ps, p.has w ∧ p.wok) :
    Calls Try.prog 44 #[v] w fun e w' => e = .returned (.int .i64 (allG 0 ps)) ∧ Below w.heap.size w w' := by
  have HR := Aside0.mk hR
  clear hR
  have HH := Aside0.mk hh
  clear hh
  obtain ⟨A, cp, hA⟩ := Kd.R_slice HR.out
  subst hA
  obtain ⟨RES, hRES⟩ : ∃ r, allG 0 ps = r := ⟨_, rfl⟩
  rw [hRES]
  go_enter Try.func44, Try.ntmps44
  go_wp2
  go_loopg [3, 9] ps.length (fun g s3 s9 wx => ∃ (i : Nat) (o : Int), i + g = ps.length ∧ s9 = .int .i64 (i : Int) ∧ s3 = .int .i64 o ∧ Aside0 (allG o (ps.drop i) = RES) ∧ Aside0 (Below w.heap.size w wx))
  case atStart => exact ⟨0, 0, by omega, rfl, rfl, ⟨hRES⟩, ⟨Below.refl _ _⟩⟩
  case round =>
    obtain ⟨i, o, hig, rfl, rfl, HE, HB⟩ := hrel
    cases gk with
    | zero =>
      obtain rfl : i = ps.length := by omega
      have d1 : decide (((ps.length : Nat) : Int) < ((ps.length : Nat) : Int)) = false := decide_eq_false (by omega)
      have hE := HE.out
      rw [List.drop_length] at hE
      have hE2 : o = RES := hE
      clear hE hRES HE
      subst hE2
      go_wp2
      go_ret
      exact ⟨rfl, HB.out⟩
    | succ g =>
      have hi : i < ps.length := by omega
      have HIG := Aside0.mk hig
      have d1 : decide ((i : Int) < ((ps.length : Nat) : Int)) = true := decide_eq_true (by omega)
      have d1n : decide (i < ps.length) = true := decide_eq_true hi
      have i0 : (0 : Int) ≤ (i : Int) := by omega
      have i1 : (i : Int) < (ps.length : Int) := by omega
      obtain ⟨g0, cap, hv, _, _, _⟩ := Kd.R_form HR.out (by omega)
      injection hv with hv1 hv2 hv3
      subst hv1
      subst hv3
      have hrg := kpv_at (Kd.R_below HR.out HB.out) hi
      have hp := HH.out _ (List.getElem_mem hi)
      have hE := HE.out
      rw [List.drop_eq_getElem_cons hi] at hE
      obtain ⟨p, hpp⟩ : ∃ p, ps[i] = p := ⟨_, rfl⟩
      rw [hpp] at hrg hp hE
      clear hpp
      have HPH := Aside0.mk (Pv.has_below hp.1 HB.out)
      have HPW := Aside0.mk hp.2
      have hpl := Pv.len p
      obtain ⟨x0, x1, x2, x3, hx⟩ : ∃ x0 x1 x2 x3, p.cells = [x0, x1, x2, x3] ∧ (∃ z, x0 = .int .i64 z) ∧ (∃ y, x1 = .pointer y) ∧ (∃ y, x2 = .pointer y) ∧ (∃ y, x3 = .pointer y) := by
        cases p <;> exact ⟨_, _, _, _, rfl, ⟨_, rfl⟩, ⟨_, rfl⟩, ⟨_, rfl⟩, ⟨_, rfl⟩⟩
      obtain ⟨hx, ⟨z0, rfl⟩, ⟨z1, rfl⟩, ⟨z2, rfl⟩, ⟨z3, rfl⟩⟩ := hx
      have hval : p.val = .agg #[.int .i64 z0, .pointer z1, .pointer z2, .pointer z3] := by unfold Pv.val; rw [hx]
      rw [hx] at hrg
      have HC := Aside0.mk fun w1 h => fits_calls p w1 h HPW.out
      rw [hval] at HC
      clear hp hpl hx hval
      have hfv := fitsF_vals p
      have HE1 := Aside0.mk (show (if fitsF p = 2 then 2 else allG (if o = 0 then fitsF p else o) (ps.drop (i + 1))) = RES from hE)
      clear hE HE hRES
      obtain ⟨f, hf⟩ : ∃ f, fitsF p = f := ⟨_, rfl⟩
      rw [hf] at HE1 hfv
      have HF := Aside0.mk hf
      clear hf
      go_upto_region 6 with (first | (refine wpList_load_mid rfl 78 (.tmp 11) rfl g0 (i * 4) ?hx78 _ _ hrg Try.underlying78 rfl (by kernel_rfl) ?_) | (go_at_call 77; refine (HC.out _ (Pv.has_below HPH.out ((Below.refl _ _).alloc (Nat.le_refl _) _))).mono ?_; rintro e w2 ⟨rfl, hb2⟩; have HB2 := Aside0.mk (HB.out.trans ((((Below.refl wr.heap.size wr).alloc (Nat.le_refl _) _).trans (hb2.mono (by simp))).mono HB.out.size)); clear hb2; rw [HF.out]))
      clear HC
      by_cases f2 : f = 2
      · subst f2
        have hE2 : (2 : Int) = RES := by have := HE1.out; rw [if_pos rfl] at this; exact this
        clear HE1
        subst hE2
        go_wp2
        go_ret
        exact ⟨rfl, HB2.out⟩
      · have n2 : (f == 2) = false := beq_eq_false_iff_ne.2 f2
        by_cases o0 : o = 0
        · subst o0
          have HE3 := Aside0.mk (show allG f (ps.drop (i + 1)) = RES by have := HE1.out; rw [if_neg f2, if_pos rfl] at this; exact this)
          clear f2
          go_wp2
          go_roundg g
          case measure => omega
          case rel => exact ⟨i + 1, f, by have := HIG.out; omega, by rfl, rfl, HE3, HB2⟩
        · have no : (o == 0) = false := beq_eq_false_iff_ne.2 o0
          have HE3 := Aside0.mk (show allG o (ps.drop (i + 1)) = RES by have := HE1.out; rw [if_neg f2, if_neg o0] at this; exact this)
          clear f2 o0
          go_wp2
          go_roundg g
          case measure => omega
          case rel => exact ⟨i + 1, o, by have := HIG.out; omega, by rfl, rfl, HE3, HB2⟩
end Go.Proofs.Ytkghoodhgihokaa.Msg
namespace Go.Proofs.Ytkghoodhgihokaa.Msg
open Go.RowKit Go.Lib Go.Proofs.YtkghoodhgihokaaW.PrintWords Go.Proofs.YtkghoodhgihokaaW.PrintLast Go.Proofs.YtkghoodhgihokaaW.PrintMore
set_option linter.unusedVariables false
set_option linter.unusedSimpArgs false
/-- A field of a request is put to nought. -/
def clrO (q : Rq) (o : Nat) : Rq :=
  if o = 1 then { q with mark := 0 } else if o = 2 then { q with path := ⟨#[]⟩ } else if o = 3 then { q with to_ := ⟨#[]⟩ } else if o = 4 then { q with how := 0 }
  else if o = 5 then { q with handle := 0 } else if o = 6 then { q with at_ := 0 } else if o = 7 then { q with count := 0 } else if o = 8 then { q with dA := none, data := [], dc := 0 } else q
def Pv.off : Pv → Nat
  | .num _ a _ => a.off
  | .text a _ => a.off
  | .data a _ _ _ => a.off
/-- Has a request nothing? -/
def bareB (q : Rq) : Bool := (q.mark == 0) && (q.path.toList.isEmpty && (q.to_.toList.isEmpty && ((q.how == 0) && ((q.handle == 0) && ((q.at_ == 0) && ((q.count == 0) && (q.data.length == 0)))))))
/-- Has a request nothing but what its kind names? -/
def bareF (b : Nat) (q : Rq) : Bool := bareB (((begunV b q ++ partsV b q).map Pv.off).foldl clrO q)
theorem part_forms {b : Nat} {q : Rq} {p : Pv} (h : p ∈ begunV b q ++ partsV b q) : (∃ wd o n, p = .num wd ⟨b, o, none⟩ n ∧ (o = 0 ∨ o = 1 ∨ o = 4 ∨ o = 5 ∨ o = 6 ∨ o = 7)) ∨ (∃ o s, p = .text ⟨b, o, none⟩ s ∧ (o = 2 ∨ o = 3)) ∨ (∃ A l c, p = .data ⟨b, 8, none⟩ A l c) := by
  rcases List.mem_append.1 h with h | h
  · simp only [begunV, List.mem_cons, List.not_mem_nil, or_false] at h
    rcases h with rfl | rfl
    · exact .inl ⟨_, _, _, rfl, by omega⟩
    · exact .inl ⟨_, _, _, rfl, by omega⟩
  · unfold partsV at h
    repeat' split at h
    all_goals simp only [List.mem_cons, List.not_mem_nil, or_false] at h
    all_goals first
      | (rcases h with rfl | rfl | rfl)
      | (rcases h with rfl | rfl)
      | (subst h)
      | (cases h; done)
    all_goals first
      | exact .inl ⟨_, _, _, rfl, by omega⟩
      | exact .inr (.inl ⟨_, _, rfl, by omega⟩)
      | exact .inr (.inr ⟨_, _, _, rfl⟩)
theorem partsV_len (b : Nat) (q : Rq) : (partsV b q).length ≤ 3 := by
  unfold partsV
  repeat' split
  all_goals simp
theorem info78z : (Value.agg #[.int .i64 0, .pointer none, .pointer none, .pointer none]).cells.size = 4 := rfl
/-- What bare keeps: its own request, and the parts. -/
structure BR (w wx : World) (b1 : Nat) (q : Rq) (v : Value) (l : List Pv) : Prop where
  box : wx.heap[b1]? = some (.cells q.cells 29 (0, 0))
  row : kpv.R 78 wx w.heap.size (fun k => b1 < k) v l
  b : Below w.heap.size w wx
  le : w.heap.size ≤ b1
theorem BR.below {w wx w1 : World} {b1 : Nat} {q : Rq} {v : Value} {l : List Pv} (h : BR w wx b1 q v l) (hb : Below wx.heap.size wx w1) : BR w w1 b1 q v l :=
  ⟨(hb.block _ (blk_ltn h.box)).trans h.box, Kd.R_below h.row hb, h.b.trans (hb.mono h.b.size), h.le⟩
theorem BR.set {w wx : World} {b1 : Nat} {q : Rq} {v : Value} {l : List Pv} (h : BR w wx b1 q v l) (o : Nat) (u : Value) (hu : q.cells.setIfInBounds o u = (clrO q o).cells) : BR w (wx.setCell ⟨b1, o, none⟩ u) b1 (clrO q o) v l :=
  ⟨by rw [heap_setCell_same wx _ _ _ _ _ h.box, hu], Kd.R_far (p := ⟨b1, o, none⟩) h.row (fun k hk => by show k ≠ b1; omega) u, h.b.setCell (p := ⟨b1, o, none⟩) h.le u, h.le⟩
theorem BR.cell {w wx : World} {b1 : Nat} {q : Rq} {v : Value} {l : List Pv} (h : BR w wx b1 q v l) (o : Nat) (u : Value) (hu : q.cells[o]? = some u) : wx.cell? ⟨b1, o, none⟩ = some u := by
  rw [cell_of_row wx _ _ _ _ _ h.box]; exact hu
theorem BR.fz {w wx : World} {b1 : Nat} {q : Rq} {v : Value} {l : List Pv} (h : BR w wx b1 q v l) (o : Nat) : wx.frozen? ⟨b1, o, none⟩ = false := frozen_of_row wx _ _ _ _ h.box
theorem clr_kind (q : Rq) (o : Nat) : (clrO q o).kind = q.kind := by
  unfold clrO
  repeat' split
  all_goals rfl
theorem run_neq_other {P : Program} (w : World) {tp te : TypeId} {j : TypeInfo} {a b : Addr} {ca cb : Array Value} {ta tb : TypeId} (hp : P.underlying tp = some (.pointer te)) (hte : P.info? te = some j) (hsz : j.size ≠ 0)
    (hne : a ≠ b) (ha : w.heap[a.block]? = some (.cells ca ta (0, 0))) (hb : w.heap[b.block]? = some (.cells cb tb (0, 0))) :
    (binOp .neq tp (.pointer (some a)) (.pointer (some b))).run P w = .ok (.bool true) w := by
  have h : ∀ d : Nat, (Op.equalIn (d + 1) tp (.pointer (some a)) (.pointer (some b))).run P w = .ok false w := fun d => by
    simp [Op.equalIn, run_underlying hp, sizeOf, typeInfo, hte, hsz, run_sameAddr_other w hne ha hb]
  simp only [binOp]
  simp [Op.equal, Op.maxDepth, h 9999]
theorem neq_self (b : Nat) (w : World) : (binOp .neq 74 (.pointer (some ⟨b, 0, none⟩)) (.pointer (some ⟨b, 0, none⟩))).run Try.prog w = .ok (.bool false) w := by
  obtain ⟨i, hi, _⟩ := Option.map_eq_some_iff.1 (show (Try.prog.info? 3).map (·.size) = some 1 by kernel_rfl)
  exact run_neq_ptr_same w _ Try.underlying74 hi
theorem neq_far {b o : Nat} {w : World} {cs : Array Value} (h : w.heap[b]? = some (.cells cs 29 (0, 0))) (ho : o ≠ 0) : (binOp .neq 74 (.pointer (some ⟨b, o, none⟩)) (.pointer (some ⟨b, 0, none⟩))).run Try.prog w = .ok (.bool true) w := by
  obtain ⟨i, hi, hs⟩ := Option.map_eq_some_iff.1 (show (Try.prog.info? 3).map (·.size) = some 1 by kernel_rfl)
  exact run_neq_other w Try.underlying74 hi (by rw [hs]; decide) (by intro e; injection e with _ e2; exact ho e2) h h
set_option maxHeartbeats 8000000 in
set_option maxRecDepth 100000 in
theorem bare_calls (q : Rq) (w : World) (hdl : q.data.length ≤ 140737488351232) : Calls Try.prog 43 #[.agg q.cells] w fun e w' => e = .returned (.bool (bareF w.heap.size q)) ∧ Below w.heap.size w w' := by
  have hb0 : Below w.heap.size w (w.alloc (.cells q.cells 29)) := (Below.refl _ w).alloc (Nat.le_refl _) _
  have hq0 := heap_alloc_new w (.cells q.cells 29)
  have hk0 : (w.alloc (.cells q.cells 29)).cell? ⟨w.heap.size, 0, none⟩ = some (.int .i64 q.kind) := by rw [cell_of_row _ _ _ _ _ _ hq0]; rfl
  obtain ⟨W1, hW1⟩ : ∃ W, w.alloc (.cells q.cells 29) = W := ⟨_, rfl⟩
  obtain ⟨b1, hb1⟩ : ∃ b, w.heap.size = b := ⟨_, rfl⟩
  have hs1 : W1.heap.size = b1 + 1 := by rw [← hW1, ← hb1]; simp
  have hF : bareF w.heap.size q = bareB (((begunV b1 q ++ partsV b1 q).map Pv.off).foldl clrO q) := by rw [hb1]; rfl
  rw [hF]
  clear hF
  have hlen : (begunV b1 q ++ partsV b1 q).length ≤ 5 := by have := partsV_len b1 q; rw [List.length_append]; show 2 + _ ≤ 5; omega
  have HFM := Aside0.mk fun p (hp : p ∈ begunV b1 q ++ partsV b1 q) => part_forms hp
  obtain ⟨l, hl⟩ : ∃ l, begunV b1 q ++ partsV b1 q = l := ⟨_, rfl⟩
  rw [hl] at hlen HFM ⊢
  have HL := Aside0.mk hl
  clear hl
  obtain ⟨RES, hRES⟩ : ∃ r, bareB ((l.map Pv.off).foldl clrO q) = r := ⟨_, rfl⟩
  rw [hRES]
  have HRES := Aside0.mk hRES
  clear hRES
  have hW1' : w.alloc (.cells #[.int .i64 q.kind, .int .i64 q.mark, .string q.path, .string q.to_, .int .i64 q.how, .int .i64 q.handle, .int .i64 q.at_, .int .i64 q.count, .slice q.dA q.data.length q.dc] 29) = W1 := hW1
  rw [hW1] at hb0 hq0 hk0
  rw [hb1] at hq0 hk0
  have HB0 := Aside0.mk hb0
  have HQ0 := Aside0.mk hq0
  have HK0 := Aside0.mk hk0
  have HS1 := Aside0.mk hs1
  have HBE := Aside0.mk hb1
  clear hb0 hq0 hk0 hW1 hs1
  show Calls Try.prog 43 #[.agg #[.int .i64 q.kind, .int .i64 q.mark, .string q.path, .string q.to_, .int .i64 q.how, .int .i64 q.handle, .int .i64 q.at_, .int .i64 q.count, .slice q.dA q.data.length q.dc]] w _
  go_enter Try.func43, Try.ntmps43
  go_upto_region 1 with fail
  (try rw [hW1'])
  (try rw [hb1])
  clear hb1 hW1'
  go_wp2_with (first
    | (go_at_call 41; refine (begun_calls b1 q _).mono ?_; rintro e w2 ⟨v2, rfl, ho2, hb2⟩; have HO2 := Aside0.mk ho2; have HB2 := Aside0.mk hb2; clear ho2 hb2)
    | (go_at_call 42; refine (parts_calls b1 q _ ((HB2.out.cell (World.block_lt_of_cell? W1 _ HK0.out)).trans HK0.out)).mono ?_; rintro e w3 ⟨v3, rfl, ho3, hb3⟩; have HO3 := Aside0.mk (Kd.R_below HO2.out hb3); have HP3 := Aside0.mk (Kd.R_reads ho3); have HB3 := Aside0.mk (HB2.out.trans (hb3.mono HB2.out.size)); clear ho3 hb3; obtain ⟨A3, c3, hv3, hc3, hC3⟩ := HP3.out; subst hv3; have HC3 := Aside0.mk hC3; clear hC3 hc3 HP3)
    | ((with_reducible refine gate_builtin (b := .append) (xs := #[.tmp 5, .tmp 6]) rfl ?_); at_builtin; refine Kd.R_append_rows kpv (w0 := W1) W1.heap.size rfl (.tmp 5) (.tmp 6) 70 78 (.agg #[.int .i64 0, .pointer none, .pointer none, .pointer none]) 32 rfl Try.underlying70 info78 rfl (by decide) (by decide) v2 (begunV b1 q) (partsV b1 q) _ _ _ (fun _ => True) (fun _ => False) rfl rfl HO3.out HC3.out (fun _ _ h => h) (fun _ hk => hk.elim) (fun _ _ => trivial) HB3.out HB3.out.size (by have := partsV_len b1 q; show (2 + (partsV b1 q).length) * 32 ≤ _; omega) ?_; intro v4 w4 ho hb hg hat; rw [HL.out] at ho; obtain ⟨A4, c4, hv4⟩ := Kd.R_slice ho; subst hv4; have HO4b := Aside0.mk ho; have HB4 := Aside0.mk hb; clear ho hb hg hat))
  have hb1w : w.heap.size = b1 := HBE.out
  have HBR : Aside0 (BR w w4 b1 q (.slice A4 l.length c4) l) := ⟨⟨(HB4.out.block _ (blk_ltn HQ0.out)).trans HQ0.out, Kd.R_lower (Kd.R_mono (Kd.R_bound HO4b.out) (fun k hk => by have := hk.2.1; rw [HS1.out] at this; omega)) HB0.out.size, HB0.out.trans (HB4.out.mono HB0.out.size), by omega⟩⟩
  clear HO4b HB4 HO3 HB3 HC3 HO2 HB2 hb1w
  go_loopg [9] l.length (fun g s9 wx => ∃ (i : Nat), i + g = l.length ∧ s9 = .int .i64 (i : Int) ∧ Aside0 (BR w wx b1 (((l.take i).map Pv.off).foldl clrO q) (.slice A4 l.length c4) l))
  case atStart => exact ⟨0, by omega, rfl, HBR⟩
  case round =>
    obtain ⟨i, hig, rfl, HR⟩ := hrel
    have HIG := Aside0.mk hig
    cases gk with
    | zero =>
      obtain rfl : i = l.length := by omega
      have d1 : decide (((l.length : Nat) : Int) < ((l.length : Nat) : Int)) = false := decide_eq_false (by omega)
      have hR := HR.out
      rw [List.take_length] at hR
      obtain ⟨q2, hq2⟩ : ∃ q2, (l.map Pv.off).foldl clrO q = q2 := ⟨_, rfl⟩
      rw [hq2] at hR
      have hRE : bareB q2 = RES := by rw [← hq2]; exact HRES.out
      have HR2 := Aside0.mk hR
      have h1 := hR.cell 1 (.int .i64 q2.mark) rfl
      have h2 := hR.cell 2 (.string q2.path) rfl
      have h3 := hR.cell 3 (.string q2.to_) rfl
      have h4 := hR.cell 4 (.int .i64 q2.how) rfl
      have h5 := hR.cell 5 (.int .i64 q2.handle) rfl
      have h6 := hR.cell 6 (.int .i64 q2.at_) rfl
      have h7 := hR.cell 7 (.int .i64 q2.count) rfl
      have h8 := hR.cell 8 (.slice q2.dA q2.data.length q2.dc) rfl

      have HRE := Aside0.mk hRE
      clear hR HR hq2 hRE
      by_cases c0 : q2.mark = 0
      case neg =>
        have f0 : (q2.mark == 0) = false := beq_eq_false_iff_ne.2 c0
        have hR : false = RES := by rw [← HRE.out]; unfold bareB; simp [f0]
        subst hR
        go_wp2
        go_ret
        exact ⟨by first | rfl | (simp; done), HR2.out.b⟩
      have f0 : (q2.mark == 0) = true := beq_iff_eq.2 c0
      by_cases c1 : q2.path.toList = []
      case neg =>
        have f1 : q2.path.toList.isEmpty = false := by cases h : q2.path.toList with | nil => exact absurd h c1 | cons _ _ => rfl
        have hR : false = RES := by rw [← HRE.out]; unfold bareB; simp [f0, f1]
        subst hR
        go_wp2
        go_ret
        exact ⟨by first | rfl | (simp; done), HR2.out.b⟩
      have f1 : q2.path.toList.isEmpty = true := by rw [c1]; rfl
      by_cases c2 : q2.to_.toList = []
      case neg =>
        have f2 : q2.to_.toList.isEmpty = false := by cases h : q2.to_.toList with | nil => exact absurd h c2 | cons _ _ => rfl
        have hR : false = RES := by rw [← HRE.out]; unfold bareB; simp [f0, f1, f2]
        subst hR
        go_wp2
        go_ret
        exact ⟨by first | rfl | (simp; done), HR2.out.b⟩
      have f2 : q2.to_.toList.isEmpty = true := by rw [c2]; rfl
      by_cases c3 : q2.how = 0
      case neg =>
        have f3 : (q2.how == 0) = false := beq_eq_false_iff_ne.2 c3
        have hR : false = RES := by rw [← HRE.out]; unfold bareB; simp [f0, f1, f2, f3]
        subst hR
        go_wp2
        go_ret
        exact ⟨by first | rfl | (simp; done), HR2.out.b⟩
      have f3 : (q2.how == 0) = true := beq_iff_eq.2 c3
      by_cases c4 : q2.handle = 0
      case neg =>
        have f4 : (q2.handle == 0) = false := beq_eq_false_iff_ne.2 c4
        have hR : false = RES := by rw [← HRE.out]; unfold bareB; simp [f0, f1, f2, f3, f4]
        subst hR
        go_wp2
        go_ret
        exact ⟨by first | rfl | (simp; done), HR2.out.b⟩
      have f4 : (q2.handle == 0) = true := beq_iff_eq.2 c4
      by_cases c5 : q2.at_ = 0
      case neg =>
        have f5 : (q2.at_ == 0) = false := beq_eq_false_iff_ne.2 c5
        have hR : false = RES := by rw [← HRE.out]; unfold bareB; simp [f0, f1, f2, f3, f4, f5]
        subst hR
        go_wp2
        go_ret
        exact ⟨by first | rfl | (simp; done), HR2.out.b⟩
      have f5 : (q2.at_ == 0) = true := beq_iff_eq.2 c5
      by_cases c6 : q2.count = 0
      case neg =>
        have f6 : (q2.count == 0) = false := beq_eq_false_iff_ne.2 c6
        have hR : false = RES := by rw [← HRE.out]; unfold bareB; simp [f0, f1, f2, f3, f4, f5, f6]
        subst hR
        go_wp2
        go_ret
        exact ⟨by first | rfl | (simp; done), HR2.out.b⟩
      have f6 : (q2.count == 0) = true := beq_iff_eq.2 c6
      by_cases c7 : q2.data.length = 0
      case neg =>
        have f7 : ((q2.data.length : Int) == 0) = false := beq_eq_false_iff_ne.2 (by omega)
        have f7n : (q2.data.length == 0) = false := beq_eq_false_iff_ne.2 c7
        have hR : false = RES := by rw [← HRE.out]; unfold bareB; simp [f0, f1, f2, f3, f4, f5, f6, f7, f7n]
        subst hR
        go_wp2
        go_ret
        exact ⟨by first | rfl | (simp; done), HR2.out.b⟩
      have f7 : ((q2.data.length : Int) == 0) = true := beq_iff_eq.2 (by omega)
      have f7n : (q2.data.length == 0) = true := beq_iff_eq.2 c7
      have hR : true = RES := by rw [← HRE.out]; unfold bareB; simp [f0, f1, f2, f3, f4, f5, f6, f7, f7n]
      subst hR
      go_wp2
      go_ret
      exact ⟨by first | rfl | (simp; done), HR2.out.b⟩
    | succ g =>
      have hi : i < l.length := by omega
      have d1 : decide ((i : Int) < ((l.length : Nat) : Int)) = true := decide_eq_true (by omega)
      have d1n : decide (i < l.length) = true := decide_eq_true hi
      have i0 : (0 : Int) ≤ (i : Int) := by omega
      have i1 : (i : Int) < (l.length : Int) := by omega
      obtain ⟨g0, cap, hv, _, _, _⟩ := Kd.R_form HR.out.row (by omega)
      injection hv with hv1 hv2 hv3
      subst hv1
      subst hv3
      have hrg := kpv_at HR.out.row hi
      have hfo := HFM.out _ (List.getElem_mem hi)
      have hst : ((l.take (i + 1)).map Pv.off).foldl clrO q = clrO (((l.take i).map Pv.off).foldl clrO q) (l[i]).off := by
        rw [List.take_succ_eq_append_getElem hi, List.map_append, List.foldl_append]; rfl
      obtain ⟨q1, hq1⟩ : ∃ q1, ((l.take i).map Pv.off).foldl clrO q = q1 := ⟨_, rfl⟩
      obtain ⟨p, hpp⟩ : ∃ p, l[i] = p := ⟨_, rfl⟩
      rw [hq1] at hst HR
      rw [hpp] at hrg hfo hst
      clear hpp hq1
      have HST := Aside0.mk hst
      clear hst
      rcases hfo with ⟨wd, o, z, rfl, rfl | rfl | rfl | rfl | rfl | rfl⟩ | ⟨o, z, rfl, rfl | rfl⟩ | ⟨A, z, c, rfl⟩
      · skip
        have hrg' : wr.rangeAt g0 (i * 4) [.int .i64 (wd : Int), .pointer (some ⟨b1, 0, none⟩), .pointer none, .pointer none] := hrg
        clear hrg
        have hptr := neq_self b1
        go_wp2_with (first | (refine wpList_load_mid rfl 78 (.tmp 11) rfl g0 (i * 4) ?hx78 _ _ hrg' Try.underlying78 rfl (by kernel_rfl) ?_))
        go_roundg g
        case measure => omega
        case rel => exact ⟨i + 1, by have := HIG.out; omega, by rfl, ⟨by rw [HST.out]; exact HR.out.below ((Below.refl _ _).alloc (Nat.le_refl _) _)⟩⟩
      · skip
        have hrg' : wr.rangeAt g0 (i * 4) [.int .i64 (wd : Int), .pointer (some ⟨b1, 1, none⟩), .pointer none, .pointer none] := hrg
        clear hrg
        have HR1 := Aside0.mk (HR.out.below ((Below.refl _ _).alloc (Nat.le_refl _) (.cells #[.int .i64 (wd : Int), .pointer (some ⟨b1, 1, none⟩), .pointer none, .pointer none] 78)))
        have hcx := HR1.out.cell 1 (.int .i64 q1.mark) rfl
        have hptr := neq_far HR1.out.box (show 1 ≠ 0 by decide)
        have hfx := HR1.out.fz 1
        go_wp2_with (first | (refine wpList_load_mid rfl 78 (.tmp 11) rfl g0 (i * 4) ?hx78 _ _ hrg' Try.underlying78 rfl (by kernel_rfl) ?_))
        go_roundg g
        case measure => omega
        case rel => exact ⟨i + 1, by have := HIG.out; omega, by rfl, ⟨by rw [HST.out]; exact HR1.out.set 1 _ rfl⟩⟩
      · skip
        have hrg' : wr.rangeAt g0 (i * 4) [.int .i64 (wd : Int), .pointer (some ⟨b1, 4, none⟩), .pointer none, .pointer none] := hrg
        clear hrg
        have HR1 := Aside0.mk (HR.out.below ((Below.refl _ _).alloc (Nat.le_refl _) (.cells #[.int .i64 (wd : Int), .pointer (some ⟨b1, 4, none⟩), .pointer none, .pointer none] 78)))
        have hcx := HR1.out.cell 4 (.int .i64 q1.how) rfl
        have hptr := neq_far HR1.out.box (show 4 ≠ 0 by decide)
        have hfx := HR1.out.fz 4
        go_wp2_with (first | (refine wpList_load_mid rfl 78 (.tmp 11) rfl g0 (i * 4) ?hx78 _ _ hrg' Try.underlying78 rfl (by kernel_rfl) ?_))
        go_roundg g
        case measure => omega
        case rel => exact ⟨i + 1, by have := HIG.out; omega, by rfl, ⟨by rw [HST.out]; exact HR1.out.set 4 _ rfl⟩⟩
      · skip
        have hrg' : wr.rangeAt g0 (i * 4) [.int .i64 (wd : Int), .pointer (some ⟨b1, 5, none⟩), .pointer none, .pointer none] := hrg
        clear hrg
        have HR1 := Aside0.mk (HR.out.below ((Below.refl _ _).alloc (Nat.le_refl _) (.cells #[.int .i64 (wd : Int), .pointer (some ⟨b1, 5, none⟩), .pointer none, .pointer none] 78)))
        have hcx := HR1.out.cell 5 (.int .i64 q1.handle) rfl
        have hptr := neq_far HR1.out.box (show 5 ≠ 0 by decide)
        have hfx := HR1.out.fz 5
        go_wp2_with (first | (refine wpList_load_mid rfl 78 (.tmp 11) rfl g0 (i * 4) ?hx78 _ _ hrg' Try.underlying78 rfl (by kernel_rfl) ?_))
        go_roundg g
        case measure => omega
        case rel => exact ⟨i + 1, by have := HIG.out; omega, by rfl, ⟨by rw [HST.out]; exact HR1.out.set 5 _ rfl⟩⟩
      · skip
        have hrg' : wr.rangeAt g0 (i * 4) [.int .i64 (wd : Int), .pointer (some ⟨b1, 6, none⟩), .pointer none, .pointer none] := hrg
        clear hrg
        have HR1 := Aside0.mk (HR.out.below ((Below.refl _ _).alloc (Nat.le_refl _) (.cells #[.int .i64 (wd : Int), .pointer (some ⟨b1, 6, none⟩), .pointer none, .pointer none] 78)))
        have hcx := HR1.out.cell 6 (.int .i64 q1.at_) rfl
        have hptr := neq_far HR1.out.box (show 6 ≠ 0 by decide)
        have hfx := HR1.out.fz 6
        go_wp2_with (first | (refine wpList_load_mid rfl 78 (.tmp 11) rfl g0 (i * 4) ?hx78 _ _ hrg' Try.underlying78 rfl (by kernel_rfl) ?_))
        go_roundg g
        case measure => omega
        case rel => exact ⟨i + 1, by have := HIG.out; omega, by rfl, ⟨by rw [HST.out]; exact HR1.out.set 6 _ rfl⟩⟩
      · skip
        have hrg' : wr.rangeAt g0 (i * 4) [.int .i64 (wd : Int), .pointer (some ⟨b1, 7, none⟩), .pointer none, .pointer none] := hrg
        clear hrg
        have HR1 := Aside0.mk (HR.out.below ((Below.refl _ _).alloc (Nat.le_refl _) (.cells #[.int .i64 (wd : Int), .pointer (some ⟨b1, 7, none⟩), .pointer none, .pointer none] 78)))
        have hcx := HR1.out.cell 7 (.int .i64 q1.count) rfl
        have hptr := neq_far HR1.out.box (show 7 ≠ 0 by decide)
        have hfx := HR1.out.fz 7
        go_wp2_with (first | (refine wpList_load_mid rfl 78 (.tmp 11) rfl g0 (i * 4) ?hx78 _ _ hrg' Try.underlying78 rfl (by kernel_rfl) ?_))
        go_roundg g
        case measure => omega
        case rel => exact ⟨i + 1, by have := HIG.out; omega, by rfl, ⟨by rw [HST.out]; exact HR1.out.set 7 _ rfl⟩⟩
      · skip
        have hrg' : wr.rangeAt g0 (i * 4) [.int .i64 0, .pointer none, .pointer (some ⟨b1, 2, none⟩), .pointer none] := hrg
        clear hrg
        have HR1 := Aside0.mk (HR.out.below ((Below.refl _ _).alloc (Nat.le_refl _) (.cells #[.int .i64 0, .pointer none, .pointer (some ⟨b1, 2, none⟩), .pointer none] 78)))
        have hcx := HR1.out.cell 2 (.string q1.path) rfl
        have hfx := HR1.out.fz 2
        go_wp2_with (first | (refine wpList_load_mid rfl 78 (.tmp 11) rfl g0 (i * 4) ?hx78 _ _ hrg' Try.underlying78 rfl (by kernel_rfl) ?_))
        go_roundg g
        case measure => omega
        case rel => exact ⟨i + 1, by have := HIG.out; omega, by rfl, ⟨by rw [HST.out]; exact HR1.out.set 2 _ rfl⟩⟩
      · skip
        have hrg' : wr.rangeAt g0 (i * 4) [.int .i64 0, .pointer none, .pointer (some ⟨b1, 3, none⟩), .pointer none] := hrg
        clear hrg
        have HR1 := Aside0.mk (HR.out.below ((Below.refl _ _).alloc (Nat.le_refl _) (.cells #[.int .i64 0, .pointer none, .pointer (some ⟨b1, 3, none⟩), .pointer none] 78)))
        have hcx := HR1.out.cell 3 (.string q1.to_) rfl
        have hfx := HR1.out.fz 3
        go_wp2_with (first | (refine wpList_load_mid rfl 78 (.tmp 11) rfl g0 (i * 4) ?hx78 _ _ hrg' Try.underlying78 rfl (by kernel_rfl) ?_))
        go_roundg g
        case measure => omega
        case rel => exact ⟨i + 1, by have := HIG.out; omega, by rfl, ⟨by rw [HST.out]; exact HR1.out.set 3 _ rfl⟩⟩
      · skip
        have hrg' : wr.rangeAt g0 (i * 4) [.int .i64 0, .pointer none, .pointer none, .pointer (some ⟨b1, 8, none⟩)] := hrg
        clear hrg
        have HR1 := Aside0.mk (HR.out.below ((Below.refl _ _).alloc (Nat.le_refl _) (.cells #[.int .i64 0, .pointer none, .pointer none, .pointer (some ⟨b1, 8, none⟩)] 78)))
        have hcx := HR1.out.cell 8 (.slice q1.dA q1.data.length q1.dc) rfl
        have hfx := HR1.out.fz 8
        go_wp2_with (first | (refine wpList_load_mid rfl 78 (.tmp 11) rfl g0 (i * 4) ?hx78 _ _ hrg' Try.underlying78 rfl (by kernel_rfl) ?_))
        go_roundg g
        case measure => omega
        case rel => exact ⟨i + 1, by have := HIG.out; omega, by rfl, ⟨by rw [HST.out]; exact HR1.out.set 8 _ rfl⟩⟩
end Go.Proofs.Ytkghoodhgihokaa.Msg
