/- The contracts of the functions that the law SegDecodes reaches: Go's code comes to what these Lean functions tell (written by a program of ours and the kit's, out of the translation). -/
import Derived.Test.YtjhmjgcebijmiaaHSegDecodesx0
import Derived.Test.YtjhmjgcebijmiaaHSegDecodesx5
namespace Go.Proofs.Ytjhmjgcebijmiaa.HSegDecodes
open Go.RowKit Go.Proofs.YtjhmjgcebijmiaaW.PrintWords Go.Proofs.YtjhmjgcebijmiaaW.PrintLast Go.Proofs.YtjhmjgcebijmiaaW.PrintMore
attribute [local go_sem] max2_int min2_int max_two min_two max_three min_three max_four min_four   -- for this text's walks alone
set_option linter.unusedVariables false
set_option linter.unusedSimpArgs false

/-! ### packthreadref_InetFold: function 60 -/
def packthreadref_InetFold.l0 : Nat → List Int → Int → Int → Option (Int)
  | 0, _, _, _ => none
  | k + 1, x0, x3, x4 => if x4 < (x0.length : Int) then (if 0 ≤ x4 then (if (wrap64 (x4 + 1)) < (x0.length : Int) then (if 0 ≤ (wrap64 (x4 + 1)) then (if (wrap64 (x3 + (wrap64 ((wrap64 (256 * (wrap64 (rd x0 x4)))) + (wrap64 (rd x0 (wrap64 (x4 + 1)))))))) > 65535 then (packthreadref_InetFold.l0 k x0 (wrap64 ((wrap64 (x3 + (wrap64 ((wrap64 (256 * (wrap64 (rd x0 x4)))) + (wrap64 (rd x0 (wrap64 (x4 + 1)))))))) - 65535)) (wrap64 (x4 + 2))) else (packthreadref_InetFold.l0 k x0 (wrap64 (x3 + (wrap64 ((wrap64 (256 * (wrap64 (rd x0 x4)))) + (wrap64 (rd x0 (wrap64 (x4 + 1)))))))) (wrap64 (x4 + 2)))) else (none)) else (if (wrap64 (x3 + (wrap64 (256 * (wrap64 (rd x0 x4)))))) > 65535 then (packthreadref_InetFold.l0 k x0 (wrap64 ((wrap64 (x3 + (wrap64 (256 * (wrap64 (rd x0 x4)))))) - 65535)) (wrap64 (x4 + 2))) else (packthreadref_InetFold.l0 k x0 (wrap64 (x3 + (wrap64 (256 * (wrap64 (rd x0 x4)))))) (wrap64 (x4 + 2))))) else (none)) else (some x3)
def packthreadref_InetFold.f (k : Nat) (l0 : List Int) : Option (Int) := packthreadref_InetFold.l0 k l0 0 0
theorem packthreadref_InetFold.mono_l : ∀ k, (∀ y0 y1 y2, LeO (packthreadref_InetFold.l0 k y0 y1 y2) (packthreadref_InetFold.l0 (k + 1) y0 y1 y2))
  | 0 => fun _ _ _ r h => by simp [packthreadref_InetFold.l0] at h
  | k + 1 => by
    have ih0 := packthreadref_InetFold.mono_l k
    · intro y0 y1 y2
      unfold packthreadref_InetFold.l0
      repeat' first
      | (with_reducible exact ih0 _ _ _)
      | (with_reducible exact LeO.refl _)
      | (with_reducible exact LeO.none _)
      | (with_reducible refine LeO.ite ?_ ?_)
      | (with_reducible refine LeO.bind ?_ (fun _ => ?_))
      | exact ih0 _ _ _
      | exact LeO.none _
      | refine LeO.ite ?_ ?_
      | refine LeO.bind ?_ (fun _ => ?_)
theorem packthreadref_InetFold.mono : ∀ a0 k, LeO (packthreadref_InetFold.f k a0) (packthreadref_InetFold.f (k + 1) a0) := by
  intro a0 k
  have ih0 := packthreadref_InetFold.mono_l k
  unfold packthreadref_InetFold.f
  repeat' first
      | (with_reducible exact ih0 _ _ _)
      | (with_reducible exact LeO.refl _)
      | (with_reducible exact LeO.none _)
      | (with_reducible refine LeO.ite ?_ ?_)
      | (with_reducible refine LeO.bind ?_ (fun _ => ?_))
      | exact ih0 _ _ _
      | exact LeO.none _
      | refine LeO.ite ?_ ?_
      | refine LeO.bind ?_ (fun _ => ?_)
set_option maxHeartbeats 8000000 in
set_option maxRecDepth 100000 in
theorem packthreadref_InetFold.calls (k : Nat) (A0 : Option Addr) (c0 : Nat) (l0 : List Int) (r : Int) (w : World) (hr0 : Kd.C (Kd.int .u8) w A0 l0.length l0) (hc0 : l0.length ≤ c0) (h : packthreadref_InetFold.f k l0 = some r) :
    Calls Try.prog 60 #[.slice A0 l0.length c0] w fun e w' => e = .returned (.int .i64 r) ∧ Drawn0 w w' := by
  have HR0 := Aside0.mk hr0
  have HC0 := Aside0.mk hc0
  clear hr0 hc0
  have H : (packthreadref_InetFold.l0 k l0 0 0) = some r := h
  clear h
  have H' := Aside0.mk H
  clear H
  go_enter Try.func60, Try.ntmps60
  go_wp2
  go_loopg [3, 4] k (fun kq v3 v4 w' => ∃ (x3_1 : Int) (x4_1 : Int), v3 = .int .i64 x3_1 ∧ v4 = .int .i64 x4_1 ∧ Aside0 (packthreadref_InetFold.l0 kq l0 x3_1 x4_1 = some r) ∧ Aside0 (kq ≤ k) ∧ Drawn0 w w')
  case atStart => exact ⟨(0), (0), (by first | rfl | (simp; done) | (simp [*]; done)), (by first | rfl | (simp; done) | (simp [*]; done)), H', ⟨Nat.le_refl _⟩, by repeat (first | exact Drawn0.refl _ | apply Drawn0.step)⟩
  case round =>
    clear H'
    obtain ⟨x3_1, x4_1, rfl, rfl, HA, HK1, ⟨m1, rfl⟩⟩ := hrel
    cases gk with
    | zero => exact absurd HA.out (by simp [packthreadref_InetFold.l0])
    | succ k1 =>
      have H := HA.out
      clear HA
      simp only [packthreadref_InetFold.l0] at H
      by_cases c2 : x4_1 < (l0.length : Int)
      · rw [if_pos c2] at H
        have c2b0 : decide (x4_1 < (l0.length : Int)) = true := decide_eq_true c2
        clear c2
        by_cases c3 : 0 ≤ x4_1
        · rw [if_pos c3] at H
          have c3b0 : decide (0 ≤ x4_1) = true := decide_eq_true c3
          clear c3
          by_cases c4 : (wrap64 (x4_1 + 1)) < (l0.length : Int)
          · rw [if_pos c4] at H
            have c4b0 : decide ((wrap64 (x4_1 + 1)) < (l0.length : Int)) = true := decide_eq_true c4
            clear c4
            obtain ⟨ji5, hji5⟩ : ∃ j_ : Int, (wrap64 (x4_1 + 1)) = j_ := ⟨_, rfl⟩
            replace H : (if 0 ≤ (ji5) then (if (wrap64 (x3_1 + (wrap64 ((wrap64 (256 * (wrap64 (rd l0 x4_1)))) + (wrap64 (rd l0 (ji5))))))) > 65535 then (packthreadref_InetFold.l0 k1 l0 (wrap64 ((wrap64 (x3_1 + (wrap64 ((wrap64 (256 * (wrap64 (rd l0 x4_1)))) + (wrap64 (rd l0 (ji5))))))) - 65535)) (wrap64 (x4_1 + 2))) else (packthreadref_InetFold.l0 k1 l0 (wrap64 (x3_1 + (wrap64 ((wrap64 (256 * (wrap64 (rd l0 x4_1)))) + (wrap64 (rd l0 (ji5))))))) (wrap64 (x4_1 + 2)))) else (none)) = some r := by first | (rw [hji5] at H; exact H) | (simp only [hji5] at H ⊢; exact H)
            (try rw [hji5] at c4b0)
            have hji5w : (IntKind.i64.wrap (x4_1 + 1)) = ji5 := (i64_w _).trans hji5
            by_cases c6 : 0 ≤ (ji5)
            · rw [if_pos c6] at H
              have c6b0 : decide (0 ≤ (ji5)) = true := decide_eq_true c6
              clear c6
              by_cases c7 : (wrap64 (x3_1 + (wrap64 ((wrap64 (256 * (wrap64 (rd l0 x4_1)))) + (wrap64 (rd l0 (ji5))))))) > 65535
              · rw [if_pos c7] at H
                have c7b0 : decide (65535 < (wrap64 (x3_1 + (wrap64 ((wrap64 (256 * (wrap64 (rd l0 x4_1)))) + (wrap64 (rd l0 (ji5)))))))) = true := decide_eq_true c7
                clear c7
                have H' := Aside0.mk H
                clear H
                have p111 : 0 ≤ (x4_1 : Int) := of_decide_eq_true (by first | (with_reducible assumption) | assumption)
                have q111 : x4_1 < (l0.length : Int) := of_decide_eq_true (by first | (with_reducible assumption) | assumption)
                obtain ⟨ad111, e111, hx111_0⟩ := Kd.at_int HR0.out x4_1 p111 q111
                cases e111
                replace p111 := eq_true p111
                replace q111 := eq_true q111
                have p112 : 0 ≤ ((ji5) : Int) := of_decide_eq_true (by first | (with_reducible assumption) | assumption)
                have q112 : (ji5) < (l0.length : Int) := of_decide_eq_true (by first | (with_reducible assumption) | assumption)
                obtain ⟨ad112, e112, hx112_0⟩ := Kd.at_int HR0.out (ji5) p112 q112
                obtain rfl : ad111 = ad112 := (by injection e112)
                replace p112 := eq_true p112
                replace q112 := eq_true q112
                go_wp2
                go_roundg k1
                case measure => have := HK1.out; omega
                case rel => exact ⟨(wrap64 ((wrap64 (x3_1 + (wrap64 ((wrap64 (256 * (wrap64 (rd l0 x4_1)))) + (wrap64 (rd l0 (ji5))))))) - 65535)), (wrap64 (x4_1 + 2)), (by first | rfl | (simp; done) | (simp only [← hji5] <;> (first | rfl | simp)) | (simp [*]; done)), (by first | rfl | (simp; done) | (simp [*]; done)), H', ⟨by have := HK1.out; omega⟩, by repeat (first | exact Drawn0.refl _ | apply Drawn0.step)⟩
              · rw [if_neg c7] at H
                have c7b0 : decide (65535 < (wrap64 (x3_1 + (wrap64 ((wrap64 (256 * (wrap64 (rd l0 x4_1)))) + (wrap64 (rd l0 (ji5)))))))) = false := decide_eq_false c7
                clear c7
                have H' := Aside0.mk H
                clear H
                have p111 : 0 ≤ (x4_1 : Int) := of_decide_eq_true (by first | (with_reducible assumption) | assumption)
                have q111 : x4_1 < (l0.length : Int) := of_decide_eq_true (by first | (with_reducible assumption) | assumption)
                obtain ⟨ad111, e111, hx111_0⟩ := Kd.at_int HR0.out x4_1 p111 q111
                cases e111
                replace p111 := eq_true p111
                replace q111 := eq_true q111
                have p112 : 0 ≤ ((ji5) : Int) := of_decide_eq_true (by first | (with_reducible assumption) | assumption)
                have q112 : (ji5) < (l0.length : Int) := of_decide_eq_true (by first | (with_reducible assumption) | assumption)
                obtain ⟨ad112, e112, hx112_0⟩ := Kd.at_int HR0.out (ji5) p112 q112
                obtain rfl : ad111 = ad112 := (by injection e112)
                replace p112 := eq_true p112
                replace q112 := eq_true q112
                go_wp2
                go_roundg k1
                case measure => have := HK1.out; omega
                case rel => exact ⟨(wrap64 (x3_1 + (wrap64 ((wrap64 (256 * (wrap64 (rd l0 x4_1)))) + (wrap64 (rd l0 (ji5))))))), (wrap64 (x4_1 + 2)), (by first | rfl | (simp; done) | (simp only [← hji5] <;> (first | rfl | simp)) | (simp [*]; done)), (by first | rfl | (simp; done) | (simp [*]; done)), H', ⟨by have := HK1.out; omega⟩, by repeat (first | exact Drawn0.refl _ | apply Drawn0.step)⟩
            · rw [if_neg c6] at H
              exact absurd H (by simp)
          · rw [if_neg c4] at H
            have c4b0 : decide ((wrap64 (x4_1 + 1)) < (l0.length : Int)) = false := decide_eq_false c4
            clear c4
            by_cases c8 : (wrap64 (x3_1 + (wrap64 (256 * (wrap64 (rd l0 x4_1)))))) > 65535
            · rw [if_pos c8] at H
              have c8b0 : decide (65535 < (wrap64 (x3_1 + (wrap64 (256 * (wrap64 (rd l0 x4_1))))))) = true := decide_eq_true c8
              clear c8
              have H' := Aside0.mk H
              clear H
              have p111 : 0 ≤ (x4_1 : Int) := of_decide_eq_true (by first | (with_reducible assumption) | assumption)
              have q111 : x4_1 < (l0.length : Int) := of_decide_eq_true (by first | (with_reducible assumption) | assumption)
              obtain ⟨ad111, e111, hx111_0⟩ := Kd.at_int HR0.out x4_1 p111 q111
              cases e111
              replace p111 := eq_true p111
              replace q111 := eq_true q111
              go_wp2
              go_roundg k1
              case measure => have := HK1.out; omega
              case rel => exact ⟨(wrap64 ((wrap64 (x3_1 + (wrap64 (256 * (wrap64 (rd l0 x4_1)))))) - 65535)), (wrap64 (x4_1 + 2)), (by first | rfl | (simp; done) | (simp [*]; done)), (by first | rfl | (simp; done) | (simp [*]; done)), H', ⟨by have := HK1.out; omega⟩, by repeat (first | exact Drawn0.refl _ | apply Drawn0.step)⟩
            · rw [if_neg c8] at H
              have c8b0 : decide (65535 < (wrap64 (x3_1 + (wrap64 (256 * (wrap64 (rd l0 x4_1))))))) = false := decide_eq_false c8
              clear c8
              have H' := Aside0.mk H
              clear H
              have p111 : 0 ≤ (x4_1 : Int) := of_decide_eq_true (by first | (with_reducible assumption) | assumption)
              have q111 : x4_1 < (l0.length : Int) := of_decide_eq_true (by first | (with_reducible assumption) | assumption)
              obtain ⟨ad111, e111, hx111_0⟩ := Kd.at_int HR0.out x4_1 p111 q111
              cases e111
              replace p111 := eq_true p111
              replace q111 := eq_true q111
              go_wp2
              go_roundg k1
              case measure => have := HK1.out; omega
              case rel => exact ⟨(wrap64 (x3_1 + (wrap64 (256 * (wrap64 (rd l0 x4_1)))))), (wrap64 (x4_1 + 2)), (by first | rfl | (simp; done) | (simp [*]; done)), (by first | rfl | (simp; done) | (simp [*]; done)), H', ⟨by have := HK1.out; omega⟩, by repeat (first | exact Drawn0.refl _ | apply Drawn0.step)⟩
        · rw [if_neg c3] at H
          exact absurd H (by simp)
      · rw [if_neg c2] at H
        have c2b0 : decide (x4_1 < (l0.length : Int)) = false := decide_eq_false c2
        clear c2
        obtain rfl := Option.some.inj H
        go_wp2
        go_ret
        exact ⟨by first | rfl | (simp; done) | (simp [*]; done), by repeat (first | exact Drawn0.refl _ | apply Drawn0.step)⟩

/-! ### packthreadref_SegEncoded: function 27 -/
theorem blk_ltr {W : World} {g : Nat} {o : Obj} (h : W.heap[g]? = some o) : g < W.heap.size := (Array.getElem?_eq_some_iff.1 h).1
set_option maxHeartbeats 40000000 in
set_option maxRecDepth 100000 in
theorem put_calls (w0 w : World) (bb : Nat) (v : Value) (l : List Int) (n : Int) (P : Nat → Prop) (hn0 : 0 ≤ n) (hn1 : n < 65536) (hB : Below w0.heap.size w0 w) (hbb : w.heap[bb]? = some (.cells #[v] 30 (0, 0))) (hbw : w0.heap.size ≤ bb) (hP : ∀ k, w.heap.size ≤ k → P k) (hPb : ¬ P bb) (ho : Kd.R (Kd.int .u8) 5 w w0.heap.size P v l) (hl : l.length < 1000) :
    Calls Try.prog 59 #[.int .i64 n, .pointer (some ⟨bb, 0, none⟩)] w fun e w' => e = .returned (.tuple #[]) ∧ ∃ v' : Value, w'.heap[bb]? = some (.cells #[v'] 30 (0, 0)) ∧ Kd.R (Kd.int .u8) 5 w' w0.heap.size P v' (l ++ [n / 256, n % 256]) ∧ Below w0.heap.size w0 w' ∧ w.heap.size ≤ w'.heap.size ∧ ∀ k, k < w.heap.size → ¬ P k → k ≠ bb → w'.heap[k]? = w.heap[k]? := by
  have HB := Aside0.mk hB
  have HO := Aside0.mk ho
  have HBB := Aside0.mk hbb
  have hk : w.cell? ⟨bb, 0, none⟩ = some v := (blk_cell hbb 0).trans rfl
  clear hB ho hbb
  go_enter Try.func59, Try.ntmps59
  go_wp2_with (first
    | ((with_reducible refine gate_dst (N := 10) rfl ?_); refine Kd.R_lit (Kd.int .u8) _ 5 ?hg (N := 10) ?hd (xs := ([n / 256, n % 256] : List Int)) (inner := [.int .u8 (n / 256), .int .u8 (n % 256)]) (ok := fun _ => True) (okp := fun _ => True) ?hr ?hp (fun _ hk => hk) trivial (Below.refl _ _) (Nat.le_refl _) (by simp) ?_; (case hd => rfl); (case hg => rfl); (case hr => first | (go_simp; done) | (go_simp; rfl)); (case hp => exact (Reps.one (show Kd.M (Kd.int .u8) _ _ _ (n / 256) [.int .u8 (n / 256)] from rfl) (Reps.one (show Kd.M (Kd.int .u8) _ _ _ (n % 256) [.int .u8 (n % 256)] from rfl) (Reps.none _ _)))); intro v8 w8 ho8 hb8 hg_ hnew_; clear hg_ hnew_; have HBB8 := Aside0.mk (blk_below (g := bb) (o := .cells #[v] 30 (0, 0)) HBB.out hb8); have HK8 := Aside0.mk hb8; have HB8 := Aside0.mk (below_then HB.out HB.out.size hb8); have HO8 := Aside0.mk (Kd.R_below HO.out hb8); obtain ⟨Ao8, co8, eo8⟩ := Kd.R_slice ho8; subst eo8; have HL8 := Aside0.mk (Kd.R_reads' ho8).2.2; clear ho8 hb8)
    | ((with_reducible refine gate_builtin (b := .append) (xs := #[.tmp 3, .tmp 10]) rfl ?_); at_builtin; refine Kd.R_append_rows (Kd.int .u8) (w0 := w0) w0.heap.size rfl (.tmp 3) (.tmp 10) 30 5 (.int .u8 0) 1 rfl Try.underlying30 info5 rfl (by decide) (by omega) v l [n / 256, n % 256] _ _ _ P (fun _ => False) rfl rfl ?aO ?aR (fun _ _ h => h) (fun _ h => h.elim) ?aF ?aB ?aS ?aL ?_; (case aR => exact HL8.out); (case aO => exact HO8.out); (case aF => exact (fun k_ hk_ => hP k_ (Nat.le_trans HK8.out.size hk_))); (case aB => exact HB8.out); (case aS => exact HB8.out.size); (case aL => rw [show ([n / 256, n % 256] : List Int).length = 2 from rfl]; omega); intro v9 w9 ho hb hg hat; obtain ⟨Ao9, co9, eo9⟩ := Kd.R_slice ho; subst eo9; have hbb9 : w9.heap[bb]? = some (.cells #[v] 30 (0, 0)) := (hg.block _ (blk_ltr HBB8.out) (fun e_ => hPb (HO8.out.1 _ e_.symm))).trans HBB8.out; have hk9 : w9.cell? ⟨bb, 0, none⟩ = some v := (blk_cell hbb9 0).trans rfl; have hf9 := blk_frozen hbb9 0; have HBB9 := Aside0.mk hbb9; have HB9 := Aside0.mk hb; have HO9 := Aside0.mk ho; have HG9 := Aside0.mk hg; clear ho hb hg hat hbb9))
  first | go_end0 | ((try simp only [Exit.inBlock, Exit.then]); refine bodyPost_ret (results_none rfl _ _ _) rfl ?_)
  refine ⟨rfl, _, by simpa using blk_set HBB9.out 0 (.slice Ao9 (l ++ [n / 256, n % 256]).length co9), Kd.R_far HO9.out (fun k_ hk_ e_ => hPb (by have : k_ = bb := e_; rw [← this]; exact hk_)) _, below_set HB9.out hbw, ?_, ?_⟩
  · have h1 := HK8.out.size
    have h2 := HG9.out.size
    simpa [World.setCell] using Nat.le_trans h1 h2
  · intro k hk hnP hne
    rw [Below.heap_setCell _ _ _ _ (show k ≠ bb from hne), HG9.out.block k (Nat.lt_of_lt_of_le hk HK8.out.size) (fun e_ => hnP (HO8.out.1 _ e_.symm))]
    exact HK8.out.block k hk
def headR (a0 a1 a2 : Int) : List Int := [a0 / 256, a0 % 256] ++ [a1 / 256, a1 % 256] ++ [a2 / 256, a2 % 256]
def flagR (i : Int) (b : Bool) (f : Int) : Int := if b = true then f + i else f
def flagsR (a3 a4 a5 a6 : Bool) : Int := flagR 8 a6 (flagR 4 a5 (flagR 2 a4 (flagR 1 a3 0)))
def sacksR : List S54 → List Int
  | [] => []
  | r :: t => [r.f0 / 256, r.f0 % 256] ++ [r.f1 / 256, r.f1 % 256] ++ sacksR t
theorem sacksR_append (a b : List S54) : sacksR (a ++ b) = sacksR a ++ sacksR b := by
  induction a with
  | nil => rfl
  | cons x t ih => simp [sacksR, ih]
theorem sacksR_length (a : List S54) : (sacksR a).length = 4 * a.length := by
  induction a with
  | nil => rfl
  | cons x t ih => simp [sacksR, ih]; omega
def preR (a0 a1 a2 : Int) (a3 a4 a5 a6 : Bool) (n : Nat) : List Int := headR a0 a1 a2 ++ [flagsR a3 a4 a5 a6, (n : Int), 0, 0]
def refB (a0 a1 a2 : Int) (a3 a4 a5 a6 : Bool) (l7 : List S54) (l8 : List Int) : List Int := headR a0 a1 a2 ++ [flagsR a3 a4 a5 a6, (l7.length : Int), 0, 0] ++ sacksR l7 ++ l8
def okR (a0 a1 a2 : Int) (l7 : List S54) (l8 : List Int) : Prop := (0 ≤ a0 ∧ a0 < 65536) ∧ (0 ≤ a1 ∧ a1 < 65536) ∧ (0 ≤ a2 ∧ a2 < 65536) ∧ (∀ r ∈ l7, (0 ≤ r.f0 ∧ r.f0 < 65536) ∧ 0 ≤ r.f1 ∧ r.f1 < 65536) ∧ l7.length ≤ 3 ∧ l8.length ≤ 64
instance (a0 a1 a2 : Int) (l7 : List S54) (l8 : List Int) : Decidable (okR a0 a1 a2 l7 l8) := by unfold okR; infer_instance
def packthreadref_SegEncoded.f (k : Nat) (a0 a1 a2 : Int) (a3 a4 a5 a6 : Bool) (l7 : List S54) (l8 : List Int) : Option (List Int × Int) :=
  (packthreadref_segFault.f k a0 a1 a2 a3 a4 a5 a6 l7 l8).bind fun e =>
    if e = 0 then (if okR a0 a1 a2 l7 l8 then (packthreadref_InetFold.f k (refB a0 a1 a2 a3 a4 a5 a6 l7 l8)).bind fun s => (if 0 ≤ s ∧ s ≤ 65535 then some (((refB a0 a1 a2 a3 a4 a5 a6 l7 l8).set 8 ((65535 - s) / 256)).set 9 ((65535 - s) % 256), 0) else none) else none)
    else some ([], e)
set_option maxHeartbeats 40000000 in
set_option maxRecDepth 100000 in
theorem packthreadref_SegEncoded.calls (k : Nat) (a0 a1 a2 : Int) (a3 a4 a5 a6 : Bool) (A7 : Option Addr) (c7 : Nat) (l7 : List S54) (A8 : Option Addr) (c8 : Nat) (l8 : List Int) (r1 : List Int) (r2 : Int) (w : World) (hr7 : Kd.C k54 w A7 l7.length l7) (hc7 : l7.length ≤ c7) (hr8 : Kd.C (Kd.int .u8) w A8 l8.length l8) (hc8 : l8.length ≤ c8) (h : packthreadref_SegEncoded.f k a0 a1 a2 a3 a4 a5 a6 l7 l8 = some (r1, r2)) :
    Calls Try.prog 27 #[.agg #[.int .i64 a0, .int .i64 a1, .int .i64 a2, .bool a3, .bool a4, .bool a5, .bool a6, .slice A7 l7.length c7, .slice A8 l8.length c8]] w fun e w' => ∃ v0_ : Value, e = .returned (.tuple #[v0_, .int .i64 r2]) ∧ Kd.R (Kd.int .u8) 5 w' w.heap.size (fun _ => True) v0_ r1 ∧ Below w.heap.size w w' := by
  have HR7 := Aside0.mk hr7
  have HC7 := Aside0.mk hc7
  have HR8 := Aside0.mk hr8
  have HC8 := Aside0.mk hc8
  clear hr7 hc7 hr8 hc8
  unfold packthreadref_SegEncoded.f at h
  obtain ⟨e, he, h⟩ := Option.bind_eq_some_iff.1 h
  have HE := Aside0.mk he
  have HH := Aside0.mk h
  clear h he
  go_enter Try.func27, Try.ntmps27
  go_upto_region 1 with (fail)
  obtain ⟨W1, hW1⟩ : ∃ W, w.alloc (Obj.cells #[.int .i64 a0, .int .i64 a1, .int .i64 a2, .bool a3, .bool a4, .bool a5, .bool a6, .slice A7 l7.length c7, .slice A8 l8.length c8] 48) = W := ⟨_, rfl⟩
  rw [hW1]
  have hB1 : Below w.heap.size w W1 := by rw [← hW1]; exact below_alloc (Below.refl _ _) _
  have hc1 : W1.heap[w.heap.size]? = some (.cells #[.int .i64 a0, .int .i64 a1, .int .i64 a2, .bool a3, .bool a4, .bool a5, .bool a6, .slice A7 l7.length c7, .slice A8 l8.length c8] 48 (0, 0)) := by rw [← hW1]; exact heap_alloc_new w _
  clear hW1
  have hzW1_0 : W1.cell? ⟨w.heap.size, 0, none⟩ = some (.int .i64 a0) := (blk_cell hc1 0).trans rfl
  have hzW1_1 : W1.cell? ⟨w.heap.size, 1, none⟩ = some (.int .i64 a1) := (blk_cell hc1 1).trans rfl
  have hzW1_2 : W1.cell? ⟨w.heap.size, 2, none⟩ = some (.int .i64 a2) := (blk_cell hc1 2).trans rfl
  have hzW1_3 : W1.cell? ⟨w.heap.size, 3, none⟩ = some (.bool a3) := (blk_cell hc1 3).trans rfl
  have hzW1_4 : W1.cell? ⟨w.heap.size, 4, none⟩ = some (.bool a4) := (blk_cell hc1 4).trans rfl
  have hzW1_5 : W1.cell? ⟨w.heap.size, 5, none⟩ = some (.bool a5) := (blk_cell hc1 5).trans rfl
  have hzW1_6 : W1.cell? ⟨w.heap.size, 6, none⟩ = some (.bool a6) := (blk_cell hc1 6).trans rfl
  have hzW1_7 : W1.cell? ⟨w.heap.size, 7, none⟩ = some (.slice A7 l7.length c7) := (blk_cell hc1 7).trans rfl
  have hzW1_8 : W1.cell? ⟨w.heap.size, 8, none⟩ = some (.slice A8 l8.length c8) := (blk_cell hc1 8).trans rfl
  have HB1 := Aside0.mk hB1
  have HC1 := Aside0.mk hc1
  clear hB1 hc1
  by_cases hz : e = 0
  · have z_ : (e != 0) = false := bne_eq_false_iff_eq.2 hz
    have z2_ : (e == 0) = true := beq_iff_eq.2 hz
    have hHH := HH.out
    rw [if_pos hz] at hHH
    by_cases hok : okR a0 a1 a2 l7 l8
    case neg => rw [if_neg hok] at hHH; cases hHH
    rw [if_pos hok] at hHH
    obtain ⟨sum, hsum, hHH⟩ := Option.bind_eq_some_iff.1 hHH
    by_cases hsb : 0 ≤ sum ∧ sum ≤ 65535
    case neg => rw [if_neg hsb] at hHH; cases hHH
    rw [if_pos hsb] at hHH
    have HSM := Aside0.mk hsum
    simp only [Option.some.injEq, Prod.mk.injEq] at hHH
    obtain ⟨rfl, rfl⟩ := hHH
    unfold okR at hok
    obtain ⟨ho0, ho1, ho2, ho7, h73, h864⟩ := hok
    have HO7x := Aside0.mk ho7
    clear hsum hz ho7
    go_upto_region 4 with (first | ((with_reducible refine gate_callee (f := 58) rfl ?_); refine goesL_ (some 12) rfl rfl Try.func58 (by kernel_rfl) rfl #[.agg #[.int .i64 a0, .int .i64 a1, .int .i64 a2, .bool a3, .bool a4, .bool a5, .bool a6, .slice A7 l7.length c7, .slice A8 l8.length c8]] rfl (by (try simp only [List.map_toArray, List.map_cons, List.map_nil]); first | done | rfl) ?_; refine (packthreadref_segFault.calls k a0 a1 a2 a3 a4 a5 a6 A7 c7 l7 A8 c8 l8 e _ (Kd.C_below HR7.out HB1.out) HC7.out (Kd.C_below HR8.out HB1.out) HC8.out HE.out).mono ?_; rintro e' w2 ⟨rfl, hb2⟩; refine ⟨_, rfl, ?_⟩; have HB2 := Aside0.mk (below_step HB1.out hb2); have HC2 := Aside0.mk (blk_below (g := w.heap.size) (o := .cells #[.int .i64 a0, .int .i64 a1, .int .i64 a2, .bool a3, .bool a4, .bool a5, .bool a6, .slice A7 l7.length c7, .slice A8 l8.length c8] 48 (0, 0)) HC1.out hb2); clear hb2))
    go_upto_region 6 with (fail)
    obtain ⟨bb, hbb⟩ : ∃ x, w2.heap.size = x := ⟨_, rfl⟩
    rw [hbb]
    obtain ⟨w4, hW4⟩ : ∃ W, w2.alloc (Obj.cells #[Value.slice none 0 0] 30) = W := ⟨_, rfl⟩
    rw [hW4]
    have hbbw : w.heap.size ≤ bb := by rw [← hbb]; exact HB2.out.size
    have hgb : w.heap.size ≠ bb := by rw [← hbb]; have := blk_ltr HC2.out; omega
    have HV4 : Aside0 (w4.heap[bb]? = some (.cells #[.slice none 0 0] 30 (0, 0))) := ⟨by rw [← hW4, ← hbb]; exact heap_alloc_new w2 _⟩
    have HB4 : Aside0 (Below w.heap.size w w4) := ⟨by rw [← hW4]; exact below_alloc HB2.out _⟩
    have HC4 : Aside0 (w4.heap[w.heap.size]? = some (.cells #[.int .i64 a0, .int .i64 a1, .int .i64 a2, .bool a3, .bool a4, .bool a5, .bool a6, .slice A7 l7.length c7, .slice A8 l8.length c8] 48 (0, 0))) := ⟨by rw [← hW4]; exact blk_alloc HC2.out _⟩
    have HO4 : Aside0 (Kd.R (Kd.int .u8) 5 w4 w.heap.size (fun k_ => k_ ≠ w.heap.size ∧ k_ ≠ bb) (.slice none 0 0) []) := ⟨Kd.R_nil _ _ _ _ _⟩
    clear hW4 hbb
    have hzw4_0 : w4.cell? ⟨w.heap.size, 0, none⟩ = some (.int .i64 a0) := (blk_cell HC4.out 0).trans rfl
    go_upto_region 7 with (first | (go_at_call 59; refine (put_calls w _ bb _ [] a0 (fun k_ => k_ ≠ w.heap.size ∧ k_ ≠ bb) ho0.1 ho0.2 HB4.out HV4.out hbbw (fun k_ hk_ => ⟨by have := blk_ltr HC4.out; omega, by have := blk_ltr HV4.out; omega⟩) (fun h_ => h_.2 rfl) HO4.out (by simp)).mono ?_; rintro e' w5 ⟨rfl, v5, hv, ho, hb, hs, hk⟩; have HV5 := Aside0.mk hv; have HO5 := Aside0.mk ho; have HB5 := Aside0.mk hb; have HC5 : Aside0 (w5.heap[w.heap.size]? = some (.cells #[.int .i64 a0, .int .i64 a1, .int .i64 a2, .bool a3, .bool a4, .bool a5, .bool a6, .slice A7 l7.length c7, .slice A8 l8.length c8] 48 (0, 0))) := ⟨(hk _ (blk_ltr HC4.out) (fun h_ => h_.1 rfl) hgb).trans HC4.out⟩; clear hv ho hb hs hk))
    have hzw5_1 : w5.cell? ⟨w.heap.size, 1, none⟩ = some (.int .i64 a1) := (blk_cell HC5.out 1).trans rfl
    go_upto_region 8 with (first | (go_at_call 59; refine (put_calls w _ bb _ _ a1 (fun k_ => k_ ≠ w.heap.size ∧ k_ ≠ bb) ho1.1 ho1.2 HB5.out HV5.out hbbw (fun k_ hk_ => ⟨by have := blk_ltr HC5.out; omega, by have := blk_ltr HV5.out; omega⟩) (fun h_ => h_.2 rfl) HO5.out (by simp)).mono ?_; rintro e' w6 ⟨rfl, v6, hv, ho, hb, hs, hk⟩; have HV6 := Aside0.mk hv; have HO6 := Aside0.mk ho; have HB6 := Aside0.mk hb; have HC6 : Aside0 (w6.heap[w.heap.size]? = some (.cells #[.int .i64 a0, .int .i64 a1, .int .i64 a2, .bool a3, .bool a4, .bool a5, .bool a6, .slice A7 l7.length c7, .slice A8 l8.length c8] 48 (0, 0))) := ⟨(hk _ (blk_ltr HC5.out) (fun h_ => h_.1 rfl) hgb).trans HC5.out⟩; clear hv ho hb hs hk))
    have hzw6_2 : w6.cell? ⟨w.heap.size, 2, none⟩ = some (.int .i64 a2) := (blk_cell HC6.out 2).trans rfl
    go_upto_region 9 with (first | (go_at_call 59; refine (put_calls w _ bb _ _ a2 (fun k_ => k_ ≠ w.heap.size ∧ k_ ≠ bb) ho2.1 ho2.2 HB6.out HV6.out hbbw (fun k_ hk_ => ⟨by have := blk_ltr HC6.out; omega, by have := blk_ltr HV6.out; omega⟩) (fun h_ => h_.2 rfl) HO6.out (by simp)).mono ?_; rintro e' w7 ⟨rfl, v7, hv, ho, hb, hs, hk⟩; have HV7 := Aside0.mk hv; have HO7 := Aside0.mk ho; have HB7 := Aside0.mk hb; have HC7b : Aside0 (w7.heap[w.heap.size]? = some (.cells #[.int .i64 a0, .int .i64 a1, .int .i64 a2, .bool a3, .bool a4, .bool a5, .bool a6, .slice A7 l7.length c7, .slice A8 l8.length c8] 48 (0, 0))) := ⟨(hk _ (blk_ltr HC6.out) (fun h_ => h_.1 rfl) hgb).trans HC6.out⟩; clear hv ho hb hs hk))
    have hzw7_3 : w7.cell? ⟨w.heap.size, 3, none⟩ = some (.bool a3) := (blk_cell HC7b.out 3).trans rfl
    have hzw7_4 : w7.cell? ⟨w.heap.size, 4, none⟩ = some (.bool a4) := (blk_cell HC7b.out 4).trans rfl
    have hzw7_5 : w7.cell? ⟨w.heap.size, 5, none⟩ = some (.bool a5) := (blk_cell HC7b.out 5).trans rfl
    have hzw7_6 : w7.cell? ⟨w.heap.size, 6, none⟩ = some (.bool a6) := (blk_cell HC7b.out 6).trans rfl
    have hzw7_7 : w7.cell? ⟨w.heap.size, 7, none⟩ = some (.slice A7 l7.length c7) := (blk_cell HC7b.out 7).trans rfl
    have hzw7_8 : w7.cell? ⟨w.heap.size, 8, none⟩ = some (.slice A8 l8.length c8) := (blk_cell HC7b.out 8).trans rfl
    go_upto_if 30 with (fail)
    go_cut [7] (fun v7 wc => v7 = .int .i64 (flagR 1 a3 0) ∧ wc = w7)
    case first =>
      cases a3 with
      | true =>
        go_wp2
        go_meet
        case rel => exact ⟨rfl, rfl⟩
      | false =>
        go_wp2
        go_meet
        case rel => exact ⟨rfl, rfl⟩
    case rest =>
    obtain ⟨rfl, rfl⟩ := hcut
    obtain ⟨wA, hwA⟩ : ∃ x, x = wc := ⟨_, rfl⟩
    subst hwA
    have hfb : 0 ≤ flagR 1 a3 0 ∧ flagR 1 a3 0 ≤ 1 := by unfold flagR; split <;> (try split) <;> (try split) <;> omega
    go_upto_if 34 with (fail)
    go_cut [7] (fun v7 wc => v7 = .int .i64 (flagR 2 a4 (flagR 1 a3 0)) ∧ wc = wA)
    case first =>
      cases a4 with
      | true =>
        go_wp2
        go_meet
        case rel => exact ⟨rfl, rfl⟩
      | false =>
        go_wp2
        go_meet
        case rel => exact ⟨rfl, rfl⟩
    case rest =>
    obtain ⟨rfl, rfl⟩ := hcut
    clear hfb
    obtain ⟨wA, hwA⟩ : ∃ x, x = wc := ⟨_, rfl⟩
    subst hwA
    have hfb : 0 ≤ flagR 2 a4 (flagR 1 a3 0) ∧ flagR 2 a4 (flagR 1 a3 0) ≤ 3 := by unfold flagR; split <;> (try split) <;> (try split) <;> omega
    go_upto_if 38 with (fail)
    go_cut [7] (fun v7 wc => v7 = .int .i64 (flagR 4 a5 (flagR 2 a4 (flagR 1 a3 0))) ∧ wc = wA)
    case first =>
      cases a5 with
      | true =>
        go_wp2
        go_meet
        case rel => exact ⟨rfl, rfl⟩
      | false =>
        go_wp2
        go_meet
        case rel => exact ⟨rfl, rfl⟩
    case rest =>
    obtain ⟨rfl, rfl⟩ := hcut
    clear hfb
    obtain ⟨wA, hwA⟩ : ∃ x, x = wc := ⟨_, rfl⟩
    subst hwA
    have hfb : 0 ≤ flagR 4 a5 (flagR 2 a4 (flagR 1 a3 0)) ∧ flagR 4 a5 (flagR 2 a4 (flagR 1 a3 0)) ≤ 7 := by unfold flagR; split <;> (try split) <;> (try split) <;> omega
    go_upto_if 42 with (fail)
    go_cut [7] (fun v7 wc => v7 = .int .i64 (flagR 8 a6 (flagR 4 a5 (flagR 2 a4 (flagR 1 a3 0)))) ∧ wc = wA)
    case first =>
      cases a6 with
      | true =>
        go_wp2
        go_meet
        case rel => exact ⟨rfl, rfl⟩
      | false =>
        go_wp2
        go_meet
        case rel => exact ⟨rfl, rfl⟩
    case rest =>
    obtain ⟨rfl, rfl⟩ := hcut
    clear hfb
    obtain ⟨wA, hwA⟩ : ∃ x, x = wc := ⟨_, rfl⟩
    subst hwA
    rw [show flagR 8 a6 (flagR 4 a5 (flagR 2 a4 (flagR 1 a3 0))) = flagsR a3 a4 a5 a6 from rfl]
    have hfl : 0 ≤ flagsR a3 a4 a5 a6 ∧ flagsR a3 a4 a5 a6 ≤ 15 := by unfold flagsR flagR; cases a3 <;> cases a4 <;> cases a5 <;> cases a6 <;> decide
    have hfl0 := hfl.1
    have hfl1 := hfl.2
    have hn3 : (l7.length : Int) ≤ 3 := by omega
    have hkb : wA.cell? ⟨bb, 0, none⟩ = some v7 := (blk_cell HV7.out 0).trans rfl
    have HO7h : Aside0 (Kd.R (Kd.int .u8) 5 wA w.heap.size (fun k_ => k_ ≠ w.heap.size ∧ k_ ≠ bb) v7 (headR a0 a1 a2)) := HO7
    clear HO7
    have HO7 := HO7h
    clear HO7h
    go_upto_region 19 with (first | ((with_reducible refine gate_dst (N := 52) rfl ?_); refine Kd.R_lit (Kd.int .u8) _ 5 ?hg (N := 52) ?hd (xs := ([(flagsR a3 a4 a5 a6), (l7.length : Int), 0, 0] : List Int)) (inner := [.int .u8 (flagsR a3 a4 a5 a6), .int .u8 (l7.length : Int), .int .u8 0, .int .u8 0]) (ok := fun _ => True) (okp := fun _ => True) ?hr ?hp (fun _ hk => hk) trivial (Below.refl _ _) (Nat.le_refl _) (by simp) ?_; (case hd => rfl); (case hg => rfl); (case hr => first | (go_simp; done) | (go_simp; rfl)); (case hp => exact Reps.one (show Kd.M (Kd.int .u8) _ _ _ (flagsR a3 a4 a5 a6) [.int .u8 (flagsR a3 a4 a5 a6)] from rfl) (Reps.one (show Kd.M (Kd.int .u8) _ _ _ (l7.length : Int) [.int .u8 (l7.length : Int)] from rfl) (Reps.one (show Kd.M (Kd.int .u8) _ _ _ 0 [.int .u8 0] from rfl) (Reps.one (show Kd.M (Kd.int .u8) _ _ _ 0 [.int .u8 0] from rfl) (Reps.none _ _))))); intro v8 w8 ho8 hb8 hg_ hnew_; clear hg_ hnew_; have HV8 := Aside0.mk (blk_below (g := bb) (o := .cells #[v7] 30 (0, 0)) HV7.out hb8); have HC8b := Aside0.mk (blk_below (g := w.heap.size) (o := .cells #[.int .i64 a0, .int .i64 a1, .int .i64 a2, .bool a3, .bool a4, .bool a5, .bool a6, .slice A7 l7.length c7, .slice A8 l8.length c8] 48 (0, 0)) HC7b.out hb8); have HB8 := Aside0.mk (below_then HB7.out HB7.out.size hb8); have HO8 := Aside0.mk (Kd.R_below HO7.out hb8); obtain ⟨Ao8, co8, eo8⟩ := Kd.R_slice ho8; subst eo8; have HL8 := Aside0.mk (Kd.R_reads' ho8).2.2; clear ho8 hb8) | ((with_reducible refine gate_builtin (b := .append) (xs := #[.tmp 45, .tmp 52]) rfl ?_); at_builtin; refine Kd.R_append_rows (Kd.int .u8) (w0 := w) w.heap.size rfl (.tmp 45) (.tmp 52) 30 5 (.int .u8 0) 1 rfl Try.underlying30 info5 rfl (by decide) (by omega) v7 (headR a0 a1 a2) [(flagsR a3 a4 a5 a6), (l7.length : Int), 0, 0] _ _ _ (fun k_ => k_ ≠ w.heap.size ∧ k_ ≠ bb) (fun _ => False) rfl rfl ?aO ?aR (fun _ _ h => h) (fun _ h => h.elim) ?aF ?aB ?aS ?aL ?_; (case aR => exact HL8.out); (case aO => exact HO8.out); (case aF => exact (fun k_ hk_ => ⟨by have := blk_ltr HC8b.out; omega, by have := blk_ltr HV8.out; omega⟩)); (case aB => exact HB8.out); (case aS => exact HB8.out.size); (case aL => rw [show ([(flagsR a3 a4 a5 a6), (l7.length : Int), 0, 0] : List Int).length = 4 from rfl]; simp [headR]); intro v9 w9 ho hb hg hat; obtain ⟨Ao9, co9, eo9⟩ := Kd.R_slice ho; obtain ⟨ln9, hln9⟩ : ∃ x : Nat, ((headR a0 a1 a2) ++ [(flagsR a3 a4 a5 a6), (l7.length : Int), 0, 0]).length = x := ⟨_, rfl⟩; rw [hln9] at eo9; subst eo9; clear hln9; have hv : w9.heap[bb]? = some (.cells #[v7] 30 (0, 0)) := (hg.block _ (blk_ltr HV8.out) (fun e_ => (HO8.out.1 _ e_.symm).2 rfl)).trans HV8.out; have hkb9 : w9.cell? ⟨bb, 0, none⟩ = some v7 := (blk_cell hv 0).trans rfl; have hfb9 := blk_frozen hv 0; have HV9 := Aside0.mk hv; have HB9 := Aside0.mk hb; have HO9 := Aside0.mk ho; have HC9 : Aside0 (w9.heap[w.heap.size]? = some (.cells #[.int .i64 a0, .int .i64 a1, .int .i64 a2, .bool a3, .bool a4, .bool a5, .bool a6, .slice A7 l7.length c7, .slice A8 l8.length c8] 48 (0, 0))) := ⟨(hg.block _ (blk_ltr HC8b.out) (fun e_ => (HO8.out.1 _ e_.symm).1 rfl)).trans HC8b.out⟩; clear ho hb hg hat hv))
    obtain ⟨wB, hwB⟩ : ∃ W, w9.setCell ⟨bb, 0, none⟩ (.slice Ao9 ln9 co9) = W := ⟨_, rfl⟩
    rw [hwB]
    have HV10 : Aside0 (wB.heap[bb]? = some (.cells #[.slice Ao9 ln9 co9] 30 (0, 0))) := ⟨by rw [← hwB]; simpa using blk_set HV9.out 0 (.slice Ao9 ln9 co9)⟩
    have HO10 : Aside0 (Kd.R (Kd.int .u8) 5 wB w.heap.size (fun k_ => k_ ≠ w.heap.size ∧ k_ ≠ bb) (.slice Ao9 ln9 co9) (preR a0 a1 a2 a3 a4 a5 a6 l7.length)) := ⟨by rw [← hwB]; exact Kd.R_far HO9.out (fun k_ hk_ e_ => hk_.2 e_) _⟩
    have HB10 : Aside0 (Below w.heap.size w wB) := ⟨by rw [← hwB]; exact below_set HB9.out hbbw⟩
    have HC10 : Aside0 (wB.heap[w.heap.size]? = some (.cells #[.int .i64 a0, .int .i64 a1, .int .i64 a2, .bool a3, .bool a4, .bool a5, .bool a6, .slice A7 l7.length c7, .slice A8 l8.length c8] 48 (0, 0))) := ⟨by rw [← hwB, Below.heap_setCell _ _ _ _ (show w.heap.size ≠ bb from hgb)]; exact HC9.out⟩
    clear hwB
    have hzwB_7 : wB.cell? ⟨w.heap.size, 7, none⟩ = some (.slice A7 l7.length c7) := (blk_cell HC10.out 7).trans rfl
    go_wp2
    go_loopw [57] (fun v57 wr => ∃ (j : Nat) (v : Value), v57 = .int .i64 (j : Int) ∧ Aside0 (j ≤ l7.length) ∧ Aside0 (wr.heap[bb]? = some (.cells #[v] 30 (0, 0))) ∧ Aside0 (Kd.R (Kd.int .u8) 5 wr w.heap.size (fun k_ => k_ ≠ w.heap.size ∧ k_ ≠ bb) v ((preR a0 a1 a2 a3 a4 a5 a6 l7.length) ++ sacksR (l7.take j))) ∧ Aside0 (Below w.heap.size w wr) ∧ Aside0 (wr.heap[w.heap.size]? = some (.cells #[.int .i64 a0, .int .i64 a1, .int .i64 a2, .bool a3, .bool a4, .bool a5, .bool a6, .slice A7 l7.length c7, .slice A8 l8.length c8] 48 (0, 0)))) (fun v57 _ => l7.length - (intOf v57).toNat)
    case atStart => exact ⟨0, _, rfl, ⟨Nat.zero_le _⟩, HV10, ⟨by rw [List.take_zero, show sacksR [] = [] from rfl, List.append_nil]; exact HO10.out⟩, HB10, HC10⟩
    case round =>
      obtain ⟨j, v, rfl, HJ, HVj, HOj, HBj, HCj⟩ := hrel
      by_cases hj : j < l7.length
      · have e1_ : decide ((j : Int) < (l7.length : Int)) = true := decide_eq_true (by omega)
        have p1 : (0 : Int) ≤ (j : Int) := by omega
        have q1 : (j : Int) < (l7.length : Int) := by omega
        obtain ⟨ad, rfl, hx0, hx1⟩ := at_T54 (Kd.C_below HR7.out HBj.out) (j : Int) p1 q1
        rw [Int.toNat_natCast] at hx0 hx1
        replace p1 := eq_true p1
        replace q1 := eq_true q1
        have hm : rd_T54 l7 (j : Int) = l7[j] := by unfold rd_T54; rw [Int.toNat_natCast, List.getD_eq_getElem?_getD, List.getElem?_eq_getElem hj]; rfl
        rw [hm] at hx0 hx1
        have hrng := HO7x.out l7[j] (List.getElem_mem hj)
        have hsk : ((preR a0 a1 a2 a3 a4 a5 a6 l7.length) ++ sacksR (l7.take j)) ++ [l7[j].f0 / 256, l7[j].f0 % 256] ++ [l7[j].f1 / 256, l7[j].f1 % 256] = (preR a0 a1 a2 a3 a4 a5 a6 l7.length) ++ sacksR (l7.take (j + 1)) := by
          rw [List.take_add_one, List.getElem?_eq_getElem hj, Option.toList_some, sacksR_append, List.append_assoc, List.append_assoc]
          rfl
        have hlen : ((preR a0 a1 a2 a3 a4 a5 a6 l7.length) ++ sacksR (l7.take j)).length < 100 := by
          rw [List.length_append, sacksR_length, List.length_take]
          simp [preR, headR]
          omega
        have HSK := Aside0.mk hsk
        have HLEN := Aside0.mk hlen
        clear hsk hlen hm
        go_upto_region 22 with (fail)
        obtain ⟨W2, hW2⟩ : ∃ W, wr.alloc (Obj.cells #[Value.int .i64 l7[j].f0, Value.int .i64 l7[j].f1] 54) = W := ⟨_, rfl⟩
        rw [hW2]
        have hb2 : Below wr.heap.size wr W2 := by rw [← hW2]; exact below_alloc (Below.refl _ _) _
        have hct : W2.heap[wr.heap.size]? = some (.cells #[Value.int .i64 l7[j].f0, Value.int .i64 l7[j].f1] 54 (0, 0)) := by rw [← hW2]; exact heap_alloc_new wr _
        clear hW2
        have ht0 : W2.cell? ⟨wr.heap.size, 0, none⟩ = some (.int .i64 l7[j].f0) := (blk_cell hct 0).trans rfl
        have HT11 := Aside0.mk hct
        have HC11 := Aside0.mk (blk_below (g := w.heap.size) (o := .cells #[.int .i64 a0, .int .i64 a1, .int .i64 a2, .bool a3, .bool a4, .bool a5, .bool a6, .slice (some ad) l7.length c7, .slice A8 l8.length c8] 48 (0, 0)) HCj.out hb2)
        have HV11 := Aside0.mk (blk_below (g := bb) (o := .cells #[v] 30 (0, 0)) HVj.out hb2)
        have HB11 := Aside0.mk (below_then HBj.out HBj.out.size hb2)
        have HO11 := Aside0.mk (Kd.R_below (Kd.R_mono (ok' := fun k_ => k_ ≠ w.heap.size ∧ k_ ≠ bb ∧ k_ ≠ wr.heap.size) (Kd.R_bound HOj.out) (fun k_ hk_ => ⟨hk_.1.1, hk_.1.2, by have := hk_.2.2.1; omega⟩)) hb2)
        have hne9 : wr.heap.size ≠ bb := by have := blk_ltr HVj.out; omega
        clear hct hb2
        go_upto_region 23 with (first | (go_at_call 59; refine (put_calls w _ bb _ _ l7[j].f0 (fun k_ => k_ ≠ w.heap.size ∧ k_ ≠ bb ∧ k_ ≠ wr.heap.size) hrng.1.1 hrng.1.2 HB11.out HV11.out hbbw (fun k_ hk_ => ⟨by have := blk_ltr HC11.out; omega, by have := blk_ltr HV11.out; omega, by have := blk_ltr HT11.out; omega⟩) (fun h_ => h_.2.1 rfl) HO11.out (by have := HLEN.out; omega)).mono ?_; rintro e' w12 ⟨rfl, v12, hv, ho, hb, hs, hk⟩; have HV12 := Aside0.mk hv; have HO12 := Aside0.mk ho; have HB12 := Aside0.mk hb; have HC12 : Aside0 (w12.heap[w.heap.size]? = some (.cells #[.int .i64 a0, .int .i64 a1, .int .i64 a2, .bool a3, .bool a4, .bool a5, .bool a6, .slice (some ad) l7.length c7, .slice A8 l8.length c8] 48 (0, 0))) := ⟨(hk _ (blk_ltr HC11.out) (fun h_ => h_.1 rfl) hgb).trans HC11.out⟩; have HT12 : Aside0 (w12.heap[wr.heap.size]? = some (.cells #[Value.int .i64 l7[j].f0, Value.int .i64 l7[j].f1] 54 (0, 0))) := ⟨(hk _ (blk_ltr HT11.out) (fun h_ => h_.2.2 rfl) hne9).trans HT11.out⟩; clear hv ho hb hs hk))
        have ht1 : w12.cell? ⟨wr.heap.size, 1, none⟩ = some (.int .i64 l7[j].f1) := (blk_cell HT12.out 1).trans rfl
        go_wp2_with (first | (go_at_call 59; refine (put_calls w _ bb _ _ l7[j].f1 (fun k_ => k_ ≠ w.heap.size ∧ k_ ≠ bb ∧ k_ ≠ wr.heap.size) hrng.2.1 hrng.2.2 HB12.out HV12.out hbbw (fun k_ hk_ => ⟨by have := blk_ltr HC12.out; omega, by have := blk_ltr HV12.out; omega, by have := blk_ltr HT12.out; omega⟩) (fun h_ => h_.2.1 rfl) HO12.out (by have := HLEN.out; rw [List.length_append]; simp only [List.length_cons, List.length_nil]; omega)).mono ?_; rintro e' w13 ⟨rfl, v13, hv, ho, hb, hs, hk⟩; have HV13 := Aside0.mk hv; have HO13 := Aside0.mk ho; have HB13 := Aside0.mk hb; have HC13 : Aside0 (w13.heap[w.heap.size]? = some (.cells #[.int .i64 a0, .int .i64 a1, .int .i64 a2, .bool a3, .bool a4, .bool a5, .bool a6, .slice (some ad) l7.length c7, .slice A8 l8.length c8] 48 (0, 0))) := ⟨(hk _ (blk_ltr HC12.out) (fun h_ => h_.1 rfl) hgb).trans HC12.out⟩; have HT13 : Aside0 (w13.heap[wr.heap.size]? = some (.cells #[Value.int .i64 l7[j].f0, Value.int .i64 l7[j].f1] 54 (0, 0))) := ⟨(hk _ (blk_ltr HT12.out) (fun h_ => h_.2.2 rfl) hne9).trans HT12.out⟩; clear hv ho hb hs hk))
        go_roundw
        case measure => simp only [intOf]; omega
        case rel => exact ⟨j + 1, v13, rfl, ⟨by omega⟩, HV13, ⟨by rw [← HSK.out]; exact Kd.R_mono HO13.out (fun _ hk_ => ⟨hk_.1, hk_.2.1⟩)⟩, HB13, HC13⟩
      · have e1_ : decide ((j : Int) < (l7.length : Int)) = false := decide_eq_false (by omega)
        obtain rfl : j = l7.length := by have := HJ.out; omega
        have HO14 : Aside0 (Kd.R (Kd.int .u8) 5 wr w.heap.size (fun k_ => k_ ≠ w.heap.size ∧ k_ ≠ bb) v ((preR a0 a1 a2 a3 a4 a5 a6 l7.length) ++ sacksR l7)) := ⟨by have := HOj.out; rw [List.take_length] at this; exact this⟩
        have hkbj : wr.cell? ⟨bb, 0, none⟩ = some v := (blk_cell HVj.out 0).trans rfl
        have hzwr_8 : wr.cell? ⟨w.heap.size, 8, none⟩ = some (.slice A8 l8.length c8) := (blk_cell HCj.out 8).trans rfl
        have HV14 := HVj
        have HB14 := HBj
        have HC14 := HCj
        go_upto_region 26 with (first | ((with_reducible refine gate_builtin (b := .append) (xs := #[.tmp 70, .tmp 72]) rfl ?_); at_builtin; refine Kd.R_append_rows (Kd.int .u8) (w0 := w) w.heap.size rfl (.tmp 70) (.tmp 72) 30 5 (.int .u8 0) 1 rfl Try.underlying30 info5 rfl (by decide) (by omega) v ((preR a0 a1 a2 a3 a4 a5 a6 l7.length) ++ sacksR l7) l8 _ _ _ (fun k_ => k_ ≠ w.heap.size ∧ k_ ≠ bb) (fun _ => False) rfl rfl ?aO ?aR (fun _ _ h => h) (fun _ h => h.elim) ?aF ?aB ?aS ?aL ?_; (case aR => exact Kd.C_below HR8.out HBj.out); (case aO => exact HO14.out); (case aF => exact (fun k_ hk_ => ⟨by have := blk_ltr HC14.out; omega, by have := blk_ltr HV14.out; omega⟩)); (case aB => exact HB14.out); (case aS => exact HB14.out.size); (case aL => rw [List.length_append, sacksR_length]; simp [preR, headR]; omega); intro v15 w15 ho hb hg hat; obtain ⟨Ao15, co15, eo15⟩ := Kd.R_slice ho; obtain ⟨ln15, hln15⟩ : ∃ x : Nat, (((preR a0 a1 a2 a3 a4 a5 a6 l7.length) ++ sacksR l7) ++ l8).length = x := ⟨_, rfl⟩; rw [hln15] at eo15; subst eo15; clear hln15; have hv : w15.heap[bb]? = some (.cells #[v] 30 (0, 0)) := (hg.block _ (blk_ltr HV14.out) (fun e_ => (HO14.out.1 _ e_.symm).2 rfl)).trans HV14.out; have hkb15 : w15.cell? ⟨bb, 0, none⟩ = some v := (blk_cell hv 0).trans rfl; have hfb15 := blk_frozen hv 0; have HV15 := Aside0.mk hv; have HB15 := Aside0.mk hb; have HO15 := Aside0.mk ho; have HC15 : Aside0 (w15.heap[w.heap.size]? = some (.cells #[.int .i64 a0, .int .i64 a1, .int .i64 a2, .bool a3, .bool a4, .bool a5, .bool a6, .slice A7 l7.length c7, .slice A8 l8.length c8] 48 (0, 0))) := ⟨(hg.block _ (blk_ltr HC14.out) (fun e_ => (HO14.out.1 _ e_.symm).1 rfl)).trans HC14.out⟩; clear ho hb hg hat hv))
        obtain ⟨wC, hwC⟩ : ∃ W, w15.setCell ⟨bb, 0, none⟩ (.slice Ao15 ln15 co15) = W := ⟨_, rfl⟩
        rw [hwC]
        have hv16 : wC.heap[bb]? = some (.cells #[.slice Ao15 ln15 co15] 30 (0, 0)) := by rw [← hwC]; simpa using blk_set HV15.out 0 (.slice Ao15 ln15 co15)
        have HO16 : Aside0 (Kd.R (Kd.int .u8) 5 wC w.heap.size (fun k_ => k_ ≠ w.heap.size ∧ k_ ≠ bb) (.slice Ao15 ln15 co15) (refB a0 a1 a2 a3 a4 a5 a6 l7 l8)) := ⟨by rw [← hwC]; exact Kd.R_far HO15.out (fun k_ hk_ e_ => hk_.2 e_) _⟩
        have HB16 : Aside0 (Below w.heap.size w wC) := ⟨by rw [← hwC]; exact below_set HB15.out hbbw⟩
        clear hwC
        have hel : (refB a0 a1 a2 a3 a4 a5 a6 l7 l8).length = 10 + 4 * l7.length + l8.length := by
          unfold refB
          rw [List.length_append, List.length_append, sacksR_length]
          simp [headR]
        obtain ⟨g12, cap12, hv12, hgb2, hgl, cells12, hcl12⟩ := Kd.R_form HO16.out (by omega)
        injection hv12 with ha1 ha2 ha3
        subst ha1
        subst ha2
        subst ha3
        have HGB := Aside0.mk hgb2
        have HR12 := Aside0.mk (Kd.R_reads' HO16.out)
        have hgne : g12 ≠ bb := (HO16.out.1 g12 rfl).2
        obtain ⟨_, ea8, hx8⟩ := Kd.at_int HR12.out.2.2 8 (by decide) (by omega)
        cases ea8
        obtain ⟨_, ea9, hx9⟩ := Kd.at_int HR12.out.2.2 9 (by decide) (by omega)
        cases ea9
        rw [add_plain] at hx8 hx9
        have hx8 : wC.cell? ⟨g12, 8, none⟩ = some (.int .u8 (rd (refB a0 a1 a2 a3 a4 a5 a6 l7 l8) 8)) := hx8
        have hx9 : wC.cell? ⟨g12, 9, none⟩ = some (.int .u8 (rd (refB a0 a1 a2 a3 a4 a5 a6 l7 l8) 9)) := hx9
        have hf8 := blk_frozen hcl12 8
        have hf9 := blk_frozen hcl12 9
        have q8 : ((8 : Int) < ((refB a0 a1 a2 a3 a4 a5 a6 l7 l8).length : Int)) = True := eq_true (by omega)
        have q9 : ((9 : Int) < ((refB a0 a1 a2 a3 a4 a5 a6 l7 l8).length : Int)) = True := eq_true (by omega)
        have q8n : (8 < (refB a0 a1 a2 a3 a4 a5 a6 l7 l8).length) = True := eq_true (by omega)
        have q9n : (9 < (refB a0 a1 a2 a3 a4 a5 a6 l7 l8).length) = True := eq_true (by omega)
        have hkb16 : wC.cell? ⟨bb, 0, none⟩ = some (.slice (some ⟨g12, 0, none⟩) (refB a0 a1 a2 a3 a4 a5 a6 l7 l8).length co15) := (blk_cell hv16 0).trans rfl
        have hs0 := hsb.1
        have hs1 := hsb.2
        clear hgb2 hgl hcl12 hel hsb
        generalize hE : (refB a0 a1 a2 a3 a4 a5 a6 l7 l8) = enc at HO16 HR12 HSM hx8 hx9 q8 q9 q8n q9n hkb16 hv16 ⊢
        go_upto_region 28 with (first | ((with_reducible refine gate_callee (f := 60) rfl ?_); refine goesL_ (some 75) rfl rfl Try.func60 (by kernel_rfl) rfl #[.slice (some ⟨g12, 0, none⟩) enc.length co15] rfl (by (try simp only [List.map_toArray, List.map_cons, List.map_nil]); first | done | rfl) ?_; refine (packthreadref_InetFold.calls k _ _ enc sum _ HR12.out.2.2 HR12.out.2.1 HSM.out).mono ?_; rintro e' w17 ⟨rfl, ⟨m1, rfl⟩⟩; refine ⟨_, rfl, ?_⟩))
        obtain ⟨wD, hwD⟩ : ∃ W, (wC.drewN m1).setCell ⟨g12, 8, none⟩ (.int .u8 ((65535 - sum) / 256)) = W := ⟨_, rfl⟩
        rw [hwD]
        have hv18 : wD.heap[bb]? = some (.cells #[.slice (some ⟨g12, 0, none⟩) enc.length co15] 30 (0, 0)) := by
          rw [← hwD, Below.heap_setCell _ _ _ _ (show bb ≠ g12 from fun e_ => hgne e_.symm)]
          exact hv16
        have HO18 : Aside0 (Kd.R (Kd.int .u8) 5 wD w.heap.size (fun k_ => k_ ≠ w.heap.size ∧ k_ ≠ bb) (.slice (some ⟨g12, 0, none⟩) enc.length co15) (enc.set 8 ((65535 - sum) / 256))) := ⟨by rw [← hwD]; exact Kd.R_putn (Kd.R_drewN HO16.out m1) 8 ((65535 - sum) / 256)⟩
        have HB18 : Aside0 (Below w.heap.size w wD) := ⟨by rw [← hwD]; exact below_set (pw_below_drewN HB16.out m1) HGB.out⟩
        clear hwD
        have hkb18 : wD.cell? ⟨bb, 0, none⟩ = some (.slice (some ⟨g12, 0, none⟩) enc.length co15) := (blk_cell hv18 0).trans rfl
        have hl9 : 9 < enc.length := of_eq_true q9n
        obtain ⟨_, eb9, hy9⟩ := Kd.at_int (Kd.R_reads' HO18.out).2.2 9 (by decide) (by rw [List.length_set]; omega)
        cases eb9
        rw [add_plain] at hy9
        replace hy9 : wD.cell? ⟨g12, 9, none⟩ = some (.int .u8 (rd (enc.set 8 ((65535 - sum) / 256)) 9)) := hy9
        obtain ⟨g13, cap13, hv13, _, _, cells13, hcl13⟩ := Kd.R_form HO18.out (by rw [List.length_set]; omega)
        injection hv13 with hb1 hb2_ hb3_
        clear hb2_ hb3_
        injection hb1 with hb1
        injection hb1 with hb1 hb4_ hb5_
        subst hb1
        have hf18 := blk_frozen hcl13 9
        clear hx8 hx9 hf8 hf9 hkb16 hv18 hcl13 hl9
        go_upto_region 29 with (fail)
        obtain ⟨wF, hwF⟩ : ∃ W, wD.setCell ⟨g12, 9, none⟩ (.int .u8 ((65535 - sum) % 256)) = W := ⟨_, rfl⟩
        rw [hwF]
        have HO19 : Aside0 (Kd.R (Kd.int .u8) 5 wF w.heap.size (fun k_ => k_ ≠ w.heap.size ∧ k_ ≠ bb) (.slice (some ⟨g12, 0, none⟩) enc.length co15) ((enc.set 8 ((65535 - sum) / 256)).set 9 ((65535 - sum) % 256))) := ⟨by rw [← hwF]; exact Kd.R_putn HO18.out 9 ((65535 - sum) % 256)⟩
        have HB19 : Aside0 (Below w.heap.size w wF) := ⟨by rw [← hwF]; exact below_set HB18.out HGB.out⟩
        have hkb19 : wF.cell? ⟨bb, 0, none⟩ = some (.slice (some ⟨g12, 0, none⟩) enc.length co15) := by
          rw [← hwF]
          refine (World.cell?_of_block (Below.heap_setCell _ _ _ _ (show bb ≠ g12 from fun e_ => hgne e_.symm))).trans hkb18
        clear hwF
        go_wp2
        go_ret2
        exact ⟨_, rfl, Kd.R_mono HO19.out (fun _ _ => trivial), HB19.out⟩
  · have z_ : (e != 0) = true := bne_iff_ne.2 hz
    have z2_ : (e == 0) = false := beq_eq_false_iff_ne.2 hz
    have hHH := HH.out
    rw [if_neg hz] at hHH
    simp only [Option.some.injEq, Prod.mk.injEq] at hHH
    obtain ⟨rfl, rfl⟩ := hHH
    clear hz
    go_wp2_with (first | ((with_reducible refine gate_callee (f := 58) rfl ?_); refine goesL_ (some 12) rfl rfl Try.func58 (by kernel_rfl) rfl #[.agg #[.int .i64 a0, .int .i64 a1, .int .i64 a2, .bool a3, .bool a4, .bool a5, .bool a6, .slice A7 l7.length c7, .slice A8 l8.length c8]] rfl (by (try simp only [List.map_toArray, List.map_cons, List.map_nil]); first | done | rfl) ?_; refine (packthreadref_segFault.calls k a0 a1 a2 a3 a4 a5 a6 A7 c7 l7 A8 c8 l8 e _ (Kd.C_below HR7.out HB1.out) HC7.out (Kd.C_below HR8.out HB1.out) HC8.out HE.out).mono ?_; rintro e' w2 ⟨rfl, hb2⟩; refine ⟨_, rfl, ?_⟩; have HB2 := Aside0.mk (below_step HB1.out hb2); clear hb2))
    go_ret2
    exact ⟨_, rfl, Kd.R_nil _ _ _ _ _, HB2.out⟩
theorem packthreadref_SegEncoded.mono : ∀ (a0 a1 a2 : Int) (a3 a4 a5 a6 : Bool) (l7 : List S54) (l8 : List Int) (k : Nat), LeO (packthreadref_SegEncoded.f k a0 a1 a2 a3 a4 a5 a6 l7 l8) (packthreadref_SegEncoded.f (k + 1) a0 a1 a2 a3 a4 a5 a6 l7 l8) := by
  intro a0 a1 a2 a3 a4 a5 a6 l7 l8 k
  unfold packthreadref_SegEncoded.f
  exact LeO.bind (packthreadref_segFault.mono _ _ _ _ _ _ _ _ _ _) (fun e => LeO.ite (LeO.ite (LeO.bind (packthreadref_InetFold.mono _ _) (fun _ => LeO.refl _)) (LeO.refl _)) (LeO.refl _))

end Go.Proofs.Ytjhmjgcebijmiaa.HSegDecodes
