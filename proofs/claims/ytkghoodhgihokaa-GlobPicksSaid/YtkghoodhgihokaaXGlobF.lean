/- Patterns of names: what globItems keeps in memory; its inner function. -/
import Derived.Test.YtkghoodhgihokaaXGlobE
namespace Go.Proofs.Ytkghoodhgihokaa.Glob
open Go.RowKit Go.Lib Go.Proofs.YtkghoodhgihokaaW.PrintWords Go.Proofs.YtkghoodhgihokaaW.PrintLast Go.Proofs.YtkghoodhgihokaaW.PrintMore
set_option linter.unusedVariables false
set_option linter.unusedSimpArgs false
/-- A kind of so many cells, of which nothing more is told. -/
def kraw (n : Nat) : Kd Unit where
  sz := n
  E := []
  K := fun _ _ cs => cs.length = n ∧ ∀ u ∈ cs, u.oneCell' = true
  M := fun _ _ _ _ cs => cs.length = n ∧ ∀ u ∈ cs, u.oneCell' = true
  K_len := fun h => h.1
  K_one := fun h u hu => h.2 u hu
  K_below := fun _ h => h
  K_of_M := fun h => h
  M_mono := fun _ h => h
  M_bound := fun h => h
  M_move := fun _ h => h
  M_lower := fun _ h => h
theorem keepR {α : Type} {d : Kd α} {e base : Nat} {ok : Nat → Prop} {W w1 : World} {v : Value} {xs : List α} (h : d.R e W base ok v xs) (hE : d.E = []) (hm : ∀ k, v.ownBlock = some k → w1.heap[k]? = W.heap[k]?) : d.R e w1 base ok v xs :=
  Kd.R_mono (Kd.R_step (Kd.R_tight hE h) (fun k hk _ => hm k hk.symm)) (fun k hk => h.1 k hk.symm)
theorem info140 : (Try.prog.info? 140).map (fun i => (i.zero, i.size, i.bytes)) = some (some (.agg #[.int .u8 0, .int .u8 0, .slice none 0 0, .bool false]), 4, 40) := by kernel_rfl
theorem info141 : (Try.prog.info? 141).map (fun i => (i.zero, i.size, i.bytes)) = some (some (.agg #[.int .u8 0, .int .u8 0]), 2, 2) := by kernel_rfl
/-- What the reference keeps: the text in its box, and what it made. -/
structure GM (l : List UInt8) (w wx : World) (v : Value) (xs : List Unit) : Prop where
  box : wx.heap[w.heap.size]? = some (.cells #[.string (bs l)] 9 (0, 0))
  out : (kraw 4).R 140 wx w.heap.size (fun _ => True) v xs
  b : Below w.heap.size w wx
theorem GM.lt {l : List UInt8} {w wx : World} {v : Value} {xs : List Unit} (h : GM l w wx v xs) : w.heap.size < wx.heap.size := (Array.getElem?_eq_some_iff.1 h.box).1
theorem GM.cell {l : List UInt8} {w wx : World} {v : Value} {xs : List Unit} (h : GM l w wx v xs) : wx.cell? ⟨w.heap.size, 0, none⟩ = some (.string (bs l)) := by
  rw [cell_of_row wx _ _ _ _ _ h.box]; rfl
theorem GM.below {l : List UInt8} {w wx w1 : World} {v : Value} {xs : List Unit} (h : GM l w wx v xs) (hb : Below wx.heap.size wx w1) : GM l w w1 v xs :=
  ⟨(hb.block _ h.lt).trans h.box, Kd.R_below h.out hb, h.b.trans (hb.mono h.b.size)⟩
theorem ne_head {l : List UInt8} {i : Nat} (h : i < l.length) : ∃ c t, l.drop i = c :: t ∧ (bs l)[i]'h = c ∧ l.drop (i + 1) = t := ⟨l[i], l.drop (i + 1), List.drop_eq_getElem_cons h, rfl, rfl⟩
set_option maxHeartbeats 4000000 in
set_option maxRecDepth 100000 in
theorem fits_calls (l : List UInt8) (i b : Nat) (w : World) (hc : w.cell? ⟨b, 0, none⟩ = some (.string (bs l))) :
    Calls Try.prog 88 #[.int .i64 (i : Int), .pointer (some ⟨b, 0, none⟩)] w fun e w' => e = .returned (.bool (plainB (l.drop i))) ∧ w' = w := by
  by_cases hi : i < l.length
  · obtain ⟨c, t, h1, h2, h3⟩ := ne_head hi
    have q1 : decide ((i : Int) < ((bs l).size : Int)) = true := decide_eq_true (by rw [bs_size]; omega)
    have q2 : (i : Int) < ((bs l).size : Int) := by rw [bs_size]; omega
    have q3 : (0 : Int) ≤ (i : Int) := by omega
    have q4 : decide (i < (bs l).size) = true := decide_eq_true (by rw [bs_size]; exact hi)
    have q5 : i < (bs l).size := by rw [bs_size]; exact hi
    have h2' : ∀ h : i < (bs l).size, (bs l)[i]'h = c := fun _ => h2
    rw [h1]
    obtain ⟨p, hp⟩ : ∃ p, plainB (c :: t) = p := ⟨_, rfl⟩
    rw [hp]
    simp only [plainB] at hp
    by_cases c93 : c.toNat = 93
    · have n1 : ((c.toNat : Int) != 93) = false := by rw [c93]; rfl
      rw [c93] at hp
      go_enter Try.func88, Try.ntmps88
      go_wp2
      go_ret
      exact ⟨by rw [← hp]; rfl, rfl⟩
    · have n1 : ((c.toNat : Int) != 93) = true := bne_iff_ne.2 (by omega)
      have n2 : ((c.toNat : Int) != 92) = !(c.toNat == 92) := by
        by_cases h : c.toNat = 92
        · rw [h]; rfl
        · rw [beq_eq_false_iff_ne.2 h]; exact bne_iff_ne.2 (by omega)
      have n3 : (c.toNat == 93) = false := beq_eq_false_iff_ne.2 c93
      rw [n3] at hp
      obtain ⟨q, hq⟩ : ∃ q, (!(c.toNat == 92)) = q := ⟨_, rfl⟩
      rw [hq] at n2 hp
      go_enter Try.func88, Try.ntmps88
      go_wp2
      go_ret
      exact ⟨by rw [← hp]; simp, rfl⟩
  · have q1 : decide ((i : Int) < ((bs l).size : Int)) = false := decide_eq_false (by rw [bs_size]; omega)
    have q4 : decide (i < (bs l).size) = false := decide_eq_false (by rw [bs_size]; exact hi)
    rw [List.drop_eq_nil_of_le (by omega)]
    go_enter Try.func88, Try.ntmps88
    go_wp2
    go_ret
    exact ⟨rfl, rfl⟩
end Go.Proofs.Ytkghoodhgihokaa.Glob
