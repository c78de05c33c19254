/- Messages: more. -/
import Derived.Test.YtkghoodhgihokaaXMsgAe
import Derived.Test.YtkghoodhgihokaaXMsgV
namespace Go.Proofs.Ytkghoodhgihokaa.Msg
open Go.RowKit Go.Lib Go.Proofs.YtkghoodhgihokaaW.PrintWords Go.Proofs.YtkghoodhgihokaaW.PrintLast Go.Proofs.YtkghoodhgihokaaW.PrintMore
set_option linter.unusedVariables false
set_option linter.unusedSimpArgs false
/-- Names that the reference reads. -/
def namesR : Nat → List ByteArray → List Int → Bool → List ByteArray × List Int × Bool
  | 0, ns, l, sh => (ns, l, sh)
  | n + 1, ns, l, sh => if sh = true then (ns, l, sh) else namesR n (ns ++ [(readT l sh).1]) (readT l sh).2.1 (readT l sh).2.2
/-- What the reference does behind a reply's head. -/
def refTail (fault : Rp → Int) (q : Rp) (n : Int) (l : List Int) (sh : Bool) : Rp × Int :=
  if (namesR n.toNat [] l sh).2.2 = true then (zeroP, 5) else if 0 < (namesR n.toNat [] l sh).2.1.length then (zeroP, 4) else if fault { q with names := (namesR n.toNat [] l sh).1 } ≠ 0 then (zeroP, 4) else ({ q with names := (namesR n.toNat [] l sh).1 }, 0)
/-- What the reference's MsgAnswered answers. -/
def refAnsweredF (fault : Rp → Int) (l : List Int) : Rp × Int :=
  match readN 4 l false with
  | (m, l1, s1) => match readN 1 l1 s1 with
    | (c, l2, s2) => match readN 4 l2 s2 with
      | (h, l3, s3) => match readN 1 l3 s3 with
        | (k, l4, s4) => match readN 4 l4 s4 with
          | (s, l5, s5) => match readT l5 s5 with
            | (t, l6, s6) => match readN 1 l6 s6 with
              | (n, l7, s7) => refTail fault ⟨m, c, h, k, s, none, bytesOf t, 0, none, [], 0⟩ n l7 s7
/-- A reply that the reference reads, told by its places. -/
structure NStep (w0 : World) (g b1 b0 : Nat) (q : Rp) (l : List Int) (sh : Bool) (A : Option Addr) (c : Nat) (nA : Option Addr) (nc : Nat) (k : Nat) (cs : Array Value) (fr : Nat × Nat) (w : World) : Prop where
  hr : Rdr w0 g l sh w
  hq : w.heap[b1]? = some (.cells (q.at A c nA nc).cells 39 (0, 0))
  hc : q.data.length ≤ c
  hdl : q.data.length ≤ 140737488351232
  hcs : w.heap[k]? = some (.cells cs 5 fr)
  hcd : ∀ W' : World, W'.heap[k]? = some (.cells cs 5 fr) → Kd.C (Kd.int .u8) W' A q.data.length q.data
  h0 : w.heap[b0]? = some (.cells #[.int .i64 0, .int .i64 0, .int .i64 0, .int .i64 0, .int .i64 0, .slice none 0 0, .slice none 0 0] 39 (0, 0))
  hn : Kd.R Kd.string 9 w w0.heap.size (fun _ => True) (.slice nA q.names.length nc) q.names
  hb : Below w0.heap.size w0 w
/-- A reply that the reference reads. -/
inductive NIn (w0 : World) (g b1 b0 : Nat) (q : Rp) (l : List Int) (sh : Bool) (w : World) : Prop
  | mk (A : Option Addr) (c : Nat) (nA : Option Addr) (nc : Nat) (k : Nat) (cs : Array Value) (fr : Nat × Nat) (h : NStep w0 g b1 b0 q l sh A c nA nc k cs fr w)
theorem rdr_ne {w0 w : World} {g k : Nat} {l : List Int} {sh : Bool} {cs : Array Value} {t : TypeId} {fr : Nat × Nat} (h : Rdr w0 g l sh w) (hk : w.heap[k]? = some (.cells cs t fr)) (ht : t ≠ 88) : k ≠ g := by
  rintro rfl
  obtain ⟨_, _, hg, _⟩ := h
  rw [hg] at hk
  cases hk
  exact ht rfl
theorem NStep.read {w0 : World} {g b1 b0 : Nat} {q : Rp} {l l' : List Int} {sh sh' : Bool} {A : Option Addr} {c : Nat} {nA : Option Addr} {nc k : Nat} {cs : Array Value} {fr : Nat × Nat} {w w' : World} {v : Value} {e : Ending} (h : NStep w0 g b1 b0 q l sh A c nA nc k cs fr w) (hp : NPost w0 w g v l' sh' e w') : NStep w0 g b1 b0 q l' sh' A c nA nc k cs fr w' := by
  obtain ⟨_, hr, hb', hk⟩ := hp
  obtain ⟨A1, c1, hg, _⟩ := h.hr
  exact ⟨hr, blk_kept h.hq hk (rdr_ne h.hr h.hq (by decide)), h.hc, h.hdl, blk_kept h.hcs hk (rdr_ne h.hr h.hcs (by decide)), h.hcd, blk_kept h.h0 hk (rdr_ne h.hr h.h0 (by decide)), Kd.R_mono (Kd.R_kept (Kd.R_types h.hn hg (str_not (by decide))) hk (fun k hk => hk.2)) (fun _ h => h.1), hb'⟩
theorem NStep.below {w0 : World} {g b1 b0 : Nat} {q : Rp} {l : List Int} {sh : Bool} {A : Option Addr} {c : Nat} {nA : Option Addr} {nc k : Nat} {cs : Array Value} {fr : Nat × Nat} {w w' : World} (h : NStep w0 g b1 b0 q l sh A c nA nc k cs fr w) (hb : Below w.heap.size w w') : NStep w0 g b1 b0 q l sh A c nA nc k cs fr w' :=
  ⟨rdr_below h.hr hb, (hb.block _ (blk_ltn h.hq)).trans h.hq, h.hc, h.hdl, (hb.block _ (blk_ltn h.hcs)).trans h.hcs, h.hcd, (hb.block _ (blk_ltn h.h0)).trans h.h0, Kd.R_below h.hn hb, h.hb.trans (hb.mono h.hb.size)⟩
theorem NStep.grown {w0 : World} {g b1 b0 : Nat} {q : Rp} {l : List Int} {sh : Bool} {A : Option Addr} {c : Nat} {nA : Option Addr} {nc k : Nat} {cs : Array Value} {fr : Nat × Nat} {w w' : World} (h : NStep w0 g b1 b0 q l sh A c nA nc k cs fr w) (hg : w.grownBy w' none) (hb : Below w0.heap.size w0 w') : NStep w0 g b1 b0 q l sh A c nA nc k cs fr w' := by
  obtain ⟨A1, c1, r1, r2, r3, r4, r5⟩ := h.hr
  have n : ∀ {j : Nat} {o : Obj}, w.heap[j]? = some o → w'.heap[j]? = some o := fun hj => (hg.block _ (blk_ltn hj) (by simp)).trans hj
  exact ⟨.mk A1 c1 (n r1) r2 r3 r4 r5, n h.hq, h.hc, h.hdl, n h.hcs, h.hcd, n h.h0, Kd.R_grown h.hn hg (by simp), hb⟩
/-- The names' row grows: all else stays. -/
theorem NStep.other {w0 : World} {g b1 b0 : Nat} {q : Rp} {l : List Int} {sh : Bool} {A : Option Addr} {c : Nat} {nA : Option Addr} {nc k : Nat} {cs : Array Value} {fr : Nat × Nat} {w w' : World} (h : NStep w0 g b1 b0 q l sh A c nA nc k cs fr w) (hg : w.grownBy w' (Value.slice nA q.names.length nc).ownBlock) {j : Nat} {cells : Array Value} {t : TypeId} {f : Nat × Nat} (hj : w.heap[j]? = some (.cells cells t f)) (ht : t ≠ 9) : w'.heap[j]? = some (.cells cells t f) := by
  refine (hg.block j (blk_ltn hj) (fun e => ?_)).trans hj
  obtain ⟨_, hc⟩ := Kd.R_typed h.hn j e.symm
  rw [hj] at hc
  cases hc
  exact ht rfl
theorem NStep.names {w0 : World} {g b1 b0 : Nat} (hne : g ≠ b1 ∧ b0 ≠ b1 ∧ w0.heap.size ≤ b1) {q : Rp} {l : List Int} {sh : Bool} {A : Option Addr} {c : Nat} {nA nA1 : Option Addr} {nc nc1 k : Nat} {cs : Array Value} {fr : Nat × Nat} {ns : List ByteArray} {w w' : World} (h : NStep w0 g b1 b0 q l sh A c nA nc k cs fr w) (hg : w.grownBy w' (Value.slice nA q.names.length nc).ownBlock) (hb : Below w0.heap.size w0 w') (hn1 : Kd.R Kd.string 9 w' w0.heap.size (fun _ => True) (.slice nA1 ns.length nc1) ns) : NIn w0 g b1 b0 { q with names := ns } l sh (w'.setCell ⟨b1, 6, none⟩ (.slice nA1 ns.length nc1)) := by
  obtain ⟨A1, c1, r1, r2, r3, r4, r5⟩ := h.hr
  have hq1 := h.other hg h.hq (by decide)
  have hq' := blk_set hq1 6 (.slice nA1 ns.length nc1)
  have hk1 : k ≠ b1 := by
    rintro rfl
    have h1 := h.hcs
    rw [h.hq] at h1
    cases h1
  exact .mk A c nA1 nc1 k cs fr ⟨.mk A1 c1 ((Below.heap_setCell _ _ _ _ hne.1).trans (h.other hg r1 (by decide))) r2 r3 r4 r5, hq'.trans rfl, h.hc, h.hdl, (Below.heap_setCell _ _ _ _ hk1).trans (h.other hg h.hcs (by decide)), h.hcd, (Below.heap_setCell _ _ _ _ hne.2.1).trans (h.other hg h.h0 (by decide)), Kd.R_set hn1 hq1 (str_not (by decide)) 6 _, hb.setCell (p := ⟨b1, 6, none⟩) hne.2.2 _⟩
theorem NStep.slot {w0 : World} {g b1 b0 : Nat} {q : Rp} {l : List Int} {sh : Bool} {A : Option Addr} {c : Nat} {nA : Option Addr} {nc k : Nat} {cs : Array Value} {fr : Nat × Nat} {w w' : World} (h : NStep w0 g b1 b0 q l sh A c nA nc k cs fr w) (hg : w.grownBy w' (Value.slice nA q.names.length nc).ownBlock) : (∃ u, w'.cell? ⟨b1, 6, none⟩ = some u) ∧ w'.frozen? ⟨b1, 6, none⟩ = false := by
  have hq1 := h.other hg h.hq (by decide)
  exact ⟨⟨_, (blk_cell hq1 6).trans rfl⟩, blk_frozen hq1 6⟩
/-- The bytes of a text that a string was turned into. -/
theorem bytes_at (w : World) (t : ByteArray) (ht : t.size ≤ 140737488351232) : ∃ cs fr, (Lib.bytesWorld w 5 t).heap[w.heap.size]? = some (.cells cs 5 fr) ∧ ∀ W' : World, W'.heap[w.heap.size]? = some (.cells cs 5 fr) → Kd.C (Kd.int .u8) W' (some ⟨w.heap.size, 0, none⟩) t.size (bytesOf t) := by
  refine ⟨_, _, Lib.bytesWorld_at_new w 5 t, fun W' hW => ?_⟩
  have hrd := bytes_reads w 5 t (by omega)
  refine Kd.C_of_reads (enc := Value.int .u8) (d := (0 : Int)) (h1 := fun _ => rfl) ⟨hrd.1, hrd.2.1, fun hp => ?_⟩
  obtain ⟨ad, e, hc⟩ := hrd.2.2 hp
  refine ⟨ad, e, fun j hj => ?_⟩
  have h1 := hc j hj
  cases e
  rw [add_plain] at h1 ⊢
  rw [cell_of_row _ _ _ _ _ _ (Lib.bytesWorld_at_new w 5 t)] at h1
  rw [cell_of_row _ _ _ _ _ _ hW]
  exact h1
theorem NStep.k_ne {w0 : World} {g b1 b0 : Nat} {q : Rp} {l : List Int} {sh : Bool} {A : Option Addr} {c : Nat} {nA : Option Addr} {nc k : Nat} {cs : Array Value} {fr : Nat × Nat} {w : World} (h : NStep w0 g b1 b0 q l sh A c nA nc k cs fr w) : k ≠ b0 := by
  rintro rfl
  have h1 := h.hcs
  rw [h.h0] at h1
  cases h1
theorem seven_other {W : World} {g k : Nat} {o : Option Obj} {c0 c1 c2 c3 c4 c5 c6 : Value} (hk : k ≠ g) (h : W.heap[k]? = o) : (((((((W.setCell ⟨g, 0, none⟩ c0).setCell ⟨g, 1, none⟩ c1).setCell ⟨g, 2, none⟩ c2).setCell ⟨g, 3, none⟩ c3).setCell ⟨g, 4, none⟩ c4).setCell ⟨g, 5, none⟩ c5).setCell ⟨g, 6, none⟩ c6).heap[k]? = o :=
  (Below.heap_setCell _ _ _ _ hk).trans ((Below.heap_setCell _ _ _ _ hk).trans ((Below.heap_setCell _ _ _ _ hk).trans ((Below.heap_setCell _ _ _ _ hk).trans ((Below.heap_setCell _ _ _ _ hk).trans ((Below.heap_setCell _ _ _ _ hk).trans ((Below.heap_setCell _ _ _ _ hk).trans h))))))
theorem NStep.start {w0 w7 : World} {g b0 : Nat} {m cd hd kd sz : Int} {t : ByteArray} {l : List Int} {sh : Bool} (hr : Rdr w0 g l sh w7) (h0 : w7.heap[b0]? = some (.cells #[.int .i64 0, .int .i64 0, .int .i64 0, .int .i64 0, .int .i64 0, .slice none 0 0, .slice none 0 0] 39 (0, 0))) (hb : Below w0.heap.size w0 w7) (ht : t.size ≤ 140737488351232) :
    ∃ k cs fr, NStep w0 g (Lib.bytesWorld w7 5 t).heap.size b0 ⟨m, cd, hd, kd, sz, none, bytesOf t, 0, none, [], 0⟩ l sh (some ⟨w7.heap.size, 0, none⟩) (grownCap w7 t.size 0 5) none 0 k cs fr ((Lib.bytesWorld w7 5 t).alloc (.cells #[.int .i64 m, .int .i64 cd, .int .i64 hd, .int .i64 kd, .int .i64 sz, .slice (some ⟨w7.heap.size, 0, none⟩) t.size (grownCap w7 t.size 0 5), .slice none 0 0] 39)) := by
  obtain ⟨cs, fr, hcs, hcd⟩ := bytes_at w7 t ht
  have hlen : (bytesOf t).length = t.size := bytesOf_length t
  have hB := bytes_below (Below.refl w7.heap.size w7) (Nat.le_refl _) 5 t
  have hB2 := (Below.refl _ (Lib.bytesWorld w7 5 t)).alloc (Nat.le_refl _) (.cells #[.int .i64 m, .int .i64 cd, .int .i64 hd, .int .i64 kd, .int .i64 sz, .slice (some ⟨w7.heap.size, 0, none⟩) t.size (grownCap w7 t.size 0 5), .slice none 0 0] 39)
  have hB3 := hB.trans (hB2.mono hB.size)
  refine ⟨w7.heap.size, cs, fr, rdr_below hr hB3, ?_, ?_, ?_, (hB2.block _ (blk_ltn hcs)).trans hcs, ?_, (hB3.block _ (blk_ltn h0)).trans h0, Kd.R_nil _ _ _ _ _, hb.trans (hB3.mono hb.size)⟩
  · rw [heap_alloc_new]
    show some (Obj.cells _ 39 (0, 0)) = some (Obj.cells _ 39 (0, 0))
    rw [show ((({ mark := m, code := cd, handle := hd, kind := kd, size := sz, dA := none, data := bytesOf t, dc := 0, nA := none, names := [], nc := 0 } : Rp).at (some ⟨w7.heap.size, 0, none⟩) (grownCap w7 t.size 0 5) none 0).cells : Array Value) = #[.int .i64 m, .int .i64 cd, .int .i64 hd, .int .i64 kd, .int .i64 sz, .slice (some ⟨w7.heap.size, 0, none⟩) (bytesOf t).length (grownCap w7 t.size 0 5), .slice none 0 0] from rfl, hlen]
  · show (bytesOf t).length ≤ _
    rw [hlen]
    exact grownCap_ge w7 t.size 0 5
  · show (bytesOf t).length ≤ _
    rw [hlen]
    exact ht
  · intro W' hW
    show Kd.C (Kd.int .u8) W' _ (bytesOf t).length (bytesOf t)
    rw [hlen]
    exact hcd W' hW
theorem readN_nat (wd : Nat) (l : List Int) (sh : Bool) : ∃ n : Nat, (readN wd l sh).1 = (n : Int) := by
  unfold readN
  by_cases h : l.length < wd
  · rw [if_pos h]; exact ⟨0, rfl⟩
  · rw [if_neg h]; exact ⟨_, rfl⟩
theorem readN_one (l : List Int) (sh : Bool) (hb : ∀ x ∈ l, 0 ≤ x ∧ x ≤ 255) : (readN 1 l sh).1 ≤ 255 := by
  unfold readN
  by_cases h : l.length < 1
  · rw [if_pos h]; exact (by decide : (0 : Int) ≤ 255)
  · rw [if_neg h]
    have := valN_bd l hb 1 (by omega) (by omega)
    show ((valN (l.take 1) : Nat) : Int) ≤ 255
    omega
theorem info9b : (Try.prog.info? 9).map (fun i => (i.zero, i.size, i.bytes)) = some (some (.string ⟨#[]⟩), 1, 16) := by kernel_rfl
end Go.Proofs.Ytkghoodhgihokaa.Msg
