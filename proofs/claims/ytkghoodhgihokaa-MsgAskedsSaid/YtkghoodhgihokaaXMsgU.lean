/- Messages: replies. -/
import Derived.Test.YtkghoodhgihokaaXMsgT
import Derived.Test.YtkghoodhgihokaaXMsgS
import Derived.Test.YtkghoodhgihokaaXMsgN
import Derived.Lib.OthersKept
import Derived.Laws.RangeAny
namespace Go.Proofs.Ytkghoodhgihokaa.Msg
open Go.RowKit Go.Lib Go.Proofs.YtkghoodhgihokaaW.PrintWords Go.Proofs.YtkghoodhgihokaaW.PrintLast Go.Proofs.YtkghoodhgihokaaW.PrintMore
set_option linter.unusedVariables false
set_option linter.unusedSimpArgs false
/-- A letter read: the request, what is left, was it short? -/
def ltrR (c : Nat) (st : Rq × List Int × Bool) : Rq × List Int × Bool :=
  if c = 112 then ({ st.1 with path := (readT st.2.1 st.2.2).1 }, (readT st.2.1 st.2.2).2)
  else if c = 116 then ({ st.1 with to_ := (readT st.2.1 st.2.2).1 }, (readT st.2.1 st.2.2).2)
  else if c = 104 then ({ st.1 with how := (readN 1 st.2.1 st.2.2).1 }, (readN 1 st.2.1 st.2.2).2)
  else if c = 110 then ({ st.1 with handle := (readN 4 st.2.1 st.2.2).1 }, (readN 4 st.2.1 st.2.2).2)
  else if c = 97 then ({ st.1 with at_ := (readN 4 st.2.1 st.2.2).1 }, (readN 4 st.2.1 st.2.2).2)
  else if c = 99 then ({ st.1 with count := (readN 2 st.2.1 st.2.2).1 }, (readN 2 st.2.1 st.2.2).2)
  else ({ st.1 with data := bytesOf (readT st.2.1 st.2.2).1 }, (readT st.2.1 st.2.2).2)
/-- The letters of a kind read. -/
def ltrsR (l : List Nat) (st : Rq × List Int × Bool) : Rq × List Int × Bool := l.foldl (fun st c => ltrR c st) st
theorem ltrsR_snoc (l : List Nat) (c : Nat) (st : Rq × List Int × Bool) : ltrsR (l ++ [c]) st = ltrR c (ltrsR l st) := by unfold ltrsR; rw [List.foldl_append]; rfl
/-- What the reference's MsgAsked answers. -/
def refAskedF (l : List Int) : Rq × Int :=
  if (readN 4 (readN 1 l false).2.1 (readN 1 l false).2.2).2.2 = true then (zeroQ, 5)
  else if ¬ (1 ≤ (readN 1 l false).1 ∧ (readN 1 l false).1 ≤ 10) then (zeroQ, 3)
  else if (ltrsR (namesK (readN 1 l false).1) ({ zeroQ with kind := (readN 1 l false).1, mark := (readN 4 (readN 1 l false).2.1 (readN 1 l false).2.2).1 }, (readN 4 (readN 1 l false).2.1 (readN 1 l false).2.2).2)).2.2 = true then (zeroQ, 5)
  else if 0 < (ltrsR (namesK (readN 1 l false).1) ({ zeroQ with kind := (readN 1 l false).1, mark := (readN 4 (readN 1 l false).2.1 (readN 1 l false).2.2).1 }, (readN 4 (readN 1 l false).2.1 (readN 1 l false).2.2).2)).2.1.length then (zeroQ, 4)
  else if faultF (ltrsR (namesK (readN 1 l false).1) ({ zeroQ with kind := (readN 1 l false).1, mark := (readN 4 (readN 1 l false).2.1 (readN 1 l false).2.2).1 }, (readN 4 (readN 1 l false).2.1 (readN 1 l false).2.2).2)).1 ≠ 0 then (zeroQ, 4)
  else ((ltrsR (namesK (readN 1 l false).1) ({ zeroQ with kind := (readN 1 l false).1, mark := (readN 4 (readN 1 l false).2.1 (readN 1 l false).2.2).1 }, (readN 4 (readN 1 l false).2.1 (readN 1 l false).2.2).2)).1, 0)
/-- The blocks of a reading request: the reader, the request, its result, the letters' iterator. -/
def SB (g b1 b0 b9 : Nat) (k : Nat) : Prop := k = g ∨ k = b1 ∨ k = b0 ∨ k = b9
/-- Distinct blocks, none of them there before. -/
structure Dist (w0 : World) (g b1 b0 b9 : Nat) : Prop where
  e1 : g ≠ b1
  e2 : g ≠ b0
  e3 : g ≠ b9
  e4 : b1 ≠ b0
  e5 : b1 ≠ b9
  e6 : b0 ≠ b9
  l1 : w0.heap.size ≤ g
  l2 : w0.heap.size ≤ b1
  l3 : w0.heap.size ≤ b0
  l4 : w0.heap.size ≤ b9
/-- A request that is being read. -/
inductive AIn (w0 : World) (g b1 b0 b9 : Nat) (s : ByteArray) (i : Nat) (q : Rq) (l : List Int) (sh : Bool) (w : World) : Prop
  | mk (A : Option Addr) (c : Nat) (hr : Rdr w0 g l sh w) (hq : w.heap[b1]? = some (.cells (q.at A c).cells 29 (0, 0))) (hc : q.data.length ≤ c) (hdl : q.data.length ≤ 140737488351232) (hd : ∀ W', Kept w W' (SB g b1 b0 b9) → Kd.C (Kd.int .u8) W' A q.data.length q.data)
      (h0 : w.heap[b0]? = some (.cells #[.int .i64 0, .int .i64 0, .string ⟨#[]⟩, .string ⟨#[]⟩, .int .i64 0, .int .i64 0, .int .i64 0, .int .i64 0, .slice none 0 0] 29 (0, 0))) (h9 : w.heap[b9]? = some (.stringIter s i)) (hb : Below w0.heap.size w0 w)
theorem AIn.iter {w0 : World} {g b1 b0 b9 : Nat} {s : ByteArray} {i j : Nat} {q : Rq} {l : List Int} {sh : Bool} {w : World} (hd : Dist w0 g b1 b0 b9) (h : AIn w0 g b1 b0 b9 s i q l sh w) : AIn w0 g b1 b0 b9 s j q l sh (w.iterAt b9 s j) := by
  obtain ⟨A, c, ⟨A1, c1, r1, r2, r3, r4, r5⟩, hq, hc, hdl, hdd, h0, h9, hb⟩ := h
  have hk : Kept w (w.iterAt b9 s j) (SB g b1 b0 b9) := ⟨Nat.le_of_eq (Lib.iterAt_size _ _ _ _).symm, fun k hk hn => Lib.iterAt_other _ _ _ _ _ (fun e => hn (.inr (.inr (.inr e))))⟩
  exact .mk A c (.mk A1 c1 ((Lib.iterAt_other _ _ _ _ _ hd.e3).trans r1) r2 r3 r4 r5) ((Lib.iterAt_other _ _ _ _ _ hd.e5).trans hq) hc hdl (Kd.C_kept_step hdd hk) ((Lib.iterAt_other _ _ _ _ _ hd.e6).trans h0) (Lib.iterAt_heap _ _ _ _ _ h9) (Lib.below_iterAt hb hd.l4 s j)
theorem AIn.read {w0 : World} {g b1 b0 b9 : Nat} {s : ByteArray} {i : Nat} {q : Rq} {l l' : List Int} {sh sh' : Bool} {w w' : World} {v : Value} {e : Ending} (hd : Dist w0 g b1 b0 b9) (h : AIn w0 g b1 b0 b9 s i q l sh w) (hn : NPost w0 w g v l' sh' e w') : AIn w0 g b1 b0 b9 s i q l' sh' w' := by
  obtain ⟨A, c, _, hq, hc, hdl, hdd, h0, h9, hb⟩ := h
  obtain ⟨_, hr, hb', hk⟩ := hn
  exact .mk A c hr (blk_kept hq hk hd.e1.symm) hc hdl (Kd.C_kept_step hdd (hk.mono fun k e => .inl e)) (blk_kept h0 hk hd.e2.symm) (blk_kept h9 hk hd.e3.symm) hb'
theorem AIn.set {w0 : World} {g b1 b0 b9 : Nat} {s : ByteArray} {i : Nat} {q q' : Rq} {l : List Int} {sh : Bool} {w : World} (hd : Dist w0 g b1 b0 b9) (h : AIn w0 g b1 b0 b9 s i q l sh w) (o : Nat) (u : Value) (hc' : ∀ A c, (q.at A c).cells.setIfInBounds o u = (q'.at A c).cells) (he : q'.data = q.data) : AIn w0 g b1 b0 b9 s i q' l sh (w.setCell ⟨b1, o, none⟩ u) := by
  obtain ⟨A, c, ⟨A1, c1, r1, r2, r3, r4, r5⟩, hq, hc, hdl, hdd, h0, h9, hb⟩ := h
  have hk : Kept w (w.setCell ⟨b1, o, none⟩ u) (SB g b1 b0 b9) := (Kept.refl w _).setCell (p := ⟨b1, o, none⟩) (.inl (.inr (.inl rfl))) u
  have hq' := blk_set hq o u
  rw [hc'] at hq'
  exact .mk A c (.mk A1 c1 ((Below.heap_setCell _ _ _ _ hd.e1).trans r1) r2 r3 r4 r5) hq' (by rw [he]; exact hc) (by rw [he]; exact hdl) (by rw [he]; exact Kd.C_kept_step hdd hk) ((Below.heap_setCell _ _ _ _ hd.e4.symm).trans h0) ((Below.heap_setCell _ _ _ _ hd.e5.symm).trans h9) (hb.setCell (p := ⟨b1, o, none⟩) hd.l2 u)
theorem AIn.data {w0 : World} {g b1 b0 b9 : Nat} {s : ByteArray} {i : Nat} {q : Rq} {l : List Int} {sh : Bool} {w : World} (hd : Dist w0 g b1 b0 b9) (h : AIn w0 g b1 b0 b9 s i q l sh w) (t : ByteArray) (ht : t.size ≤ 140737488351232) :
    AIn w0 g b1 b0 b9 s i { q with data := bytesOf t } l sh ((Lib.bytesWorld w 5 t).setCell ⟨b1, 8, none⟩ (.slice (some ⟨w.heap.size, 0, none⟩) t.size (grownCap w t.size 0 5))) := by
  obtain ⟨A, c, ⟨A1, c1, r1, r2, r3, r4, r5⟩, hq, hc, hdl, hdd, h0, h9, hb⟩ := h
  have hB := bytes_below (Below.refl w.heap.size w) (Nat.le_refl _) 5 t
  have hlen : (bytesOf t).length = t.size := bytesOf_length t
  have hq1 := (hB.block _ (blk_ltn hq)).trans hq
  have hq' := blk_set hq1 8 (.slice (some ⟨w.heap.size, 0, none⟩) t.size (grownCap w t.size 0 5))
  have hrd := bytes_reads w 5 t (by omega)
  have hcap : t.size ≤ grownCap w t.size 0 5 := grownCap_ge w t.size 0 5
  have l1 := blk_ltn r1
  have l2 := blk_ltn hq
  have l3 := blk_ltn h0
  have l4 := blk_ltn h9
  refine .mk (some ⟨w.heap.size, 0, none⟩) (grownCap w t.size 0 5) (.mk A1 c1 ((Below.heap_setCell _ _ _ _ hd.e1).trans ((hB.block _ l1).trans r1)) r2 r3 r4 r5) ?_ (by show (bytesOf t).length ≤ _; rw [hlen]; exact hcap) (by show (bytesOf t).length ≤ _; rw [hlen]; exact ht) ?_ ((Below.heap_setCell _ _ _ _ hd.e4.symm).trans ((hB.block _ l3).trans h0)) ((Below.heap_setCell _ _ _ _ hd.e5.symm).trans ((hB.block _ l4).trans h9)) ((hb.trans (hB.mono hb.size)).setCell (p := ⟨b1, 8, none⟩) hd.l2 _)
  · rw [hq']
    show some (Obj.cells _ 29 (0, 0)) = some (Obj.cells _ 29 (0, 0))
    rw [show ((({ q with data := bytesOf t } : Rq).at (some ⟨w.heap.size, 0, none⟩) (grownCap w t.size 0 5)).cells : Array Value) = #[.int .i64 q.kind, .int .i64 q.mark, .string q.path, .string q.to_, .int .i64 q.how, .int .i64 q.handle, .int .i64 q.at_, .int .i64 q.count, .slice (some ⟨w.heap.size, 0, none⟩) (bytesOf t).length (grownCap w t.size 0 5)] from rfl, hlen]
    rfl
  · intro W' hk'
    have hk2 : Kept (Lib.bytesWorld w 5 t) W' (SB g b1 b0 b9) := ((Kept.refl _ _).setCell (p := ⟨b1, 8, none⟩) (.inl (.inr (.inl rfl))) _).then_ hk' (fun k h => .inl h)
    show Kd.C (Kd.int .u8) W' _ (bytesOf t).length (bytesOf t)
    rw [hlen]
    exact Kd.C_of_reads (h1 := fun _ => rfl) (reads_kept hrd hk2 (fun ad e => by cases e; unfold SB; show ¬ (w.heap.size = g ∨ w.heap.size = b1 ∨ w.heap.size = b0 ∨ w.heap.size = b9); omega))
/-- The letters of a kind. -/
def nmS (k : Int) : ByteArray := ⟨((namesK k).map Nat.toUInt8).toArray⟩
theorem nms_is (k : Int) (h : 1 ≤ k ∧ k ≤ 10) : packthreadref_msgNames.f k = some (nmS k) := by
  have : k = 1 ∨ k = 2 ∨ k = 3 ∨ k = 4 ∨ k = 5 ∨ k = 6 ∨ k = 7 ∨ k = 8 ∨ k = 9 ∨ k = 10 := by omega
  rcases this with rfl | rfl | rfl | rfl | rfl | rfl | rfl | rfl | rfl | rfl <;> rfl
def isL (c : Nat) : Prop := c = 112 ∨ c = 116 ∨ c = 104 ∨ c = 110 ∨ c = 97 ∨ c = 99 ∨ c = 100
theorem names_l (k : Int) : (∀ c ∈ namesK k, isL c) ∧ (namesK k).length ≤ 3 := by
  unfold namesK
  repeat' split
  all_goals exact ⟨by intro c hc; unfold isL; (first | (cases hc; done) | (simp at hc; omega)), by simp⟩
theorem nms_size (k : Int) : (nmS k).size = (namesK k).length := by show (((namesK k).map Nat.toUInt8).toArray).size = _; rw [List.size_toArray, List.length_map]
theorem nms_at (k : Int) (i : Nat) (h : i < (nmS k).size) (h' : i < (namesK k).length) : ((nmS k)[i]'h).toNat = (namesK k)[i] := by
  have e : ∀ (l : List Nat) (h : i < (l.map Nat.toUInt8).toArray.size) (h' : i < l.length), ((l.map Nat.toUInt8).toArray)[i]'h = (l[i]'h').toUInt8 := fun l h h' => by simp
  have e : (nmS k)[i]'h = ((namesK k)[i]).toUInt8 := e _ _ h'
  rw [e]
  have := (names_l k).1 _ (List.getElem_mem h')
  unfold isL at this
  rcases this with h | h | h | h | h | h | h <;> rw [h] <;> rfl
theorem rdr_below {w0 w w' : World} {g : Nat} {l : List Int} {sh : Bool} (h : Rdr w0 g l sh w) (hb : Below w.heap.size w w') : Rdr w0 g l sh w' := by
  obtain ⟨A, c, hg, hc, hr, hb', hl⟩ := h
  exact .mk A c ((hb.block _ (blk_ltn hg)).trans hg) hc hr hb' hl
theorem str_size (l : List Int) : (strOfNums l).size = l.length := by show ((l.map fun n => UInt8.ofNat n.toNat).toArray).size = l.length; rw [List.size_toArray, List.length_map]
theorem readT_size (l : List Int) (sh : Bool) : (readT l sh).1.size ≤ l.length := by
  unfold readT
  by_cases h : (readN 2 l sh).2.1.length < (readN 2 l sh).1.toNat
  · rw [if_pos h]; exact Nat.zero_le _
  · rw [if_neg h]
    show (strOfNums _).size ≤ _
    rw [str_size, List.length_take]
    have : (readN 2 l sh).2.1.length ≤ l.length := by
      unfold readN
      split
      · exact Nat.zero_le _
      · show (l.drop 2).length ≤ _; rw [List.length_drop]; omega
    omega
theorem AIn.slot {w0 : World} {g b1 b0 b9 : Nat} {s : ByteArray} {i : Nat} {q : Rq} {l : List Int} {sh : Bool} {w : World} (h : AIn w0 g b1 b0 b9 s i q l sh w) (o : Nat) (ho : o < 9) : (∃ u, w.cell? ⟨b1, o, none⟩ = some u) ∧ w.frozen? ⟨b1, o, none⟩ = false := by
  obtain ⟨A, c, _, hq, _⟩ := h
  exact ⟨⟨_, (blk_cell hq o).trans (Array.getElem?_eq_getElem (show o < (q.at A c).cells.size from ho))⟩, blk_frozen hq o⟩
theorem AIn.slotB {w0 : World} {g b1 b0 b9 : Nat} {s : ByteArray} {i : Nat} {q : Rq} {l : List Int} {sh : Bool} {w : World} (h : AIn w0 g b1 b0 b9 s i q l sh w) (t : ByteArray) (o : Nat) (ho : o < 9) : (∃ u, (Lib.bytesWorld w 5 t).cell? ⟨b1, o, none⟩ = some u) ∧ (Lib.bytesWorld w 5 t).frozen? ⟨b1, o, none⟩ = false := by
  obtain ⟨A, c, _, hq, _⟩ := h
  have hq' := ((bytes_below (Below.refl w.heap.size w) (Nat.le_refl _) 5 t).block _ (blk_ltn hq)).trans hq
  exact ⟨⟨_, (blk_cell hq' o).trans (Array.getElem?_eq_getElem (show o < (q.at A c).cells.size from ho))⟩, blk_frozen hq' o⟩
theorem kept_nine {S : Nat → Prop} {w W : World} {g : Nat} {c0 c1 c2 c3 c4 c5 c6 c7 c8 : Value} (h : Kept w W S) (hg : S g) :
    Kept w (((((((((W.setCell ⟨g, 0, none⟩ c0).setCell ⟨g, 1, none⟩ c1).setCell ⟨g, 2, none⟩ c2).setCell ⟨g, 3, none⟩ c3).setCell ⟨g, 4, none⟩ c4).setCell ⟨g, 5, none⟩ c5).setCell ⟨g, 6, none⟩ c6).setCell ⟨g, 7, none⟩ c7).setCell ⟨g, 8, none⟩ c8) S :=
  ((((((((h.setCell (p := ⟨g, 0, none⟩) (.inl hg) _).setCell (p := ⟨g, 1, none⟩) (.inl hg) _).setCell (p := ⟨g, 2, none⟩) (.inl hg) _).setCell (p := ⟨g, 3, none⟩) (.inl hg) _).setCell (p := ⟨g, 4, none⟩) (.inl hg) _).setCell (p := ⟨g, 5, none⟩) (.inl hg) _).setCell (p := ⟨g, 6, none⟩) (.inl hg) _).setCell (p := ⟨g, 7, none⟩) (.inl hg) _).setCell (p := ⟨g, 8, none⟩) (.inl hg) _
end Go.Proofs.Ytkghoodhgihokaa.Msg
