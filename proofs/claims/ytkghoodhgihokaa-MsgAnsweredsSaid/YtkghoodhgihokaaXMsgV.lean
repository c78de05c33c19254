/- XMsgU, XMsgV. -/
import Derived.Test.YtkghoodhgihokaaXMsgT
import Derived.Test.YtkghoodhgihokaaXMsgS
import Derived.Test.YtkghoodhgihokaaXMsgN
import Derived.Lib.OthersKept
import Derived.Laws.RangeAny
namespace Go.Proofs.Ytkghoodhgihokaa.Msg
open Go.RowKit Go.Lib Go.Proofs.YtkghoodhgihokaaW.PrintWords Go.Proofs.YtkghoodhgihokaaW.PrintLast Go.Proofs.YtkghoodhgihokaaW.PrintMore
set_option linter.unusedVariables false
set_option linter.unusedSimpArgs false
/-- A letter read: the request, what is left, was it short? -/
def ltrR (c : Nat) (st : Rq × List Int × Bool) : Rq × List Int × Bool :=
  if c = 112 then ({ st.1 with path := (readT st.2.1 st.2.2).1 }, (readT st.2.1 st.2.2).2)
  else if c = 116 then ({ st.1 with to_ := (readT st.2.1 st.2.2).1 }, (readT st.2.1 st.2.2).2)
  else if c = 104 then ({ st.1 with how := (readN 1 st.2.1 st.2.2).1 }, (readN 1 st.2.1 st.2.2).2)
  else if c = 110 then ({ st.1 with handle := (readN 4 st.2.1 st.2.2).1 }, (readN 4 st.2.1 st.2.2).2)
  else if c = 97 then ({ st.1 with at_ := (readN 4 st.2.1 st.2.2).1 }, (readN 4 st.2.1 st.2.2).2)
  else if c = 99 then ({ st.1 with count := (readN 2 st.2.1 st.2.2).1 }, (readN 2 st.2.1 st.2.2).2)
  else ({ st.1 with data := bytesOf (readT st.2.1 st.2.2).1 }, (readT st.2.1 st.2.2).2)
/-- The letters of a kind read. -/
def ltrsR (l : List Nat) (st : Rq × List Int × Bool) : Rq × List Int × Bool := l.foldl (fun st c => ltrR c st) st
theorem ltrsR_snoc (l : List Nat) (c : Nat) (st : Rq × List Int × Bool) : ltrsR (l ++ [c]) st = ltrR c (ltrsR l st) := by unfold ltrsR; rw [List.foldl_append]; rfl
/-- What the reference's MsgAsked answers. -/
def refAskedF (l : List Int) : Rq × Int :=
  if (readN 4 (readN 1 l false).2.1 (readN 1 l false).2.2).2.2 = true then (zeroQ, 5)
  else if ¬ (1 ≤ (readN 1 l false).1 ∧ (readN 1 l false).1 ≤ 10) then (zeroQ, 3)
  else if (ltrsR (namesK (readN 1 l false).1) ({ zeroQ with kind := (readN 1 l false).1, mark := (readN 4 (readN 1 l false).2.1 (readN 1 l false).2.2).1 }, (readN 4 (readN 1 l false).2.1 (readN 1 l false).2.2).2)).2.2 = true then (zeroQ, 5)
  else if 0 < (ltrsR (namesK (readN 1 l false).1) ({ zeroQ with kind := (readN 1 l false).1, mark := (readN 4 (readN 1 l false).2.1 (readN 1 l false).2.2).1 }, (readN 4 (readN 1 l false).2.1 (readN 1 l false).2.2).2)).2.1.length then (zeroQ, 4)
  else if faultF (ltrsR (namesK (readN 1 l false).1) ({ zeroQ with kind := (readN 1 l false).1, mark := (readN 4 (readN 1 l false).2.1 (readN 1 l false).2.2).1 }, (readN 4 (readN 1 l false).2.1 (readN 1 l false).2.2).2)).1 ≠ 0 then (zeroQ, 4)
  else ((ltrsR (namesK (readN 1 l false).1) ({ zeroQ with kind := (readN 1 l false).1, mark := (readN 4 (readN 1 l false).2.1 (readN 1 l false).2.2).1 }, (readN 4 (readN 1 l false).2.1 (readN 1 l false).2.2).2)).1, 0)
/-- The blocks of a reading request: the reader, the request, its result, the letters' iterator. -/
def SB (g b1 b0 b9 : Nat) (k : Nat) : Prop := k = g ∨ k = b1 ∨ k = b0 ∨ k = b9
/-- Distinct blocks, none of them there before. -/
structure Dist (w0 : World) (g b1 b0 b9 : Nat) : Prop where
  e1 : g ≠ b1
  e2 : g ≠ b0
  e3 : g ≠ b9
  e4 : b1 ≠ b0
  e5 : b1 ≠ b9
  e6 : b0 ≠ b9
  l1 : w0.heap.size ≤ g
  l2 : w0.heap.size ≤ b1
  l3 : w0.heap.size ≤ b0
  l4 : w0.heap.size ≤ b9
/-- A request that is being read. -/
inductive AIn (w0 : World) (g b1 b0 b9 : Nat) (s : ByteArray) (i : Nat) (q : Rq) (l : List Int) (sh : Bool) (w : World) : Prop
  | mk (A : Option Addr) (c : Nat) (hr : Rdr w0 g l sh w) (hq : w.heap[b1]? = some (.cells (q.at A c).cells 29 (0, 0))) (hc : q.data.length ≤ c) (hdl : q.data.length ≤ 140737488351232) (hd : ∀ W', Kept w W' (SB g b1 b0 b9) → Kd.C (Kd.int .u8) W' A q.data.length q.data)
      (h0 : w.heap[b0]? = some (.cells #[.int .i64 0, .int .i64 0, .string ⟨#[]⟩, .string ⟨#[]⟩, .int .i64 0, .int .i64 0, .int .i64 0, .int .i64 0, .slice none 0 0] 29 (0, 0))) (h9 : w.heap[b9]? = some (.stringIter s i)) (hb : Below w0.heap.size w0 w)
theorem AIn.iter {w0 : World} {g b1 b0 b9 : Nat} {s : ByteArray} {i j : Nat} {q : Rq} {l : List Int} {sh : Bool} {w : World} (hd : Dist w0 g b1 b0 b9) (h : AIn w0 g b1 b0 b9 s i q l sh w) : AIn w0 g b1 b0 b9 s j q l sh (w.iterAt b9 s j) := by
  obtain ⟨A, c, ⟨A1, c1, r1, r2, r3, r4, r5⟩, hq, hc, hdl, hdd, h0, h9, hb⟩ := h
  have hk : Kept w (w.iterAt b9 s j) (SB g b1 b0 b9) := ⟨Nat.le_of_eq (Lib.iterAt_size _ _ _ _).symm, fun k hk hn => Lib.iterAt_other _ _ _ _ _ (fun e => hn (.inr (.inr (.inr e))))⟩
  exact .mk A c (.mk A1 c1 ((Lib.iterAt_other _ _ _ _ _ hd.e3).trans r1) r2 r3 r4 r5) ((Lib.iterAt_other _ _ _ _ _ hd.e5).trans hq) hc hdl (Kd.C_kept_step hdd hk) ((Lib.iterAt_other _ _ _ _ _ hd.e6).trans h0) (Lib.iterAt_heap _ _ _ _ _ h9) (Lib.below_iterAt hb hd.l4 s j)
theorem AIn.read {w0 : World} {g b1 b0 b9 : Nat} {s : ByteArray} {i : Nat} {q : Rq} {l l' : List Int} {sh sh' : Bool} {w w' : World} {v : Value} {e : Ending} (hd : Dist w0 g b1 b0 b9) (h : AIn w0 g b1 b0 b9 s i q l sh w) (hn : NPost w0 w g v l' sh' e w') : AIn w0 g b1 b0 b9 s i q l' sh' w' := by
  obtain ⟨A, c, _, hq, hc, hdl, hdd, h0, h9, hb⟩ := h
  obtain ⟨_, hr, hb', hk⟩ := hn
  exact .mk A c hr (blk_kept hq hk hd.e1.symm) hc hdl (Kd.C_kept_step hdd (hk.mono fun k e => .inl e)) (blk_kept h0 hk hd.e2.symm) (blk_kept h9 hk hd.e3.symm) hb'
theorem AIn.set {w0 : World} {g b1 b0 b9 : Nat} {s : ByteArray} {i : Nat} {q q' : Rq} {l : List Int} {sh : Bool} {w : World} (hd : Dist w0 g b1 b0 b9) (h : AIn w0 g b1 b0 b9 s i q l sh w) (o : Nat) (u : Value) (hc' : ∀ A c, (q.at A c).cells.setIfInBounds o u = (q'.at A c).cells) (he : q'.data = q.data) : AIn w0 g b1 b0 b9 s i q' l sh (w.setCell ⟨b1, o, none⟩ u) := by
  obtain ⟨A, c, ⟨A1, c1, r1, r2, r3, r4, r5⟩, hq, hc, hdl, hdd, h0, h9, hb⟩ := h
  have hk : Kept w (w.setCell ⟨b1, o, none⟩ u) (SB g b1 b0 b9) := (Kept.refl w _).setCell (p := ⟨b1, o, none⟩) (.inl (.inr (.inl rfl))) u
  have hq' := blk_set hq o u
  rw [hc'] at hq'
  exact .mk A c (.mk A1 c1 ((Below.heap_setCell _ _ _ _ hd.e1).trans r1) r2 r3 r4 r5) hq' (by rw [he]; exact hc) (by rw [he]; exact hdl) (by rw [he]; exact Kd.C_kept_step hdd hk) ((Below.heap_setCell _ _ _ _ hd.e4.symm).trans h0) ((Below.heap_setCell _ _ _ _ hd.e5.symm).trans h9) (hb.setCell (p := ⟨b1, o, none⟩) hd.l2 u)
theorem AIn.data {w0 : World} {g b1 b0 b9 : Nat} {s : ByteArray} {i : Nat} {q : Rq} {l : List Int} {sh : Bool} {w : World} (hd : Dist w0 g b1 b0 b9) (h : AIn w0 g b1 b0 b9 s i q l sh w) (t : ByteArray) (ht : t.size ≤ 140737488351232) :
    AIn w0 g b1 b0 b9 s i { q with data := bytesOf t } l sh ((Lib.bytesWorld w 5 t).setCell ⟨b1, 8, none⟩ (.slice (some ⟨w.heap.size, 0, none⟩) t.size (grownCap w t.size 0 5))) := by
  obtain ⟨A, c, ⟨A1, c1, r1, r2, r3, r4, r5⟩, hq, hc, hdl, hdd, h0, h9, hb⟩ := h
  have hB := bytes_below (Below.refl w.heap.size w) (Nat.le_refl _) 5 t
  have hlen : (bytesOf t).length = t.size := bytesOf_length t
  have hq1 := (hB.block _ (blk_ltn hq)).trans hq
  have hq' := blk_set hq1 8 (.slice (some ⟨w.heap.size, 0, none⟩) t.size (grownCap w t.size 0 5))
  have hrd := bytes_reads w 5 t (by omega)
  have hcap : t.size ≤ grownCap w t.size 0 5 := grownCap_ge w t.size 0 5
  have l1 := blk_ltn r1
  have l2 := blk_ltn hq
  have l3 := blk_ltn h0
  have l4 := blk_ltn h9
  refine .mk (some ⟨w.heap.size, 0, none⟩) (grownCap w t.size 0 5) (.mk A1 c1 ((Below.heap_setCell _ _ _ _ hd.e1).trans ((hB.block _ l1).trans r1)) r2 r3 r4 r5) ?_ (by show (bytesOf t).length ≤ _; rw [hlen]; exact hcap) (by show (bytesOf t).length ≤ _; rw [hlen]; exact ht) ?_ ((Below.heap_setCell _ _ _ _ hd.e4.symm).trans ((hB.block _ l3).trans h0)) ((Below.heap_setCell _ _ _ _ hd.e5.symm).trans ((hB.block _ l4).trans h9)) ((hb.trans (hB.mono hb.size)).setCell (p := ⟨b1, 8, none⟩) hd.l2 _)
  · rw [hq']
    show some (Obj.cells _ 29 (0, 0)) = some (Obj.cells _ 29 (0, 0))
    rw [show ((({ q with data := bytesOf t } : Rq).at (some ⟨w.heap.size, 0, none⟩) (grownCap w t.size 0 5)).cells : Array Value) = #[.int .i64 q.kind, .int .i64 q.mark, .string q.path, .string q.to_, .int .i64 q.how, .int .i64 q.handle, .int .i64 q.at_, .int .i64 q.count, .slice (some ⟨w.heap.size, 0, none⟩) (bytesOf t).length (grownCap w t.size 0 5)] from rfl, hlen]
    rfl
  · intro W' hk'
    have hk2 : Kept (Lib.bytesWorld w 5 t) W' (SB g b1 b0 b9) := ((Kept.refl _ _).setCell (p := ⟨b1, 8, none⟩) (.inl (.inr (.inl rfl))) _).then_ hk' (fun k h => .inl h)
    show Kd.C (Kd.int .u8) W' _ (bytesOf t).length (bytesOf t)
    rw [hlen]
    exact Kd.C_of_reads (h1 := fun _ => rfl) (reads_kept hrd hk2 (fun ad e => by cases e; unfold SB; show ¬ (w.heap.size = g ∨ w.heap.size = b1 ∨ w.heap.size = b0 ∨ w.heap.size = b9); omega))
/-- The letters of a kind. -/
def nmS (k : Int) : ByteArray := ⟨((namesK k).map Nat.toUInt8).toArray⟩
theorem nms_is (k : Int) (h : 1 ≤ k ∧ k ≤ 10) : packthreadref_msgNames.f k = some (nmS k) := by
  have : k = 1 ∨ k = 2 ∨ k = 3 ∨ k = 4 ∨ k = 5 ∨ k = 6 ∨ k = 7 ∨ k = 8 ∨ k = 9 ∨ k = 10 := by omega
  rcases this with rfl | rfl | rfl | rfl | rfl | rfl | rfl | rfl | rfl | rfl <;> rfl
def isL (c : Nat) : Prop := c = 112 ∨ c = 116 ∨ c = 104 ∨ c = 110 ∨ c = 97 ∨ c = 99 ∨ c = 100
theorem names_l (k : Int) : (∀ c ∈ namesK k, isL c) ∧ (namesK k).length ≤ 3 := by
  unfold namesK
  repeat' split
  all_goals exact ⟨by intro c hc; unfold isL; (first | (cases hc; done) | (simp at hc; omega)), by simp⟩
theorem nms_size (k : Int) : (nmS k).size = (namesK k).length := by show (((namesK k).map Nat.toUInt8).toArray).size = _; rw [List.size_toArray, List.length_map]
theorem nms_at (k : Int) (i : Nat) (h : i < (nmS k).size) (h' : i < (namesK k).length) : ((nmS k)[i]'h).toNat = (namesK k)[i] := by
  have e : ∀ (l : List Nat) (h : i < (l.map Nat.toUInt8).toArray.size) (h' : i < l.length), ((l.map Nat.toUInt8).toArray)[i]'h = (l[i]'h').toUInt8 := fun l h h' => by simp
  have e : (nmS k)[i]'h = ((namesK k)[i]).toUInt8 := e _ _ h'
  rw [e]
  have := (names_l k).1 _ (List.getElem_mem h')
  unfold isL at this
  rcases this with h | h | h | h | h | h | h <;> rw [h] <;> rfl
theorem rdr_below {w0 w w' : World} {g : Nat} {l : List Int} {sh : Bool} (h : Rdr w0 g l sh w) (hb : Below w.heap.size w w') : Rdr w0 g l sh w' := by
  obtain ⟨A, c, hg, hc, hr, hb', hl⟩ := h
  exact .mk A c ((hb.block _ (blk_ltn hg)).trans hg) hc hr hb' hl
theorem str_size (l : List Int) : (strOfNums l).size = l.length := by show ((l.map fun n => UInt8.ofNat n.toNat).toArray).size = l.length; rw [List.size_toArray, List.length_map]
theorem readT_size (l : List Int) (sh : Bool) : (readT l sh).1.size ≤ l.length := by
  unfold readT
  by_cases h : (readN 2 l sh).2.1.length < (readN 2 l sh).1.toNat
  · rw [if_pos h]; exact Nat.zero_le _
  · rw [if_neg h]
    show (strOfNums _).size ≤ _
    rw [str_size, List.length_take]
    have : (readN 2 l sh).2.1.length ≤ l.length := by
      unfold readN
      split
      · exact Nat.zero_le _
      · show (l.drop 2).length ≤ _; rw [List.length_drop]; omega
    omega
theorem AIn.slot {w0 : World} {g b1 b0 b9 : Nat} {s : ByteArray} {i : Nat} {q : Rq} {l : List Int} {sh : Bool} {w : World} (h : AIn w0 g b1 b0 b9 s i q l sh w) (o : Nat) (ho : o < 9) : (∃ u, w.cell? ⟨b1, o, none⟩ = some u) ∧ w.frozen? ⟨b1, o, none⟩ = false := by
  obtain ⟨A, c, _, hq, _⟩ := h
  exact ⟨⟨_, (blk_cell hq o).trans (Array.getElem?_eq_getElem (show o < (q.at A c).cells.size from ho))⟩, blk_frozen hq o⟩
theorem AIn.slotB {w0 : World} {g b1 b0 b9 : Nat} {s : ByteArray} {i : Nat} {q : Rq} {l : List Int} {sh : Bool} {w : World} (h : AIn w0 g b1 b0 b9 s i q l sh w) (t : ByteArray) (o : Nat) (ho : o < 9) : (∃ u, (Lib.bytesWorld w 5 t).cell? ⟨b1, o, none⟩ = some u) ∧ (Lib.bytesWorld w 5 t).frozen? ⟨b1, o, none⟩ = false := by
  obtain ⟨A, c, _, hq, _⟩ := h
  have hq' := ((bytes_below (Below.refl w.heap.size w) (Nat.le_refl _) 5 t).block _ (blk_ltn hq)).trans hq
  exact ⟨⟨_, (blk_cell hq' o).trans (Array.getElem?_eq_getElem (show o < (q.at A c).cells.size from ho))⟩, blk_frozen hq' o⟩
theorem kept_nine {S : Nat → Prop} {w W : World} {g : Nat} {c0 c1 c2 c3 c4 c5 c6 c7 c8 : Value} (h : Kept w W S) (hg : S g) :
    Kept w (((((((((W.setCell ⟨g, 0, none⟩ c0).setCell ⟨g, 1, none⟩ c1).setCell ⟨g, 2, none⟩ c2).setCell ⟨g, 3, none⟩ c3).setCell ⟨g, 4, none⟩ c4).setCell ⟨g, 5, none⟩ c5).setCell ⟨g, 6, none⟩ c6).setCell ⟨g, 7, none⟩ c7).setCell ⟨g, 8, none⟩ c8) S :=
  ((((((((h.setCell (p := ⟨g, 0, none⟩) (.inl hg) _).setCell (p := ⟨g, 1, none⟩) (.inl hg) _).setCell (p := ⟨g, 2, none⟩) (.inl hg) _).setCell (p := ⟨g, 3, none⟩) (.inl hg) _).setCell (p := ⟨g, 4, none⟩) (.inl hg) _).setCell (p := ⟨g, 5, none⟩) (.inl hg) _).setCell (p := ⟨g, 6, none⟩) (.inl hg) _).setCell (p := ⟨g, 7, none⟩) (.inl hg) _).setCell (p := ⟨g, 8, none⟩) (.inl hg) _
end Go.Proofs.Ytkghoodhgihokaa.Msg
namespace Go.Proofs.Ytkghoodhgihokaa.Msg
open Go.RowKit Go.Lib Go.Proofs.YtkghoodhgihokaaW.PrintWords Go.Proofs.YtkghoodhgihokaaW.PrintLast Go.Proofs.YtkghoodhgihokaaW.PrintMore
set_option linter.unusedVariables false
set_option linter.unusedSimpArgs false
set_option maxHeartbeats 8000000 in
set_option maxRecDepth 100000 in
theorem refAsked_calls (A : Option Addr) (c : Nat) (l : List Int) (w : World) (hr : Kd.C (Kd.int .u8) w A l.length l) (hc : l.length ≤ c) (hb : ∀ x ∈ l, 0 ≤ x ∧ x ≤ 255) (hl : l.length ≤ 140737488351232) :
    Calls Try.prog 19 #[.slice A l.length c] w fun e w' => APost w (refAskedF l) e w' := by
  have hA : refAskedF l = refAskedF l := rfl
  conv at hA => rhs; unfold refAskedF
  have HB := Aside0.mk (((Below.refl _ w).alloc (Nat.le_refl _) (.cells #[.int .i64 0, .int .i64 0, .string ⟨#[]⟩, .string ⟨#[]⟩, .int .i64 0, .int .i64 0, .int .i64 0, .int .i64 0, .slice none 0 0] 29)).alloc (by simp) (.cells #[.slice A l.length c, .bool false] 88))
  obtain ⟨W1, hW1⟩ : ∃ W, (w.alloc (.cells #[.int .i64 0, .int .i64 0, .string ⟨#[]⟩, .string ⟨#[]⟩, .int .i64 0, .int .i64 0, .int .i64 0, .int .i64 0, .slice none 0 0] 29)).alloc (.cells #[.slice A l.length c, .bool false] 88) = W := ⟨_, rfl⟩
  have hn0 : W1.heap[w.heap.size]? = some (.cells #[.int .i64 0, .int .i64 0, .string ⟨#[]⟩, .string ⟨#[]⟩, .int .i64 0, .int .i64 0, .int .i64 0, .int .i64 0, .slice none 0 0] 29 (0, 0)) := by rw [← hW1]; exact ((Below.refl _ (w.alloc (.cells #[.int .i64 0, .int .i64 0, .string ⟨#[]⟩, .string ⟨#[]⟩, .int .i64 0, .int .i64 0, .int .i64 0, .int .i64 0, .slice none 0 0] 29))).alloc (Nat.le_refl _) (.cells #[.slice A l.length c, .bool false] 88)).block _ (by simp) |>.trans (heap_alloc_new w _)
  have hn1 : W1.heap[w.heap.size + 1]? = some (.cells #[.slice A l.length c, .bool false] 88 (0, 0)) := by
    rw [← hW1]
    have := heap_alloc_new (w.alloc (.cells #[.int .i64 0, .int .i64 0, .string ⟨#[]⟩, .string ⟨#[]⟩, .int .i64 0, .int .i64 0, .int .i64 0, .int .i64 0, .slice none 0 0] 29)) (.cells #[.slice A l.length c, .bool false] 88)
    rw [show (w.alloc (.cells #[.int .i64 0, .int .i64 0, .string ⟨#[]⟩, .string ⟨#[]⟩, .int .i64 0, .int .i64 0, .int .i64 0, .int .i64 0, .slice none 0 0] 29)).heap.size = w.heap.size + 1 by simp] at this
    exact this
  rw [hW1] at HB
  obtain ⟨b0, hb0⟩ : ∃ b, w.heap.size = b := ⟨_, rfl⟩
  obtain ⟨g, hg⟩ : ∃ b, b0 + 1 = b := ⟨_, rfl⟩
  have HNE := Aside0.mk (show g ≠ b0 by omega)
  have HGE0 := Aside0.mk (show w.heap.size ≤ b0 by omega)
  have HGE := Aside0.mk (show w.heap.size ≤ g by omega)
  rw [hb0] at hn0 hn1
  rw [hg] at hn1
  have H01 := Aside0.mk hn0
  have HR1 := Aside0.mk (show Rdr w g l false W1 from .mk A c hn1 hc hr hb hl)
  obtain ⟨k, hk⟩ : ∃ k, (readN 1 l false).1 = k := ⟨_, rfl⟩
  obtain ⟨l1, hl1⟩ : ∃ k, (readN 1 l false).2.1 = k := ⟨_, rfl⟩
  obtain ⟨s1, hs1⟩ : ∃ k, (readN 1 l false).2.2 = k := ⟨_, rfl⟩
  obtain ⟨m, hm⟩ : ∃ k, (readN 4 l1 s1).1 = k := ⟨_, rfl⟩
  obtain ⟨l2, hl2⟩ : ∃ k, (readN 4 l1 s1).2.1 = k := ⟨_, rfl⟩
  obtain ⟨s2, hs2⟩ : ∃ k, (readN 4 l1 s1).2.2 = k := ⟨_, rfl⟩
  have HN1 := Aside0.mk (show ∀ W : World, Below w.heap.size w W → Rdr w g l false W → Calls Try.prog 51 #[.pointer (some ⟨g, 0, none⟩), .int .i64 1] W fun e w' => NPost w W g (.int .i64 (readN 1 l false).1) (readN 1 l false).2.1 (readN 1 l false).2.2 e w' from fun W hB hr => num_calls 1 (by omega) w g l false W hB HGE.out hr)
  have HN4 := Aside0.mk (show ∀ W : World, Below w.heap.size w W → Rdr w g l1 s1 W → Calls Try.prog 51 #[.pointer (some ⟨g, 0, none⟩), .int .i64 4] W fun e w' => NPost w W g (.int .i64 (readN 4 l1 s1).1) (readN 4 l1 s1).2.1 (readN 4 l1 s1).2.2 e w' from fun W hB hr => num_calls 4 (by omega) w g l1 s1 W hB HGE.out hr)
  have hpair : (readN 4 l1 s1).2 = (l2, s2) := by rw [← hl2, ← hs2]
  rw [hk, hl1, hs1] at HN1 hA
  rw [hm, hl2, hs2] at HN4
  rw [hm, hs2, hpair] at hA
  have HAA := Aside0.mk hA
  clear hn0 hn1 hr hc hb hl hk hl1 hs1 hm hl2 hs2 hpair hA
  go_enter Try.func19, Try.ntmps19
  go_upto_region 2 with fail
  (try rw [hW1])
  (try rw [hb0])
  (try rw [hg])
  clear hW1 hg
  go_upto_region 3 with (first
    | (go_at_call 51; with_reducible refine (HN1.out _ HB.out HR1.out).mono ?_; rintro e w2 hp2; obtain ⟨rfl, hr2, hb2, hk2⟩ := hp2; have HR2 := Aside0.mk hr2; have HB2 := Aside0.mk hb2; have H02 := Aside0.mk (blk_kept H01.out hk2 HNE.out.symm); clear hr2 hb2 hk2)
    | (go_at_call 51; with_reducible refine (HN4.out _ HB2.out HR2.out).mono ?_; rintro e w3 hp3; obtain ⟨rfl, hr3, hb3, hk3⟩ := hp3; have HR3 := Aside0.mk hr3; have HB3 := Aside0.mk hb3; have H03 := Aside0.mk (blk_kept H02.out hk3 HNE.out.symm); clear hr3 hb3 hk3))
  obtain ⟨q1, hq1⟩ : ∃ q : Rq, ({ zeroQ with kind := k, mark := m } : Rq) = q := ⟨_, rfl⟩
  have hn4 := heap_alloc_new w3 (.cells #[.int .i64 k, .int .i64 m, .string ⟨#[]⟩, .string ⟨#[]⟩, .int .i64 0, .int .i64 0, .int .i64 0, .int .i64 0, .slice none 0 0] 29)
  have hB4 := (Below.refl _ w3).alloc (Nat.le_refl _) (.cells #[.int .i64 k, .int .i64 m, .string ⟨#[]⟩, .string ⟨#[]⟩, .int .i64 0, .int .i64 0, .int .i64 0, .int .i64 0, .slice none 0 0] 29)
  obtain ⟨W4, hW4⟩ : ∃ W, w3.alloc (.cells #[.int .i64 k, .int .i64 m, .string ⟨#[]⟩, .string ⟨#[]⟩, .int .i64 0, .int .i64 0, .int .i64 0, .int .i64 0, .slice none 0 0] 29) = W := ⟨_, rfl⟩
  obtain ⟨b1, hb1⟩ : ∃ b, w3.heap.size = b := ⟨_, rfl⟩
  rw [hW4] at hn4 hB4 ⊢
  have hlt0 := blk_ltn H03.out
  have hltg : g < w3.heap.size := by obtain ⟨_, _, h, _⟩ := HR3.out; exact blk_ltn h
  have HB4 := Aside0.mk (HB3.out.trans (hB4.mono HB3.out.size))
  have H04 := Aside0.mk ((hB4.block _ hlt0).trans H03.out)
  have HR4 := Aside0.mk (rdr_below HR3.out hB4)
  rw [hb1] at hn4 hlt0 hltg ⊢
  have HQ4 := Aside0.mk hn4
  have HD1 := Aside0.mk (show g < b1 ∧ b0 < b1 from ⟨hltg, hlt0⟩)
  rw [hq1] at HAA
  have hk4 : W4.cell? ⟨b1, 0, none⟩ = some (.int .i64 k) := (blk_cell hn4 0).trans rfl
  have hsc : W4.cell? ⟨g, 1, none⟩ = some (.bool s2) := by obtain ⟨A', c', h, _⟩ := HR4.out; exact (blk_cell h 1).trans rfl
  have HQ1 := Aside0.mk hq1
  clear hn4 hB4 hW4 hb1 hlt0 hltg hq1
  cases s2 with
  | true =>
    have HA := Aside0.mk (show refAskedF l = (zeroQ, 5) from HAA.out.trans (if_pos rfl))
    have hz0 := (blk_cell H04.out 0).trans rfl
    have hf0 := blk_frozen H04.out 0
    have hz1 := (blk_cell H04.out 1).trans rfl
    have hf1 := blk_frozen H04.out 1
    have hz2 := (blk_cell H04.out 2).trans rfl
    have hf2 := blk_frozen H04.out 2
    have hz3 := (blk_cell H04.out 3).trans rfl
    have hf3 := blk_frozen H04.out 3
    have hz4 := (blk_cell H04.out 4).trans rfl
    have hf4 := blk_frozen H04.out 4
    have hz5 := (blk_cell H04.out 5).trans rfl
    have hf5 := blk_frozen H04.out 5
    have hz6 := (blk_cell H04.out 6).trans rfl
    have hf6 := blk_frozen H04.out 6
    have hz7 := (blk_cell H04.out 7).trans rfl
    have hf7 := blk_frozen H04.out 7
    have hz8 := (blk_cell H04.out 8).trans rfl
    have hf8 := blk_frozen H04.out 8
    go_wp2
    try simp only [Exit.inBlock, Exit.then]
    refine bodyPost_ret (results_ct rfl _ _ b0 29 _ (0, 0) _ rfl (set_nine H04.out) Try.underlying29 rfl (by kernel_rfl)) rfl ?_
    rw [HA.out]
    exact APost.zero (below_nine HB4.out HGE0.out)
  | false =>
  have hA := HAA.out.trans (if_neg (by decide))
  by_cases hk : 1 ≤ k ∧ k ≤ 10
  case neg =>
    have HA := Aside0.mk (show refAskedF l = (zeroQ, 3) from hA.trans (if_pos hk))
    have hz0 := (blk_cell H04.out 0).trans rfl
    have hf0 := blk_frozen H04.out 0
    have hz1 := (blk_cell H04.out 1).trans rfl
    have hf1 := blk_frozen H04.out 1
    have hz2 := (blk_cell H04.out 2).trans rfl
    have hf2 := blk_frozen H04.out 2
    have hz3 := (blk_cell H04.out 3).trans rfl
    have hf3 := blk_frozen H04.out 3
    have hz4 := (blk_cell H04.out 4).trans rfl
    have hf4 := blk_frozen H04.out 4
    have hz5 := (blk_cell H04.out 5).trans rfl
    have hf5 := blk_frozen H04.out 5
    have hz6 := (blk_cell H04.out 6).trans rfl
    have hf6 := blk_frozen H04.out 6
    have hz7 := (blk_cell H04.out 7).trans rfl
    have hf7 := blk_frozen H04.out 7
    have hz8 := (blk_cell H04.out 8).trans rfl
    have hf8 := blk_frozen H04.out 8
    clear hA
    by_cases h1 : k < 1
    · have k1 : decide (k < 1) = true := decide_eq_true h1
      clear hk h1
      go_wp2
      try simp only [Exit.inBlock, Exit.then]
      refine bodyPost_ret (results_ct rfl _ _ b0 29 _ (0, 0) _ rfl (set_nine H04.out) Try.underlying29 rfl (by kernel_rfl)) rfl ?_
      rw [HA.out]
      exact APost.zero (below_nine HB4.out HGE0.out)
    · have k1 : decide (k < 1) = false := decide_eq_false h1
      have k2 : decide (10 < k) = true := decide_eq_true (by omega)
      clear hk h1
      go_wp2
      try simp only [Exit.inBlock, Exit.then]
      refine bodyPost_ret (results_ct rfl _ _ b0 29 _ (0, 0) _ rfl (set_nine H04.out) Try.underlying29 rfl (by kernel_rfl)) rfl ?_
      rw [HA.out]
      exact APost.zero (below_nine HB4.out HGE0.out)
  have k1 : decide (k < 1) = false := decide_eq_false (by omega)
  have k2 : decide (10 < k) = false := decide_eq_false (by omega)
  have HA2 := Aside0.mk (hA.trans (if_neg (not_not_intro hk)))
  have HNM := Aside0.mk (nms_is k hk)
  clear hA HAA hk
  obtain ⟨nl, hnl⟩ : ∃ l, namesK k = l := ⟨_, rfl⟩
  obtain ⟨s, hs⟩ : ∃ s, nmS k = s := ⟨_, rfl⟩
  have HNL := Aside0.mk (names_l k)
  have hns := nms_size k
  have HNA := Aside0.mk (nms_at k)
  rw [hnl] at HNL HNA hns HA2
  rw [hs] at HNM HNA hns
  have HNS := Aside0.mk hns
  clear hnl hs hns
  go_wp2_with (go_at_call 48; (with_reducible refine (packthreadref_msgNames.calls k s _ HNM.out).mono ?_); rintro e w5 ⟨rfl, hb5⟩; have HB5 := Aside0.mk (HB4.out.trans (hb5.mono HB4.out.size)); have HR5 := Aside0.mk (rdr_below HR4.out hb5); have HQ5 := Aside0.mk ((hb5.block _ (blk_ltn HQ4.out)).trans HQ4.out); have H05 := Aside0.mk ((hb5.block _ (blk_ltn H04.out)).trans H04.out); clear hb5)
  obtain ⟨b9, hb9⟩ : ∃ b, w5.heap.size = b := ⟨_, rfl⟩
  have hk9 := w5.iter_heap s 0
  have hB9 : Below w5.heap.size w5 (w5.iter s 0) := (Below.refl _ w5).alloc (Nat.le_refl _) _
  have hl1 := blk_ltn HQ5.out
  have hl0 := blk_ltn H05.out
  have hlg : g < w5.heap.size := by obtain ⟨_, _, h, _⟩ := HR5.out; exact blk_ltn h
  have hge9 := HB5.out.size
  obtain ⟨W6, hW6⟩ : ∃ W, w5.iter s 0 = W := ⟨_, rfl⟩
  rw [hW6] at hk9 hB9 ⊢
  have hAI : AIn w g b1 b0 w5.heap.size s 0 q1 l2 false W6 := .mk none 0 (rdr_below HR5.out hB9) (by rw [(hB9.block _ hl1).trans HQ5.out, ← HQ1.out]; rfl) (by rw [← HQ1.out]; exact Nat.le_refl _) (by rw [← HQ1.out]; exact Nat.zero_le _) (by rw [← HQ1.out]; exact Kd.C_kept_nil) ((hB9.block _ hl0).trans H05.out) hk9 (HB5.out.trans (hB9.mono HB5.out.size))
  rw [hb9] at hAI hl1 hl0 hlg hge9 ⊢
  have HAI := Aside0.mk hAI
  have HD := Aside0.mk (show Dist w g b1 b0 b9 from ⟨by have := HD1.out; omega, HNE.out, by omega, by have := HD1.out; omega, by omega, by omega, HGE.out, by have := HD1.out; have := HGE.out; omega, HGE0.out, hge9⟩)
  clear hk9 hB9 hl1 hl0 hlg hge9 hW6 hb9 hAI k1 k2 hk4 hsc
  go_loopg [7] nl.length (fun gk _ wx => ∃ (i : Nat) (q : Rq) (li : List Int) (sh : Bool), i + gk = nl.length ∧ Aside0 (ltrsR (nl.take i) (q1, l2, false) = (q, li, sh)) ∧ Aside0 (AIn w g b1 b0 b9 s i q li sh wx))
  case atStart => exact ⟨0, q1, l2, false, by omega, ⟨rfl⟩, HAI⟩
  case round =>
    obtain ⟨i, q, li, sh, hig, HST, HAI⟩ := hrel
    cases gk with
    | zero =>
      obtain rfl : i = nl.length := by omega
      have hst := HST.out
      rw [List.take_length] at hst
      rw [hst] at HA2
      obtain ⟨A7, c7, hr7, hq7, hc7, hdl7, hd7, h07, h97, hb7⟩ := HAI.out
      have hnx := fun ty => Lib.run_next_end_at (P := Try.prog) wr b9 s nl.length ty h97 (by rw [HNS.out]; exact Nat.lt_irrefl _)
      obtain ⟨A8, c8, hg8, hc8, hr8, hb8, hl8⟩ := hr7
      have hsh : wr.cell? ⟨g, 1, none⟩ = some (.bool sh) := (blk_cell hg8 1).trans rfl
      have hsl : wr.cell? ⟨g, 0, none⟩ = some (.slice A8 li.length c8) := (blk_cell hg8 0).trans rfl
      have HQ7 := Aside0.mk hq7
      have HC7 := Aside0.mk hc7
      have HDL7 := Aside0.mk hdl7
      have HD7 := Aside0.mk hd7
      have H07 := Aside0.mk h07
      have HB7 := Aside0.mk hb7
      clear hst hg8 hc8 hr8 hb8 hl8 hq7 hc7 hdl7 hd7 h07 h97 hb7
      cases sh with
      | true =>
        have HA := Aside0.mk (show refAskedF l = (zeroQ, 5) from HA2.out.trans (if_pos rfl))
        have hz0 := (blk_cell H07.out 0).trans rfl
        have hf0 := blk_frozen H07.out 0
        have hz1 := (blk_cell H07.out 1).trans rfl
        have hf1 := blk_frozen H07.out 1
        have hz2 := (blk_cell H07.out 2).trans rfl
        have hf2 := blk_frozen H07.out 2
        have hz3 := (blk_cell H07.out 3).trans rfl
        have hf3 := blk_frozen H07.out 3
        have hz4 := (blk_cell H07.out 4).trans rfl
        have hf4 := blk_frozen H07.out 4
        have hz5 := (blk_cell H07.out 5).trans rfl
        have hf5 := blk_frozen H07.out 5
        have hz6 := (blk_cell H07.out 6).trans rfl
        have hf6 := blk_frozen H07.out 6
        have hz7 := (blk_cell H07.out 7).trans rfl
        have hf7 := blk_frozen H07.out 7
        have hz8 := (blk_cell H07.out 8).trans rfl
        have hf8 := blk_frozen H07.out 8
        go_wp2
        try simp only [Exit.inBlock, Exit.then]
        refine bodyPost_ret (results_ct rfl _ _ b0 29 _ (0, 0) _ rfl (set_nine H07.out) Try.underlying29 rfl (by kernel_rfl)) rfl ?_
        rw [HA.out]
        exact APost.zero (below_nine HB7.out HGE0.out)
      | false =>
        have hA := HA2.out.trans (if_neg (by simp))
        by_cases hli : 0 < li.length
        · have HA := Aside0.mk (show refAskedF l = (zeroQ, 4) from hA.trans (if_pos hli))
          have d2 : decide ((0 : Int) < (li.length : Int)) = true := decide_eq_true (by omega)
          have d2n : decide (0 < li.length) = true := decide_eq_true hli
          clear hA hli
          have hz0 := (blk_cell H07.out 0).trans rfl
          have hf0 := blk_frozen H07.out 0
          have hz1 := (blk_cell H07.out 1).trans rfl
          have hf1 := blk_frozen H07.out 1
          have hz2 := (blk_cell H07.out 2).trans rfl
          have hf2 := blk_frozen H07.out 2
          have hz3 := (blk_cell H07.out 3).trans rfl
          have hf3 := blk_frozen H07.out 3
          have hz4 := (blk_cell H07.out 4).trans rfl
          have hf4 := blk_frozen H07.out 4
          have hz5 := (blk_cell H07.out 5).trans rfl
          have hf5 := blk_frozen H07.out 5
          have hz6 := (blk_cell H07.out 6).trans rfl
          have hf6 := blk_frozen H07.out 6
          have hz7 := (blk_cell H07.out 7).trans rfl
          have hf7 := blk_frozen H07.out 7
          have hz8 := (blk_cell H07.out 8).trans rfl
          have hf8 := blk_frozen H07.out 8
          go_wp2
          try simp only [Exit.inBlock, Exit.then]
          refine bodyPost_ret (results_ct rfl _ _ b0 29 _ (0, 0) _ rfl (set_nine H07.out) Try.underlying29 rfl (by kernel_rfl)) rfl ?_
          rw [HA.out]
          exact APost.zero (below_nine HB7.out HGE0.out)
        have d2 : decide ((0 : Int) < (li.length : Int)) = false := decide_eq_false (by omega)
        have d2n : decide (0 < li.length) = false := decide_eq_false hli
        have hA3 := hA.trans (if_neg hli)
        obtain ⟨z, hz⟩ : ∃ z, faultF q = z := ⟨_, rfl⟩
        have HFC := Aside0.mk (fun W => fault_calls (q.at A7 c7) W HDL7.out)
        have HFE := Aside0.mk (show faultF (q.at A7 c7) = z from hz)
        rw [show faultF ((q, li, false) : Rq × List Int × Bool).1 = z from hz] at hA3
        obtain ⟨hy0, hy1, hy2, hy3, hy4, hy5, hy6, hy7, hy8⟩ := nine_cells HQ7.out
        clear hA hli hz
        by_cases hz : z = 0
        · have HA := Aside0.mk (show refAskedF l = (q, 0) from hA3.trans (if_neg (not_not_intro hz)))
          subst hz
          clear hA3
          go_upto_region 29 with (go_at_call 46; refine (HFC.out _).mono ?_; rintro e w8 ⟨rfl, hb8⟩; have HB8 := Aside0.mk (HB7.out.trans (hb8.mono HB7.out.size)); have H08 := Aside0.mk ((hb8.block _ (blk_ltn H07.out)).trans H07.out); have HQ8 := Aside0.mk ((hb8.block _ (blk_ltn HQ7.out)).trans HQ7.out); have HK8 := Aside0.mk (Kept.of_below hb8 (SB g b1 b0 b9)); rw [HFE.out]; clear hb8)
          clear hy0 hy1 hy2 hy3 hy4 hy5 hy6 hy7 hy8
          obtain ⟨hy0, hy1, hy2, hy3, hy4, hy5, hy6, hy7, hy8⟩ := nine_cells HQ8.out
          have hz0 := (blk_cell H08.out 0).trans rfl
          have hf0 := blk_frozen H08.out 0
          have hz1 := (blk_cell H08.out 1).trans rfl
          have hf1 := blk_frozen H08.out 1
          have hz2 := (blk_cell H08.out 2).trans rfl
          have hf2 := blk_frozen H08.out 2
          have hz3 := (blk_cell H08.out 3).trans rfl
          have hf3 := blk_frozen H08.out 3
          have hz4 := (blk_cell H08.out 4).trans rfl
          have hf4 := blk_frozen H08.out 4
          have hz5 := (blk_cell H08.out 5).trans rfl
          have hf5 := blk_frozen H08.out 5
          have hz6 := (blk_cell H08.out 6).trans rfl
          have hf6 := blk_frozen H08.out 6
          have hz7 := (blk_cell H08.out 7).trans rfl
          have hf7 := blk_frozen H08.out 7
          have hz8 := (blk_cell H08.out 8).trans rfl
          have hf8 := blk_frozen H08.out 8
          go_wp2
          try simp only [Exit.inBlock, Exit.then]
          refine bodyPost_ret (results_ct rfl _ _ b0 29 _ (0, 0) _ rfl (set_nine H08.out) Try.underlying29 rfl (by kernel_rfl)) rfl ?_
          rw [HA.out]
          exact .mk A7 c7 rfl HC7.out (HD7.out _ (kept_nine HK8.out (.inr (.inr (.inl rfl))))) (below_nine HB8.out HGE0.out)
        · have HA := Aside0.mk (show refAskedF l = (zeroQ, 4) from hA3.trans (if_pos hz))
          have ez : (z != 0) = true := bne_iff_ne.2 hz
          have ez2 : (z == 0) = false := beq_eq_false_iff_ne.2 hz
          clear hA3 hz
          go_wp2_with (go_at_call 46; refine (HFC.out _).mono ?_; rintro e w8 ⟨rfl, hb8⟩; have HB8 := Aside0.mk (HB7.out.trans (hb8.mono HB7.out.size)); have H08 := Aside0.mk ((hb8.block _ (blk_ltn H07.out)).trans H07.out); have hz0 := (blk_cell H08.out 0).trans rfl; have hf0 := blk_frozen H08.out 0; have hz1 := (blk_cell H08.out 1).trans rfl; have hf1 := blk_frozen H08.out 1; have hz2 := (blk_cell H08.out 2).trans rfl; have hf2 := blk_frozen H08.out 2; have hz3 := (blk_cell H08.out 3).trans rfl; have hf3 := blk_frozen H08.out 3; have hz4 := (blk_cell H08.out 4).trans rfl; have hf4 := blk_frozen H08.out 4; have hz5 := (blk_cell H08.out 5).trans rfl; have hf5 := blk_frozen H08.out 5; have hz6 := (blk_cell H08.out 6).trans rfl; have hf6 := blk_frozen H08.out 6; have hz7 := (blk_cell H08.out 7).trans rfl; have hf7 := blk_frozen H08.out 7; have hz8 := (blk_cell H08.out 8).trans rfl; have hf8 := blk_frozen H08.out 8; rw [HFE.out]; clear hb8)
          try simp only [Exit.inBlock, Exit.then]
          refine bodyPost_ret (results_ct rfl _ _ b0 29 _ (0, 0) _ rfl (set_nine H08.out) Try.underlying29 rfl (by kernel_rfl)) rfl ?_
          rw [HA.out]
          exact APost.zero (below_nine HB8.out HGE0.out)
    | succ gk =>
      have hi : i < nl.length := by omega
      have his : i < s.size := by rw [HNS.out]; exact hi
      obtain ⟨c, hc⟩ : ∃ c, nl[i] = c := ⟨_, rfl⟩
      have hcl : isL c := by rw [← hc]; exact HNL.out.1 _ (List.getElem_mem hi)
      have hx : (s[i]'his).toNat = c := by rw [HNA.out i his hi, hc]
      have HST2 := Aside0.mk (show ltrsR (nl.take (i + 1)) (q1, l2, false) = ltrR c (q, li, sh) by rw [List.take_succ_eq_append_getElem hi, ltrsR_snoc, HST.out, hc])
      have HIG := Aside0.mk (show i + 1 + gk = nl.length by omega)
      obtain ⟨_, _, _, _, _, _, _, _, h9, _⟩ := HAI.out
      have hnx := fun ty => Lib.run_next_ascii_at (P := Try.prog) wr b9 s i ty h9 his (by rw [hx]; unfold isL at hcl; omega)
      rw [hx] at hnx
      have hai := AIn.iter (j := i + 1) HD.out HAI.out
      generalize wr.iterAt b9 s (i + 1) = W2 at hnx hai
      have HAI2 := Aside0.mk hai
      have HB2 := Aside0.mk (show Below w.heap.size w W2 by obtain ⟨_, _, _, _, _, _, _, _, _, h⟩ := hai; exact h)
      have HR2 := Aside0.mk (show Rdr w g li sh W2 by obtain ⟨_, _, h, _⟩ := hai; exact h)
      have HLI := Aside0.mk (show li.length ≤ 140737488351232 by obtain ⟨_, _, ⟨_, _, _, _, _, _, h⟩, _⟩ := hai; exact h)
      clear hc hx hai h9 HST HAI hi his
      unfold isL at hcl
      rcases hcl with rfl | rfl | rfl | rfl | rfl | rfl | rfl
      · obtain ⟨t, ht⟩ : ∃ t, (readT li sh).1 = t := ⟨_, rfl⟩
        have HTS := Aside0.mk (show t.size ≤ 140737488351232 by rw [← ht]; exact Nat.le_trans (readT_size li sh) HLI.out)
        have HCT := Aside0.mk (show Calls Try.prog 52 #[.pointer (some ⟨g, 0, none⟩)] W2 fun e w' => NPost w W2 g (.string t) (readT li sh).2.1 (readT li sh).2.2 e w' by rw [← ht]; exact rtext_calls w g li sh W2 HB2.out HD.out.l1 HR2.out)
        have HST3 := Aside0.mk (show ltrsR (nl.take (i + 1)) (q1, l2, false) = ({ q with path := t }, (readT li sh).2) by rw [HST2.out, ← ht]; rfl)
        clear ht
        go_wp2_with (go_at_call 52; with_reducible refine HCT.out.mono ?_; rintro e w3 hp3; have HA3 := Aside0.mk (AIn.read HD.out HAI2.out hp3); obtain ⟨rfl, _, _, _⟩ := hp3; obtain ⟨⟨u3, hu3⟩, hf3⟩ := AIn.slot HA3.out 2 (by omega))
        go_roundg gk
        case measure => omega
        case rel => exact ⟨i + 1, _, (readT li sh).2.1, (readT li sh).2.2, HIG.out, HST3, ⟨AIn.set HD.out HA3.out 2 _ (fun _ _ => rfl) rfl⟩⟩
      · obtain ⟨t, ht⟩ : ∃ t, (readT li sh).1 = t := ⟨_, rfl⟩
        have HTS := Aside0.mk (show t.size ≤ 140737488351232 by rw [← ht]; exact Nat.le_trans (readT_size li sh) HLI.out)
        have HCT := Aside0.mk (show Calls Try.prog 52 #[.pointer (some ⟨g, 0, none⟩)] W2 fun e w' => NPost w W2 g (.string t) (readT li sh).2.1 (readT li sh).2.2 e w' by rw [← ht]; exact rtext_calls w g li sh W2 HB2.out HD.out.l1 HR2.out)
        have HST3 := Aside0.mk (show ltrsR (nl.take (i + 1)) (q1, l2, false) = ({ q with to_ := t }, (readT li sh).2) by rw [HST2.out, ← ht]; rfl)
        clear ht
        go_wp2_with (go_at_call 52; with_reducible refine HCT.out.mono ?_; rintro e w3 hp3; have HA3 := Aside0.mk (AIn.read HD.out HAI2.out hp3); obtain ⟨rfl, _, _, _⟩ := hp3; obtain ⟨⟨u3, hu3⟩, hf3⟩ := AIn.slot HA3.out 3 (by omega))
        go_roundg gk
        case measure => omega
        case rel => exact ⟨i + 1, _, (readT li sh).2.1, (readT li sh).2.2, HIG.out, HST3, ⟨AIn.set HD.out HA3.out 3 _ (fun _ _ => rfl) rfl⟩⟩
      · obtain ⟨n, hn⟩ : ∃ n, (readN 1 li sh).1 = n := ⟨_, rfl⟩
        have HCT := Aside0.mk (show Calls Try.prog 51 #[.pointer (some ⟨g, 0, none⟩), .int .i64 1] W2 fun e w' => NPost w W2 g (.int .i64 n) (readN 1 li sh).2.1 (readN 1 li sh).2.2 e w' by rw [← hn]; exact num_calls 1 (by omega) w g li sh W2 HB2.out HD.out.l1 HR2.out)
        have HST3 := Aside0.mk (show ltrsR (nl.take (i + 1)) (q1, l2, false) = ({ q with how := n }, (readN 1 li sh).2) by rw [HST2.out, ← hn]; rfl)
        clear hn
        go_wp2_with (go_at_call 51; with_reducible refine HCT.out.mono ?_; rintro e w3 hp3; have HA3 := Aside0.mk (AIn.read HD.out HAI2.out hp3); obtain ⟨rfl, _, _, _⟩ := hp3; obtain ⟨⟨u3, hu3⟩, hf3⟩ := AIn.slot HA3.out 4 (by omega))
        go_roundg gk
        case measure => omega
        case rel => exact ⟨i + 1, _, (readN 1 li sh).2.1, (readN 1 li sh).2.2, HIG.out, HST3, ⟨AIn.set HD.out HA3.out 4 _ (fun _ _ => rfl) rfl⟩⟩
      · obtain ⟨n, hn⟩ : ∃ n, (readN 4 li sh).1 = n := ⟨_, rfl⟩
        have HCT := Aside0.mk (show Calls Try.prog 51 #[.pointer (some ⟨g, 0, none⟩), .int .i64 4] W2 fun e w' => NPost w W2 g (.int .i64 n) (readN 4 li sh).2.1 (readN 4 li sh).2.2 e w' by rw [← hn]; exact num_calls 4 (by omega) w g li sh W2 HB2.out HD.out.l1 HR2.out)
        have HST3 := Aside0.mk (show ltrsR (nl.take (i + 1)) (q1, l2, false) = ({ q with handle := n }, (readN 4 li sh).2) by rw [HST2.out, ← hn]; rfl)
        clear hn
        go_wp2_with (go_at_call 51; with_reducible refine HCT.out.mono ?_; rintro e w3 hp3; have HA3 := Aside0.mk (AIn.read HD.out HAI2.out hp3); obtain ⟨rfl, _, _, _⟩ := hp3; obtain ⟨⟨u3, hu3⟩, hf3⟩ := AIn.slot HA3.out 5 (by omega))
        go_roundg gk
        case measure => omega
        case rel => exact ⟨i + 1, _, (readN 4 li sh).2.1, (readN 4 li sh).2.2, HIG.out, HST3, ⟨AIn.set HD.out HA3.out 5 _ (fun _ _ => rfl) rfl⟩⟩
      · obtain ⟨n, hn⟩ : ∃ n, (readN 4 li sh).1 = n := ⟨_, rfl⟩
        have HCT := Aside0.mk (show Calls Try.prog 51 #[.pointer (some ⟨g, 0, none⟩), .int .i64 4] W2 fun e w' => NPost w W2 g (.int .i64 n) (readN 4 li sh).2.1 (readN 4 li sh).2.2 e w' by rw [← hn]; exact num_calls 4 (by omega) w g li sh W2 HB2.out HD.out.l1 HR2.out)
        have HST3 := Aside0.mk (show ltrsR (nl.take (i + 1)) (q1, l2, false) = ({ q with at_ := n }, (readN 4 li sh).2) by rw [HST2.out, ← hn]; rfl)
        clear hn
        go_wp2_with (go_at_call 51; with_reducible refine HCT.out.mono ?_; rintro e w3 hp3; have HA3 := Aside0.mk (AIn.read HD.out HAI2.out hp3); obtain ⟨rfl, _, _, _⟩ := hp3; obtain ⟨⟨u3, hu3⟩, hf3⟩ := AIn.slot HA3.out 6 (by omega))
        go_roundg gk
        case measure => omega
        case rel => exact ⟨i + 1, _, (readN 4 li sh).2.1, (readN 4 li sh).2.2, HIG.out, HST3, ⟨AIn.set HD.out HA3.out 6 _ (fun _ _ => rfl) rfl⟩⟩
      · obtain ⟨n, hn⟩ : ∃ n, (readN 2 li sh).1 = n := ⟨_, rfl⟩
        have HCT := Aside0.mk (show Calls Try.prog 51 #[.pointer (some ⟨g, 0, none⟩), .int .i64 2] W2 fun e w' => NPost w W2 g (.int .i64 n) (readN 2 li sh).2.1 (readN 2 li sh).2.2 e w' by rw [← hn]; exact num_calls 2 (by omega) w g li sh W2 HB2.out HD.out.l1 HR2.out)
        have HST3 := Aside0.mk (show ltrsR (nl.take (i + 1)) (q1, l2, false) = ({ q with count := n }, (readN 2 li sh).2) by rw [HST2.out, ← hn]; rfl)
        clear hn
        go_wp2_with (go_at_call 51; with_reducible refine HCT.out.mono ?_; rintro e w3 hp3; have HA3 := Aside0.mk (AIn.read HD.out HAI2.out hp3); obtain ⟨rfl, _, _, _⟩ := hp3; obtain ⟨⟨u3, hu3⟩, hf3⟩ := AIn.slot HA3.out 7 (by omega))
        go_roundg gk
        case measure => omega
        case rel => exact ⟨i + 1, _, (readN 2 li sh).2.1, (readN 2 li sh).2.2, HIG.out, HST3, ⟨AIn.set HD.out HA3.out 7 _ (fun _ _ => rfl) rfl⟩⟩
      · obtain ⟨t, ht⟩ : ∃ t, (readT li sh).1 = t := ⟨_, rfl⟩
        have HTS := Aside0.mk (show t.size ≤ 140737488351232 by rw [← ht]; exact Nat.le_trans (readT_size li sh) HLI.out)
        have HCT := Aside0.mk (show Calls Try.prog 52 #[.pointer (some ⟨g, 0, none⟩)] W2 fun e w' => NPost w W2 g (.string t) (readT li sh).2.1 (readT li sh).2.2 e w' by rw [← ht]; exact rtext_calls w g li sh W2 HB2.out HD.out.l1 HR2.out)
        have HST3 := Aside0.mk (show ltrsR (nl.take (i + 1)) (q1, l2, false) = ({ q with data := bytesOf t }, (readT li sh).2) by rw [HST2.out, ← ht]; rfl)
        clear ht
        go_wp2_with (go_at_call 52; with_reducible refine HCT.out.mono ?_; rintro e w3 hp3; have HA3 := Aside0.mk (AIn.read HD.out HAI2.out hp3); obtain ⟨rfl, _, _, _⟩ := hp3; obtain ⟨⟨u3, hu3⟩, hf3⟩ := AIn.slotB HA3.out t 8 (by omega); have kb := fun W => print_bytes (P := Try.prog) 9 27 5 Try.underlying9 Try.underlying27 Try.underlying5 t W)
        go_roundg gk
        case measure => omega
        case rel => exact ⟨i + 1, _, (readT li sh).2.1, (readT li sh).2.2, HIG.out, HST3, ⟨AIn.data HD.out HA3.out t HTS.out⟩⟩
/-- Are these bytes? -/
def bytesB (l : List Int) : Bool := l.all (fun x => decide (0 ≤ x ∧ x ≤ 255))
theorem bytesB_in {l : List Int} (h : bytesB l = true) : ∀ x ∈ l, 0 ≤ x ∧ x ≤ 255 := fun x hx => by
  have := (List.all_eq_true.1 h) x hx
  simpa using this
theorem take_b (b : Nat) (q s : Rq) (l : List Int) : takeG updQ (partsV b q) s l = takeG updQ (partsV 0 q) s l := by
  unfold partsV
  repeat' split
  all_goals rfl
theorem allG_b (b : Nat) (q : Rq) : allG 0 (partsV b q) = allG 0 (partsV 0 q) := by
  unfold partsV
  repeat' split
  all_goals rfl
theorem asked_b (b : Nat) (l : List Int) : askedF b l = askedF 0 l := by
  unfold askedF
  rw [show takeG updQ (begunV b zeroQ) zeroQ l = takeG updQ (begunV 0 zeroQ) zeroQ l from rfl]
  cases takeG updQ (begunV 0 zeroQ) zeroQ l with
  | none => rfl
  | some qr =>
    obtain ⟨q, r⟩ := qr
    show (if _ then _ else match takeG updQ (partsV b q) q r with | none => _ | some (q2, r2) => _) = (if _ then _ else match takeG updQ (partsV 0 q) q r with | none => _ | some (q2, r2) => _)
    rw [take_b b q q r]
    cases takeG updQ (partsV 0 q) q r with
    | none => rfl
    | some qr2 =>
      obtain ⟨q2, r2⟩ := qr2
      show (if _ then _ else if _ then _ else if allG 0 (partsV b q2) ≠ 0 then _ else _) = (if _ then _ else if _ then _ else if allG 0 (partsV 0 q2) ≠ 0 then _ else _)
      rw [allG_b b q2]
end Go.Proofs.Ytkghoodhgihokaa.Msg
