/- The contracts of the functions that the law FairPlays reaches: Go's code comes to what these Lean functions tell (written by a program of ours and the kit's, out of the translation). -/
import Derived.Test.YtnbpkibefgahlaaHFairPlaysx0
import Derived.Test.YtnbpkibefgahlaaHFairPlaysx3
namespace Go.Proofs.Ytnbpkibefgahlaa.HFairPlays
open Go.RowKit Go.Proofs.YtnbpkibefgahlaaW.PrintWords Go.Proofs.YtnbpkibefgahlaaW.PrintLast Go.Proofs.YtnbpkibefgahlaaW.PrintMore
attribute [local go_sem] max2_int min2_int max_two min_two max_three min_three max_four min_four   -- for this text's walks alone
set_option linter.unusedVariables false
set_option linter.unusedSimpArgs false

/-! ### packthreadref_FairPlayed: function 10 -/
/-! What the reference keeps in memory -/
structure RY (w0 W : World) (gw gd cw cd : Nat) (vr vo : Value) (f : Nat → Nat) (vs : Nat → Value) (ws : List (List Int)) (ds rg : List Int) (o : List S29) : Prop where
  hgw : w0.heap.size ≤ gw
  hgd : w0.heap.size ≤ gd
  hcw : ws.length ≤ cw
  hcd : ds.length ≤ cd
  hw : ∃ cur, W.heap[gw]? = some (.cells cur 22 (0, 0))
  hd : ∃ cur, W.heap[gd]? = some (.cells cur 3 (0, 0))
  hf : f gd = 1
  w : ∀ i (_ : i < ws.length), W.cell? ⟨gw, i, none⟩ = some (vs i)
  d : ∀ i (h : i < ds.length), W.cell? ⟨gd, i, none⟩ = some (.int .i64 ds[i])
  qs : ∀ i (h : i < ws.length), iQ W w0.heap.size (fun k => f k = i + 2) (vs i) ws[i]
  qr : iQ W w0.heap.size (fun k => f k = 0) vr rg
  out : k29.R 29 W w0.heap.size (fun _ => True) vo o
namespace RY
variable {w0 W W1 : World} {gw gd cw cd : Nat} {vr vo : Value} {f : Nat → Nat} {vs : Nat → Value} {ws : List (List Int)} {ds rg : List Int} {o : List S29}
theorem step (h : RY w0 W gw gd cw cd vr vo f vs ws ds rg o) (hs : ∀ k, k < W.heap.size → W1.heap[k]? = W.heap[k]?) : RY w0 W1 gw gd cw cd vr vo f vs ws ds rg o := by
  obtain ⟨cw_, hw⟩ := h.hw
  obtain ⟨cd_, hd⟩ := h.hd
  have e1 := hs gw (blk_ltf hw)
  have e2 := hs gd (blk_ltf hd)
  exact ⟨h.hgw, h.hgd, h.hcw, h.hcd, ⟨_, e1.trans hw⟩, ⟨_, e2.trans hd⟩, h.hf, fun i hi => (cell_same e1).trans (h.w i hi), fun i hi => (cell_same e2).trans (h.d i hi), fun i hi => Kd.Q_step (h.qs i hi) (fun k _ hk => hs k hk), Kd.Q_step h.qr (fun k _ hk => hs k hk), Kd.R_step h.out (fun k _ hk => hs k hk)⟩
theorem below (h : RY w0 W gw gd cw cd vr vo f vs ws ds rg o) (hb : Below W.heap.size W W1) : RY w0 W1 gw gd cw cd vr vo f vs ws ds rg o := h.step (fun k hk => hb.block k hk)
theorem fresh (h : RY w0 W gw gd cw cd vr vo f vs ws ds rg o) (j : Nat) : RY w0 W gw gd cw cd vr vo (fun k => if k < W.heap.size then f k else j) vs ws ds rg o := by
  obtain ⟨cd_, hd⟩ := h.hd
  exact { h with
    hf := by rw [if_pos (blk_ltf hd)]; exact h.hf
    qs := fun i hi => Kd.Q_mono (Kd.Q_bound (h.qs i hi)) (fun k hk => by rw [if_pos hk.2.2.1]; exact hk.1)
    qr := Kd.Q_mono (Kd.Q_bound h.qr) (fun k hk => by rw [if_pos hk.2.2.1]; exact hk.1) }
theorem ne_of_types {w : World} {g g' t t' : Nat} {c c' : Array Value} (h : w.heap[g]? = some (.cells c t (0, 0))) (h' : w.heap[g']? = some (.cells c' t' (0, 0))) (ht : t ≠ t') : g ≠ g' := by
  rintro rfl
  rw [h] at h'
  injection h' with h'
  injection h' with _ h'
  exact ht h'
theorem out_set {g t : Nat} {c : Array Value} (h : k29.R 29 W w0.heap.size (fun _ => True) vo o) (hb : W.heap[g]? = some (.cells c t (0, 0))) (ht : t ≠ 29) (j : Nat) (u : Value) : k29.R 29 (W.setCell ⟨g, j, none⟩ u) w0.heap.size (fun _ => True) vo o :=
  Kd.R_set h hb (fun q hq => by
    have : q = 29 := by simpa [k29, Kd.iso, Kd.pair, Kd.int, Kd.scalar] using hq
    omega) j u
theorem setD (h : RY w0 W gw gd cw cd vr vo f vs ws ds rg o) (i : Nat) (hi : i < ds.length) (x : Int) : RY w0 (W.setCell ⟨gd, i, none⟩ (.int .i64 x)) gw gd cw cd vr vo f vs ws (ds.set i x) rg o := by
  obtain ⟨cw_, hw⟩ := h.hw
  obtain ⟨cd_, hd⟩ := h.hd
  have hne := ne_of_types hw hd (by decide)
  have hq : ∀ {ok : Nat → Prop} {v xs}, (∀ k, ok k → f k ≠ 1) → iQ W w0.heap.size ok v xs → iQ (W.setCell ⟨gd, i, none⟩ (.int .i64 x)) w0.heap.size ok v xs := fun ho hq => Kd.Q_far hq (p := ⟨gd, i, none⟩) (fun k hk e => ho k hk (by rw [show k = gd from e]; exact h.hf)) _
  refine ⟨h.hgw, h.hgd, h.hcw, by rw [List.length_set]; exact h.hcd, ⟨_, (Below.heap_setCell _ _ _ _ (show gw ≠ gd from hne)).trans hw⟩, ⟨_, blk_set hd _ _⟩, h.hf, fun j hj => (cell_same (Below.heap_setCell _ _ _ _ (show gw ≠ gd from hne))).trans (h.w j hj), fun j hj => ?_, fun j hj => hq (fun k hk => by omega) (h.qs j hj), hq (fun k hk => by omega) h.qr, out_set h.out hd (by decide) _ _⟩
  rw [List.length_set] at hj
  by_cases e : i = j
  · subst e
    rw [List.getElem_set_self]
    exact cell_self hd (h.d i hi) _
  · rw [World.cell?_setCell_other _ _ _ _ (fun e' => e (by injection e')), h.d j hj, List.getElem_set_ne e]
theorem newW (h : RY w0 W gw gd cw cd vr vo f vs ws ds rg o) (i : Nat) (hi : i < ws.length) (hgr : W.grownBy W1 (vs i).ownBlock) {v' : Value} {ws' : List Int} (hq' : iQ W1 w0.heap.size (fun k => f k = i + 2) v' ws') :
    RY w0 (W1.setCell ⟨gw, i, none⟩ v') gw gd cw cd vr vo f (fun j => if j = i then v' else vs j) (ws.set i ws') ds rg o := by
  obtain ⟨cw_, hw⟩ := h.hw
  obtain ⟨cd_, hd⟩ := h.hd
  have hne := ne_of_types hw hd (by decide)
  have hrow : ∀ k, (vs i).ownBlock = some k → f k = i + 2 := (h.qs i hi).1
  have hty := Kd.Q_typed (h.qs i hi)
  have hgw1 : W1.heap[gw]? = W.heap[gw]? := hgr.block _ (blk_ltf hw) (fun e => by
    obtain ⟨c, hc⟩ := hty gw e.symm
    exact ne_of_types hc hw (by decide) rfl)
  have hgd1 : W1.heap[gd]? = W.heap[gd]? := hgr.block _ (blk_ltf hd) (fun e => by have := hrow gd e.symm; have := h.hf; omega)
  have hqs : ∀ {ok v xs}, iQ W1 w0.heap.size ok v xs → iQ (W1.setCell ⟨gw, i, none⟩ v') w0.heap.size ok v xs := fun hq => q_set hq (hgw1.trans hw) (by decide) _ _
  have hout : k29.R 29 W1 w0.heap.size (fun _ => True) vo o := Kd.R_mono (Kd.R_move (Kd.R_bound h.out) (fun k hk => hgr.block k hk.2.2.1 (fun e => by
    obtain ⟨c, hc⟩ := hty k e.symm
    obtain ⟨_, _, _, q, hq, c', hc'⟩ := hk
    have : q = 29 := by simpa [k29, Kd.iso, Kd.pair, Kd.int, Kd.scalar] using hq
    subst this
    exact ne_of_types hc hc' (by decide) rfl))) (fun _ _ => trivial)
  refine ⟨h.hgw, h.hgd, by rw [List.length_set]; exact h.hcw, h.hcd, ⟨_, blk_set (hgw1.trans hw) _ _⟩, ⟨_, (Below.heap_setCell _ _ _ _ (show gd ≠ gw from fun e => hne e.symm)).trans (hgd1.trans hd)⟩, h.hf, fun j hj => ?_, fun j hj => (cell_same ((Below.heap_setCell _ _ _ _ (show gd ≠ gw from fun e => hne e.symm)).trans hgd1)).trans (h.d j hj), fun j hj => ?_, hqs (Kd.Q_grown h.qr hgr (fun k hk e => by have := hrow k e.symm; omega)), out_set hout (hgw1.trans hw) (by decide) _ _⟩
  all_goals rw [List.length_set] at hj
  · by_cases e : i = j
    · subst e
      rw [if_pos rfl]
      exact cell_self (hgw1.trans hw) ((cell_same hgw1).trans (h.w i hi)) _
    · rw [World.cell?_setCell_other _ _ _ _ (fun e' => e (by injection e')), cell_same hgw1, h.w j hj, if_neg (fun h => e h.symm)]
  · by_cases e : i = j
    · subst e; rw [List.getElem_set_self]; simp only [if_true]; exact hqs hq'
    · rw [List.getElem_set_ne e]; simp only [if_neg (fun h : j = i => e h.symm)]
      exact hqs (Kd.Q_grown (h.qs j hj) hgr (fun k hk e2 => by have := hrow k e2.symm; omega))
theorem newR (h : RY w0 W gw gd cw cd vr vo f vs ws ds rg o) (hgr : W.grownBy W1 vr.ownBlock) {v' : Value} {rg' : List Int} (hq' : iQ W1 w0.heap.size (fun k => f k = 0) v' rg') :
    RY w0 W1 gw gd cw cd v' vo f vs ws ds rg' o := by
  obtain ⟨cw_, hw⟩ := h.hw
  obtain ⟨cd_, hd⟩ := h.hd
  have hrow : ∀ k, vr.ownBlock = some k → f k = 0 := h.qr.1
  have hty := Kd.Q_typed h.qr
  have hgw1 : W1.heap[gw]? = W.heap[gw]? := hgr.block _ (blk_ltf hw) (fun e => by
    obtain ⟨c, hc⟩ := hty gw e.symm
    exact ne_of_types hc hw (by decide) rfl)
  have hgd1 : W1.heap[gd]? = W.heap[gd]? := hgr.block _ (blk_ltf hd) (fun e => by have := hrow gd e.symm; have := h.hf; omega)
  exact ⟨h.hgw, h.hgd, h.hcw, h.hcd, ⟨_, hgw1.trans hw⟩, ⟨_, hgd1.trans hd⟩, h.hf, fun i hi => (cell_same hgw1).trans (h.w i hi), fun i hi => (cell_same hgd1).trans (h.d i hi), fun i hi => Kd.Q_grown (h.qs i hi) hgr (fun k hk e => by have := hrow k e.symm; omega), hq', Kd.R_mono (Kd.R_move (Kd.R_bound h.out) (fun k hk => hgr.block k hk.2.2.1 (fun e => by
    obtain ⟨c, hc⟩ := hty k e.symm
    obtain ⟨_, _, _, q, hq, c', hc'⟩ := hk
    have : q = 29 := by simpa [k29, Kd.iso, Kd.pair, Kd.int, Kd.scalar] using hq
    subst this
    exact ne_of_types hc hc' (by decide) rfl))) (fun _ _ => trivial)⟩
theorem newO (h : RY w0 W gw gd cw cd vr vo f vs ws ds rg o) (hgr : W.grownBy W1 vo.ownBlock) {v' : Value} {o' : List S29} (ho' : k29.R 29 W1 w0.heap.size (fun _ => True) v' o') :
    RY w0 W1 gw gd cw cd vr v' f vs ws ds rg o' := by
  obtain ⟨cw_, hw⟩ := h.hw
  obtain ⟨cd_, hd⟩ := h.hd
  have hty := Kd.R_typed h.out
  have far : ∀ {g t : Nat} {c : Array Value}, W.heap[g]? = some (.cells c t (0, 0)) → t ≠ 29 → W1.heap[g]? = W.heap[g]? := fun hg ht => hgr.block _ (blk_ltf hg) (fun e => by
    obtain ⟨c, hc⟩ := hty _ e.symm
    exact ne_of_types hg hc ht rfl)
  have hgw1 := far hw (by decide)
  have hgd1 := far hd (by decide)
  have hq : ∀ {ok v xs}, iQ W w0.heap.size ok v xs → iQ W1 w0.heap.size ok v xs := fun hq => Kd.Q_mono (Kd.Q_move (Kd.Q_bound hq) (fun k hk => by
    obtain ⟨_, _, _, q, hq, cells, hcl⟩ := hk
    have e : q = 3 := by simpa [Kd.int, Kd.scalar] using hq
    subst e
    exact far hcl (by decide))) (fun k hk => hk.1)
  exact ⟨h.hgw, h.hgd, h.hcw, h.hcd, ⟨_, hgw1.trans hw⟩, ⟨_, hgd1.trans hd⟩, h.hf, fun i hi => (cell_same hgw1).trans (h.w i hi), fun i hi => (cell_same hgd1).trans (h.d i hi), fun i hi => hq (h.qs i hi), hq h.qr, ho'⟩
theorem frozen_w (h : RY w0 W gw gd cw cd vr vo f vs ws ds rg o) (j : Nat) : W.frozen? ⟨gw, j, none⟩ = false := by
  obtain ⟨c, hc⟩ := h.hw
  exact blk_frozen hc j
theorem frozen_d (h : RY w0 W gw gd cw cd vr vo f vs ws ds rg o) (j : Nat) : W.frozen? ⟨gd, j, none⟩ = false := by
  obtain ⟨c, hc⟩ := h.hd
  exact blk_frozen hc j
theorem d' (h : RY w0 W gw gd cw cd vr vo f vs ws ds rg o) {i : Nat} (hi : i < ds.length) : W.cell? ⟨gd, i, none⟩ = some (.int .i64 (rd ds (i : Int))) := by
  rw [h.d i hi]
  unfold rd
  rw [Int.toNat_natCast, List.getD_eq_getElem?_getD, List.getElem?_eq_getElem hi]
  rfl
theorem qs' (h : RY w0 W gw gd cw cd vr vo f vs ws ds rg o) {i : Nat} (hi : i < ws.length) : iQ W w0.heap.size (fun k => f k = i + 2) (vs i) (ws.getD i []) := by
  rw [List.getD_eq_getElem?_getD, List.getElem?_eq_getElem hi]
  exact h.qs i hi
theorem wAfter (h : RY w0 W gw gd cw cd vr vo f vs ws ds rg o) {i : Nat} (hi : i < ws.length) (hgr : W.grownBy W1 (vs i).ownBlock) : W1.heap[gw]? = W.heap[gw]? := by
  obtain ⟨cw_, hw⟩ := h.hw
  exact hgr.block _ (blk_ltf hw) (fun e => by
    obtain ⟨c, hc⟩ := Kd.Q_typed (h.qs i hi) gw e.symm
    exact ne_of_types hc hw (by decide) rfl)
theorem wCell (h : RY w0 W gw gd cw cd vr vo f vs ws ds rg o) {i : Nat} (hi : i < ws.length) (hgr : W.grownBy W1 (vs i).ownBlock) : W1.cell? ⟨gw, i, none⟩ = some (vs i) ∧ W1.frozen? ⟨gw, i, none⟩ = false := by
  have e := h.wAfter hi hgr
  obtain ⟨cw_, hw⟩ := h.hw
  exact ⟨(cell_same e).trans (h.w i hi), blk_frozen (e.trans hw) _⟩
end RY
/-- A block of another type stays where a row of numbers grows. -/
theorem far3 {W W1 : World} {v : Value} {base : Nat} {ok : Nat → Prop} {xs : List Int} {k t : Nat} {cs : Array Value} (hq : iQ W base ok v xs) (hg : W.grownBy W1 v.ownBlock) (hk : W.heap[k]? = some (.cells cs t (0, 0))) (ht : t ≠ 3) : W1.heap[k]? = some (.cells cs t (0, 0)) :=
  (hg.block _ (blk_ltf hk) (fun e => by
    obtain ⟨c, hc⟩ := Kd.Q_typed hq k e.symm
    exact RY.ne_of_types hk hc ht rfl)).trans hk
theorem info22 : (Try.prog.info? 22).map (fun i => (i.zero, i.size, i.bytes)) = some (some (.slice none 0 0), 1, 24) := by kernel_rfl
theorem info3r : (Try.prog.info? 3).map (fun i => (i.zero, i.size, i.bytes)) = some (some (.int .i64 0), 1, 8) := by kernel_rfl
abbrev kNil : Kd Unit := Kd.scalar (fun _ : Unit => Value.slice none 0 0) (fun _ => rfl)
theorem RY.start {w0 W : World} {v8 v9 : Value} {N : Nat} (hN : 0 < N) (h8 : kNil.R 22 W w0.heap.size (fun _ => True) v8 (List.replicate N ())) (h9 : (Kd.int .i64).R 3 W w0.heap.size (fun _ => True) v9 (List.replicate N 0)) :
    ∃ gw gd cw cd, v8 = .slice (some ⟨gw, 0, none⟩) N cw ∧ v9 = .slice (some ⟨gd, 0, none⟩) N cd ∧ RY w0 W gw gd cw cd (.slice none 0 0) (.slice none 0 0) (fun k => if k = gd then 1 else 0) (fun _ => .slice none 0 0) (List.replicate N []) (List.replicate N 0) [] [] := by
  obtain ⟨gw, cw, rfl, hgw, _, hw⟩ := Kd.R_form h8 (by simpa using hN)
  obtain ⟨gd, cd, rfl, hgd, _, hd⟩ := Kd.R_form h9 (by simpa using hN)
  have hcw := (Kd.R_reads' h8).2.1
  have hcd := (Kd.R_reads' h9).2.1
  simp only [List.length_replicate] at hcw hcd ⊢
  refine ⟨gw, gd, cw, cd, rfl, rfl, hgw, hgd, by simpa using hcw, by simpa using hcd, hw, hd, if_pos rfl, fun i hi => ?_, fun i hi => ?_, fun i hi => ?_, Kd.Q_nil _ _ _ _ _, Kd.R_nil _ _ _ _ _⟩
  · obtain ⟨c, _, hM, hc, _⟩ := Kd.R_elem (d := kNil) h8 () (i : Int) (by omega) (by simpa using hi)
    have hM' : c = [.slice none 0 0] := hM
    subst hM'
    have := hc 0 _ rfl
    rw [Int.toNat_natCast] at this
    simpa [kNil, Kd.scalar] using this
  · obtain ⟨c, _, hM, hc, _⟩ := Kd.R_elem (d := Kd.int .i64) h9 0 (i : Int) (by omega) (by simpa using hi)
    have hM' := hM
    have e0 : c = [.int .i64 0] := by
      have : c = [.int .i64 ((List.replicate N (0 : Int)).getD i 0)] := by simpa [Kd.int, Kd.scalar, Kd.M] using hM
      rw [this, List.getD_eq_getElem?_getD, List.getElem?_eq_getElem hi, List.getElem_replicate]
      rfl
    subst e0
    have := hc 0 _ rfl
    rw [Int.toNat_natCast] at this
    rw [List.getElem_replicate]
    simpa [Kd.int, Kd.scalar] using this
  · rw [List.getElem_replicate]
    exact Kd.Q_nil _ _ _ _ _
def turnR : Nat → List Int → List (List Int) → List Int → List Int → Int → Option (List Int × List Int × Int)
  | 0, _, _, _, _, _ => none
  | k + 1, qs, ws, ds, rg, has =>
    if 0 < rg.length ∧ rg.length < 1000 ∧ 0 ≤ rd rg 0 ∧ rd rg 0 < (qs.length : Int) ∧ qs.length ≤ 6 ∧ ws.length = qs.length ∧ ds.length = qs.length ∧ 0 < (ws.getD (rd rg 0).toNat []).length ∧ -1000000 ≤ rd ds (rd rg 0) ∧ rd ds (rd rg 0) ≤ 1000000 ∧ -1000000 ≤ rd qs (rd rg 0) ∧ rd qs (rd rg 0) ≤ 1000000 then
      (if rd (ws.getD (rd rg 0).toNat []) 0 ≤ rd (if has = rd rg 0 then ds else ds.set (rd rg 0).toNat (rd ds (rd rg 0) + rd qs (rd rg 0))) (rd rg 0) then some (if has = rd rg 0 then ds else ds.set (rd rg 0).toNat (rd ds (rd rg 0) + rd qs (rd rg 0)), rg, rd rg 0)
       else turnR k qs ws (if has = rd rg 0 then ds else ds.set (rd rg 0).toNat (rd ds (rd rg 0) + rd qs (rd rg 0))) (rg.drop 1 ++ [rd rg 0]) (-1))
    else none
def sendR (ws : List (List Int)) (ds rg : List Int) (has : Int) : Option (S29 × List (List Int) × List Int × List Int × Int) :=
  if 0 < rg.length ∧ 0 ≤ rd rg 0 ∧ rd rg 0 < (ds.length : Int) ∧ ds.length ≤ 6 ∧ ws.length = ds.length ∧ 0 < (ws.getD (rd rg 0).toNat []).length ∧ -10000000 ≤ rd ds (rd rg 0) - rd (ws.getD (rd rg 0).toNat []) 0 ∧ rd ds (rd rg 0) - rd (ws.getD (rd rg 0).toNat []) 0 ≤ 10000000 then
    (if (ws.getD (rd rg 0).toNat []).length = 1 then some (⟨0, rd rg 0, rd (ws.getD (rd rg 0).toNat []) 0⟩, ws.set (rd rg 0).toNat ((ws.getD (rd rg 0).toNat []).drop 1), ds.set (rd rg 0).toNat 0, rg.drop 1, -1)
     else some (⟨0, rd rg 0, rd (ws.getD (rd rg 0).toNat []) 0⟩, ws.set (rd rg 0).toNat ((ws.getD (rd rg 0).toNat []).drop 1), ds.set (rd rg 0).toNat (rd ds (rd rg 0) - rd (ws.getD (rd rg 0).toNat []) 0), rg, has))
  else none
def refL (k : Nat) (qs : List Int) : List S35 → List (List Int) → List Int → List Int → Int → List S29 → Option (List S29)
  | [], _, _, _, _, o => some o
  | x :: t, ws, ds, rg, has, o =>
    if x.f1 < 0 then refL k qs t ws ds rg has (o ++ [⟨2, 0, 0⟩])
    else if 0 < x.f1 then
      (if x.f0 < 0 ∨ (qs.length : Int) ≤ x.f0 ∨ 1500 < x.f1 then refL k qs t ws ds rg has (o ++ [⟨2, 0, 0⟩])
       else if 40 ≤ (ws.getD x.f0.toNat []).length then refL k qs t ws ds rg has (o ++ [⟨9, 0, 0⟩])
       else if rg.length < 1000 then refL k qs t (ws.set x.f0.toNat (ws.getD x.f0.toNat [] ++ [x.f1])) ds (if (ws.getD x.f0.toNat []).length = 0 then rg ++ [x.f0] else rg) has (o ++ [⟨0, 0, 0⟩])
       else none)
    else (if rg.length = 0 then refL k qs t ws ds rg has (o ++ [⟨7, 0, 0⟩])
      else (turnR k qs ws ds rg has).bind fun r => (sendR ws r.1 r.2.1 r.2.2).bind fun s => refL k qs t s.2.1 s.2.2.1 s.2.2.2.1 s.2.2.2.2 (o ++ [s.1]))
def packthreadref_FairPlayed.f (k : Nat) (l0 : List Int) (l1 : List S35) : Option (List S29 × Int) :=
  if l0.length = 0 ∨ 6 < l0.length ∨ 300 < l1.length then some ([], 1)
  else (if l0.any badQ = true then some ([], 2) else (refL k l0 l1 (List.replicate l0.length []) (List.replicate l0.length 0) [] (-1) []).bind fun o => some (o, 0))
def findBlock (n : Nat) : Code → Option Code
  | .block m c => if m = n then some (.block m c) else findBlock n c
  | .seq a b => match findBlock n a with
    | some c => some c
    | none => findBlock n b
  | .loop c => findBlock n c
  | .scope c => findBlock n c
  | .cond _ a b => match findBlock n a with
    | some c => some c
    | none => findBlock n b
  | _ => none
noncomputable def swCode : Code := ((Try.f10.body.bind (findBlock 4)).getD .skip)
def SRel (k : Nat) (l0 : List Int) (t : List S35) (O : List S29) (i : Nat) (w : World) (gw gd cw cd j : Nat) (v10 v11 v12 : Value) (w' : World) : Prop :=
  ∃ (f : Nat → Nat) (vs : Nat → Value) (ws : List (List Int)) (ds rg : List Int) (has : Int) (o : List S29), v11 = .int .i64 has ∧ Aside0 (RY w w' gw gd cw cd v10 v12 f vs ws ds rg o) ∧ Aside0 (ws.length = j ∧ ds.length = j) ∧ Aside0 (Below w.heap.size w w') ∧ Aside0 (refL k l0 t ws ds rg has o = some O) ∧ Aside0 (o.length ≤ i + 1)
set_option maxRecDepth 1000000 in
inductive SW (k : Nat) (l0 : List Int) (t : List S35) (O : List S29) (i : Nat) (w : World) (gw gd cw cd j bx : Nat) (A0 : Option Addr) (c0 : Nat) (c1_ c2_ c3_ c4_ c5_ c6_ c7_ c13_ c18_ c19_ c20_ c21_ c22_ c23_ c24_ c25_ c26_ c27_ c28_ c29_ c30_ c31_ c32_ c33_ c34_ c35_ c36_ c37_ c38_ c39_ c40_ c41_ c42_ c43_ c44_ c45_ c46_ c47_ c48_ c49_ c50_ c51_ c52_ c53_ c54_ c55_ c222_ c223_ : Value) : Act → World → Prop
  | mk : ∀ (u10 u11 u12 u15 u16 u17 u56 u57 u58 u59 u60 u61 u62 u63 u64 u65 u66 u67 u68 u69 u70 u71 u72 u73 u74 u75 u76 u77 u78 u79 u80 u81 u82 u83 u84 u85 u86 u87 u88 u89 u90 u91 u92 u93 u94 u95 u96 u97 u98 u99 u100 u101 u102 u103 u104 u105 u106 u107 u108 u109 u110 u111 u112 u113 u114 u115 u116 u117 u118 u119 u120 u121 u122 u123 u124 u125 u126 u127 u128 u129 u130 u131 u132 u133 u134 u135 u136 u137 u138 u139 u140 u141 u142 u143 u144 u145 u146 u147 u148 u149 u150 u151 u152 u153 u154 u155 u156 u157 u158 u159 u160 u161 u162 u163 u164 u165 u166 u167 u168 u169 u170 u171 u172 u173 u174 u175 u176 u177 u178 u179 u180 u181 u182 u183 u184 u185 u186 u187 u188 u189 u190 u191 u192 u193 u194 u195 u196 u197 u198 u199 u200 u201 u202 u203 u204 u205 u206 u207 u208 u209 u210 u211 u212 u213 u214 u215 u216 u217 u218 u219 u220 u221 : Value) (w' : World), SRel k l0 t O i w gw gd cw cd j u10 u11 u12 w' → SW k l0 t O i w gw gd cw cd j bx A0 c0 c1_ c2_ c3_ c4_ c5_ c6_ c7_ c13_ c18_ c19_ c20_ c21_ c22_ c23_ c24_ c25_ c26_ c27_ c28_ c29_ c30_ c31_ c32_ c33_ c34_ c35_ c36_ c37_ c38_ c39_ c40_ c41_ c42_ c43_ c44_ c45_ c46_ c47_ c48_ c49_ c50_ c51_ c52_ c53_ c54_ c55_ c222_ c223_ ⟨#[.slice A0 j c0, c1_, c2_, c3_, c4_, c5_, c6_, c7_, .slice (some ⟨gw, 0, none⟩) j cw, .slice (some ⟨gd, 0, none⟩) j cd, u10, u11, u12, c13_, .pointer (some ⟨bx, 0, none⟩), u15, u16, u17, c18_, c19_, c20_, c21_, c22_, c23_, c24_, c25_, c26_, c27_, c28_, c29_, c30_, c31_, c32_, c33_, c34_, c35_, c36_, c37_, c38_, c39_, c40_, c41_, c42_, c43_, c44_, c45_, c46_, c47_, c48_, c49_, c50_, c51_, c52_, c53_, c54_, c55_, u56, u57, u58, u59, u60, u61, u62, u63, u64, u65, u66, u67, u68, u69, u70, u71, u72, u73, u74, u75, u76, u77, u78, u79, u80, u81, u82, u83, u84, u85, u86, u87, u88, u89, u90, u91, u92, u93, u94, u95, u96, u97, u98, u99, u100, u101, u102, u103, u104, u105, u106, u107, u108, u109, u110, u111, u112, u113, u114, u115, u116, u117, u118, u119, u120, u121, u122, u123, u124, u125, u126, u127, u128, u129, u130, u131, u132, u133, u134, u135, u136, u137, u138, u139, u140, u141, u142, u143, u144, u145, u146, u147, u148, u149, u150, u151, u152, u153, u154, u155, u156, u157, u158, u159, u160, u161, u162, u163, u164, u165, u166, u167, u168, u169, u170, u171, u172, u173, u174, u175, u176, u177, u178, u179, u180, u181, u182, u183, u184, u185, u186, u187, u188, u189, u190, u191, u192, u193, u194, u195, u196, u197, u198, u199, u200, u201, u202, u203, u204, u205, u206, u207, u208, u209, u210, u211, u212, u213, u214, u215, u216, u217, u218, u219, u220, u221, c222_, c223_], []⟩ w'
set_option maxHeartbeats 40000000 in
set_option maxRecDepth 1000000 in
theorem sw_neg (k : Nat) (l0 : List Int) (t : List S35) (O : List S29) (i : Nat) (w : World) (gw gd cw cd j bx : Nat) (A0 : Option Addr) (c0 : Nat) (c1_ c2_ c3_ c4_ c5_ c6_ c7_ c13_ c18_ c19_ c20_ c21_ c22_ c23_ c24_ c25_ c26_ c27_ c28_ c29_ c30_ c31_ c32_ c33_ c34_ c35_ c36_ c37_ c38_ c39_ c40_ c41_ c42_ c43_ c44_ c45_ c46_ c47_ c48_ c49_ c50_ c51_ c52_ c53_ c54_ c55_ c222_ c223_ u10 u12 u15 u16 u17 u56 u57 u58 u59 u60 u61 u62 u63 u64 u65 u66 u67 u68 u69 u70 u71 u72 u73 u74 u75 u76 u77 u78 u79 u80 u81 u82 u83 u84 u85 u86 u87 u88 u89 u90 u91 u92 u93 u94 u95 u96 u97 u98 u99 u100 u101 u102 u103 u104 u105 u106 u107 u108 u109 u110 u111 u112 u113 u114 u115 u116 u117 u118 u119 u120 u121 u122 u123 u124 u125 u126 u127 u128 u129 u130 u131 u132 u133 u134 u135 u136 u137 u138 u139 u140 u141 u142 u143 u144 u145 u146 u147 u148 u149 u150 u151 u152 u153 u154 u155 u156 u157 u158 u159 u160 u161 u162 u163 u164 u165 u166 u167 u168 u169 u170 u171 u172 u173 u174 u175 u176 u177 u178 u179 u180 u181 u182 u183 u184 u185 u186 u187 u188 u189 u190 u191 u192 u193 u194 u195 u196 u197 u198 u199 u200 u201 u202 u203 u204 u205 u206 u207 u208 u209 u210 u211 u212 u213 u214 u215 u216 u217 u218 u219 u220 u221 : Value) (x0 x1 has : Int) (f : Nat → Nat) (vs : Nat → Value) (ws : List (List Int)) (ds rg : List Int) (o : List S29) (W2 : World) (K : Act → World → Prop) (Q : Exit → Act → World → Prop)
    (HR0 : Aside0 ((Kd.int .i64).C w A0 l0.length l0)) (HN0 : Aside0 (l0.length = j)) (hn6 : j ≤ 6) (hi300 : i ≤ 300) (HLO : Aside0 (o.length ≤ i)) (HLN : Aside0 (ws.length = j ∧ ds.length = j))
    (HM2 : Aside0 (W2.heap[bx]? = some (.cells #[.int .i64 x0, .int .i64 x1] 35 (0, 0)))) (HY2 : Aside0 (RY w W2 gw gd cw cd u10 u12 f vs ws ds rg o)) (HB2 : Aside0 (Below w.heap.size w W2))
    (hneg : x1 < 0) (HP : Aside0 (refL k l0 t ws ds rg has (o ++ [⟨2, 0, 0⟩]) = some O))
    (HQP : ∀ c a N v w, Q (.panic c) (Act.put a N v) w → Q (.panic c) a w)
    (hexit : ∀ a' w', SW k l0 t O i w gw gd cw cd j bx A0 c0 c1_ c2_ c3_ c4_ c5_ c6_ c7_ c13_ c18_ c19_ c20_ c21_ c22_ c23_ c24_ c25_ c26_ c27_ c28_ c29_ c30_ c31_ c32_ c33_ c34_ c35_ c36_ c37_ c38_ c39_ c40_ c41_ c42_ c43_ c44_ c45_ c46_ c47_ c48_ c49_ c50_ c51_ c52_ c53_ c54_ c55_ c222_ c223_ a' w' → K a' w') :
    Code.wp Try.prog swCode (Exit.then K Q) ⟨#[.slice A0 j c0, c1_, c2_, c3_, c4_, c5_, c6_, c7_, .slice (some ⟨gw, 0, none⟩) j cw, .slice (some ⟨gd, 0, none⟩) j cd, u10, .int .i64 has, u12, c13_, .pointer (some ⟨bx, 0, none⟩), u15, u16, u17, c18_, c19_, c20_, c21_, c22_, c23_, c24_, c25_, c26_, c27_, c28_, c29_, c30_, c31_, c32_, c33_, c34_, c35_, c36_, c37_, c38_, c39_, c40_, c41_, c42_, c43_, c44_, c45_, c46_, c47_, c48_, c49_, c50_, c51_, c52_, c53_, c54_, c55_, u56, u57, u58, u59, u60, u61, u62, u63, u64, u65, u66, u67, u68, u69, u70, u71, u72, u73, u74, u75, u76, u77, u78, u79, u80, u81, u82, u83, u84, u85, u86, u87, u88, u89, u90, u91, u92, u93, u94, u95, u96, u97, u98, u99, u100, u101, u102, u103, u104, u105, u106, u107, u108, u109, u110, u111, u112, u113, u114, u115, u116, u117, u118, u119, u120, u121, u122, u123, u124, u125, u126, u127, u128, u129, u130, u131, u132, u133, u134, u135, u136, u137, u138, u139, u140, u141, u142, u143, u144, u145, u146, u147, u148, u149, u150, u151, u152, u153, u154, u155, u156, u157, u158, u159, u160, u161, u162, u163, u164, u165, u166, u167, u168, u169, u170, u171, u172, u173, u174, u175, u176, u177, u178, u179, u180, u181, u182, u183, u184, u185, u186, u187, u188, u189, u190, u191, u192, u193, u194, u195, u196, u197, u198, u199, u200, u201, u202, u203, u204, u205, u206, u207, u208, u209, u210, u211, u212, u213, u214, u215, u216, u217, u218, u219, u220, u221, c222_, c223_], []⟩ W2 := by
  have hm0 : W2.cell? ⟨bx, 0, none⟩ = some (.int .i64 x0) := (blk_cell HM2.out 0).trans rfl
  have hm1 : W2.cell? ⟨bx, 1, none⟩ = some (.int .i64 x1) := (blk_cell HM2.out 1).trans rfl
  conv => arg 2; whnf
  have d1_ : decide (x1 < 0) = true := decide_eq_true hneg
  clear hneg
  go_wp2_with (first | ((with_reducible refine gate_dst (N := 137) rfl ?_); refine Kd.R_lit k29 (w0 := w) w.heap.size 29 ?hg (N := 137) ?hd (xs := ([⟨2, 0, 0⟩] : List S29)) (inner := [.int .i64 2, .int .i64 0, .int .i64 0]) (ok := fun _ => True) (okp := fun _ => True) ?hr ?hp (fun _ hk => hk) trivial HB2.out HB2.out.size (by simp) ?_; (case hd => rfl); (case hg => rfl); (case hr => first | (go_simp; done) | (go_simp; rfl)); (case hp => exact Reps.c3 (k29_mkM _ _ _ ⟨2, 0, 0⟩) (Reps.none _ _)); intro v8 w8 ho8 hb8 hg_ hnew_; have HY8 := Aside0.mk (HY2.out.step (fun k hk => hg_.block k hk (by simp))); obtain ⟨Ao8, co8, eo8⟩ := Kd.R_slice ho8; subst eo8; have HL8 := Aside0.mk (Kd.R_reads' ho8).2.2; have HB8 := Aside0.mk hb8; clear ho8 hb8 hg_ hnew_) | ((with_reducible refine gate_builtin (b := .append) (xs := #[.tmp 135, .tmp 137]) rfl ?_); at_builtin; refine Kd.R_append_rows k29 (w0 := w) w.heap.size rfl (.tmp 135) (.tmp 137) 24 29 (.agg #[.int .i64 0, .int .i64 0, .int .i64 0]) 24 rfl Try.underlying24 info29s rfl (by decide) (by omega) u12 o [⟨2, 0, 0⟩] _ _ _ (fun _ => True) (fun _ => False) rfl rfl ?aO ?aR k29_M (fun _ h => h.elim) (fun _ _ => trivial) ?aB ?aS ?aL ?_; (case aR => exact HL8.out); (case aO => exact HY8.out.out); (case aB => exact HB8.out); (case aS => exact HB8.out.size); (case aL => rw [show ([⟨2, 0, 0⟩] : List S29).length = 1 from rfl]; have := HLO.out; omega); intro v9 w9 ho hb hg hat; have HY9 := Aside0.mk (HY8.out.newO hg ho); have HB9 := Aside0.mk hb; clear ho hb hg hat))
  exact SW.mk _ _ _ _ _ _ _ _ _ _ _ _ _ _ _ _ _ _ _ _ _ _ _ _ _ _ _ _ _ _ _ _ _ _ _ _ _ _ _ _ _ _ _ _ _ _ _ _ _ _ _ _ _ _ _ _ _ _ _ _ _ _ _ _ _ _ _ _ _ _ _ _ _ _ _ _ _ _ _ _ _ _ _ _ _ _ _ _ _ _ _ _ _ _ _ _ _ _ _ _ _ _ _ _ _ _ _ _ _ _ _ _ _ _ _ _ _ _ _ _ _ _ _ _ _ _ _ _ _ _ _ _ _ _ _ _ _ _ _ _ _ _ _ _ _ _ _ _ _ _ _ _ _ _ _ _ _ _ _ _ _ _ _ _ _ _ _ _ _ _ _ _ _ ⟨f, vs, ws, ds, rg, has, _, rfl, HY9, HLN, HB9, HP, ⟨by rw [List.length_append]; have := HLO.out; simp only [List.length_cons, List.length_nil]; omega⟩⟩
set_option maxHeartbeats 40000000 in
set_option maxRecDepth 1000000 in
theorem sw_low (k : Nat) (l0 : List Int) (t : List S35) (O : List S29) (i : Nat) (w : World) (gw gd cw cd j bx : Nat) (A0 : Option Addr) (c0 : Nat) (c1_ c2_ c3_ c4_ c5_ c6_ c7_ c13_ c18_ c19_ c20_ c21_ c22_ c23_ c24_ c25_ c26_ c27_ c28_ c29_ c30_ c31_ c32_ c33_ c34_ c35_ c36_ c37_ c38_ c39_ c40_ c41_ c42_ c43_ c44_ c45_ c46_ c47_ c48_ c49_ c50_ c51_ c52_ c53_ c54_ c55_ c222_ c223_ u10 u12 u15 u16 u17 u56 u57 u58 u59 u60 u61 u62 u63 u64 u65 u66 u67 u68 u69 u70 u71 u72 u73 u74 u75 u76 u77 u78 u79 u80 u81 u82 u83 u84 u85 u86 u87 u88 u89 u90 u91 u92 u93 u94 u95 u96 u97 u98 u99 u100 u101 u102 u103 u104 u105 u106 u107 u108 u109 u110 u111 u112 u113 u114 u115 u116 u117 u118 u119 u120 u121 u122 u123 u124 u125 u126 u127 u128 u129 u130 u131 u132 u133 u134 u135 u136 u137 u138 u139 u140 u141 u142 u143 u144 u145 u146 u147 u148 u149 u150 u151 u152 u153 u154 u155 u156 u157 u158 u159 u160 u161 u162 u163 u164 u165 u166 u167 u168 u169 u170 u171 u172 u173 u174 u175 u176 u177 u178 u179 u180 u181 u182 u183 u184 u185 u186 u187 u188 u189 u190 u191 u192 u193 u194 u195 u196 u197 u198 u199 u200 u201 u202 u203 u204 u205 u206 u207 u208 u209 u210 u211 u212 u213 u214 u215 u216 u217 u218 u219 u220 u221 : Value) (x0 x1 has : Int) (f : Nat → Nat) (vs : Nat → Value) (ws : List (List Int)) (ds rg : List Int) (o : List S29) (W2 : World) (K : Act → World → Prop) (Q : Exit → Act → World → Prop)
    (HR0 : Aside0 ((Kd.int .i64).C w A0 l0.length l0)) (HN0 : Aside0 (l0.length = j)) (hn6 : j ≤ 6) (hi300 : i ≤ 300) (HLO : Aside0 (o.length ≤ i)) (HLN : Aside0 (ws.length = j ∧ ds.length = j))
    (HM2 : Aside0 (W2.heap[bx]? = some (.cells #[.int .i64 x0, .int .i64 x1] 35 (0, 0)))) (HY2 : Aside0 (RY w W2 gw gd cw cd u10 u12 f vs ws ds rg o)) (HB2 : Aside0 (Below w.heap.size w W2))
    (hneg : ¬ x1 < 0) (hpos : 0 < x1) (c0h : x0 < 0) (HP : Aside0 (refL k l0 t ws ds rg has (o ++ [⟨2, 0, 0⟩]) = some O))
    (HQP : ∀ c a N v w, Q (.panic c) (Act.put a N v) w → Q (.panic c) a w)
    (hexit : ∀ a' w', SW k l0 t O i w gw gd cw cd j bx A0 c0 c1_ c2_ c3_ c4_ c5_ c6_ c7_ c13_ c18_ c19_ c20_ c21_ c22_ c23_ c24_ c25_ c26_ c27_ c28_ c29_ c30_ c31_ c32_ c33_ c34_ c35_ c36_ c37_ c38_ c39_ c40_ c41_ c42_ c43_ c44_ c45_ c46_ c47_ c48_ c49_ c50_ c51_ c52_ c53_ c54_ c55_ c222_ c223_ a' w' → K a' w') :
    Code.wp Try.prog swCode (Exit.then K Q) ⟨#[.slice A0 j c0, c1_, c2_, c3_, c4_, c5_, c6_, c7_, .slice (some ⟨gw, 0, none⟩) j cw, .slice (some ⟨gd, 0, none⟩) j cd, u10, .int .i64 has, u12, c13_, .pointer (some ⟨bx, 0, none⟩), u15, u16, u17, c18_, c19_, c20_, c21_, c22_, c23_, c24_, c25_, c26_, c27_, c28_, c29_, c30_, c31_, c32_, c33_, c34_, c35_, c36_, c37_, c38_, c39_, c40_, c41_, c42_, c43_, c44_, c45_, c46_, c47_, c48_, c49_, c50_, c51_, c52_, c53_, c54_, c55_, u56, u57, u58, u59, u60, u61, u62, u63, u64, u65, u66, u67, u68, u69, u70, u71, u72, u73, u74, u75, u76, u77, u78, u79, u80, u81, u82, u83, u84, u85, u86, u87, u88, u89, u90, u91, u92, u93, u94, u95, u96, u97, u98, u99, u100, u101, u102, u103, u104, u105, u106, u107, u108, u109, u110, u111, u112, u113, u114, u115, u116, u117, u118, u119, u120, u121, u122, u123, u124, u125, u126, u127, u128, u129, u130, u131, u132, u133, u134, u135, u136, u137, u138, u139, u140, u141, u142, u143, u144, u145, u146, u147, u148, u149, u150, u151, u152, u153, u154, u155, u156, u157, u158, u159, u160, u161, u162, u163, u164, u165, u166, u167, u168, u169, u170, u171, u172, u173, u174, u175, u176, u177, u178, u179, u180, u181, u182, u183, u184, u185, u186, u187, u188, u189, u190, u191, u192, u193, u194, u195, u196, u197, u198, u199, u200, u201, u202, u203, u204, u205, u206, u207, u208, u209, u210, u211, u212, u213, u214, u215, u216, u217, u218, u219, u220, u221, c222_, c223_], []⟩ W2 := by
  have hm0 : W2.cell? ⟨bx, 0, none⟩ = some (.int .i64 x0) := (blk_cell HM2.out 0).trans rfl
  have hm1 : W2.cell? ⟨bx, 1, none⟩ = some (.int .i64 x1) := (blk_cell HM2.out 1).trans rfl
  conv => arg 2; whnf
  have d1_ : decide (x1 < 0) = false := decide_eq_false hneg
  have d2_ : decide (0 < x1) = true := decide_eq_true hpos
  have t0_ : decide (x0 < 0) = true := decide_eq_true c0h
  clear c0h
  clear hneg hpos
  go_wp2_with (first | ((with_reducible refine gate_dst (N := 162) rfl ?_); refine Kd.R_lit k29 (w0 := w) w.heap.size 29 ?hg (N := 162) ?hd (xs := ([⟨2, 0, 0⟩] : List S29)) (inner := [.int .i64 2, .int .i64 0, .int .i64 0]) (ok := fun _ => True) (okp := fun _ => True) ?hr ?hp (fun _ hk => hk) trivial HB2.out HB2.out.size (by simp) ?_; (case hd => rfl); (case hg => rfl); (case hr => first | (go_simp; done) | (go_simp; rfl)); (case hp => exact Reps.c3 (k29_mkM _ _ _ ⟨2, 0, 0⟩) (Reps.none _ _)); intro v8 w8 ho8 hb8 hg_ hnew_; have HY8 := Aside0.mk (HY2.out.step (fun k hk => hg_.block k hk (by simp))); obtain ⟨Ao8, co8, eo8⟩ := Kd.R_slice ho8; subst eo8; have HL8 := Aside0.mk (Kd.R_reads' ho8).2.2; have HB8 := Aside0.mk hb8; clear ho8 hb8 hg_ hnew_) | ((with_reducible refine gate_builtin (b := .append) (xs := #[.tmp 160, .tmp 162]) rfl ?_); at_builtin; refine Kd.R_append_rows k29 (w0 := w) w.heap.size rfl (.tmp 160) (.tmp 162) 24 29 (.agg #[.int .i64 0, .int .i64 0, .int .i64 0]) 24 rfl Try.underlying24 info29s rfl (by decide) (by omega) u12 o [⟨2, 0, 0⟩] _ _ _ (fun _ => True) (fun _ => False) rfl rfl ?aO ?aR k29_M (fun _ h => h.elim) (fun _ _ => trivial) ?aB ?aS ?aL ?_; (case aR => exact HL8.out); (case aO => exact HY8.out.out); (case aB => exact HB8.out); (case aS => exact HB8.out.size); (case aL => rw [show ([⟨2, 0, 0⟩] : List S29).length = 1 from rfl]; have := HLO.out; omega); intro v9 w9 ho hb hg hat; have HY9 := Aside0.mk (HY8.out.newO hg ho); have HB9 := Aside0.mk hb; clear ho hb hg hat))
  exact SW.mk _ _ _ _ _ _ _ _ _ _ _ _ _ _ _ _ _ _ _ _ _ _ _ _ _ _ _ _ _ _ _ _ _ _ _ _ _ _ _ _ _ _ _ _ _ _ _ _ _ _ _ _ _ _ _ _ _ _ _ _ _ _ _ _ _ _ _ _ _ _ _ _ _ _ _ _ _ _ _ _ _ _ _ _ _ _ _ _ _ _ _ _ _ _ _ _ _ _ _ _ _ _ _ _ _ _ _ _ _ _ _ _ _ _ _ _ _ _ _ _ _ _ _ _ _ _ _ _ _ _ _ _ _ _ _ _ _ _ _ _ _ _ _ _ _ _ _ _ _ _ _ _ _ _ _ _ _ _ _ _ _ _ _ _ _ _ _ _ _ _ _ _ _ ⟨f, vs, ws, ds, rg, has, _, rfl, HY9, HLN, HB9, HP, ⟨by rw [List.length_append]; have := HLO.out; simp only [List.length_cons, List.length_nil]; omega⟩⟩
set_option maxHeartbeats 40000000 in
set_option maxRecDepth 1000000 in
theorem sw_high (k : Nat) (l0 : List Int) (t : List S35) (O : List S29) (i : Nat) (w : World) (gw gd cw cd j bx : Nat) (A0 : Option Addr) (c0 : Nat) (c1_ c2_ c3_ c4_ c5_ c6_ c7_ c13_ c18_ c19_ c20_ c21_ c22_ c23_ c24_ c25_ c26_ c27_ c28_ c29_ c30_ c31_ c32_ c33_ c34_ c35_ c36_ c37_ c38_ c39_ c40_ c41_ c42_ c43_ c44_ c45_ c46_ c47_ c48_ c49_ c50_ c51_ c52_ c53_ c54_ c55_ c222_ c223_ u10 u12 u15 u16 u17 u56 u57 u58 u59 u60 u61 u62 u63 u64 u65 u66 u67 u68 u69 u70 u71 u72 u73 u74 u75 u76 u77 u78 u79 u80 u81 u82 u83 u84 u85 u86 u87 u88 u89 u90 u91 u92 u93 u94 u95 u96 u97 u98 u99 u100 u101 u102 u103 u104 u105 u106 u107 u108 u109 u110 u111 u112 u113 u114 u115 u116 u117 u118 u119 u120 u121 u122 u123 u124 u125 u126 u127 u128 u129 u130 u131 u132 u133 u134 u135 u136 u137 u138 u139 u140 u141 u142 u143 u144 u145 u146 u147 u148 u149 u150 u151 u152 u153 u154 u155 u156 u157 u158 u159 u160 u161 u162 u163 u164 u165 u166 u167 u168 u169 u170 u171 u172 u173 u174 u175 u176 u177 u178 u179 u180 u181 u182 u183 u184 u185 u186 u187 u188 u189 u190 u191 u192 u193 u194 u195 u196 u197 u198 u199 u200 u201 u202 u203 u204 u205 u206 u207 u208 u209 u210 u211 u212 u213 u214 u215 u216 u217 u218 u219 u220 u221 : Value) (x0 x1 has : Int) (f : Nat → Nat) (vs : Nat → Value) (ws : List (List Int)) (ds rg : List Int) (o : List S29) (W2 : World) (K : Act → World → Prop) (Q : Exit → Act → World → Prop)
    (HR0 : Aside0 ((Kd.int .i64).C w A0 l0.length l0)) (HN0 : Aside0 (l0.length = j)) (hn6 : j ≤ 6) (hi300 : i ≤ 300) (HLO : Aside0 (o.length ≤ i)) (HLN : Aside0 (ws.length = j ∧ ds.length = j))
    (HM2 : Aside0 (W2.heap[bx]? = some (.cells #[.int .i64 x0, .int .i64 x1] 35 (0, 0)))) (HY2 : Aside0 (RY w W2 gw gd cw cd u10 u12 f vs ws ds rg o)) (HB2 : Aside0 (Below w.heap.size w W2))
    (hneg : ¬ x1 < 0) (hpos : 0 < x1) (c0h : ¬ x0 < 0) (c1h : (j : Int) ≤ x0) (HP : Aside0 (refL k l0 t ws ds rg has (o ++ [⟨2, 0, 0⟩]) = some O))
    (HQP : ∀ c a N v w, Q (.panic c) (Act.put a N v) w → Q (.panic c) a w)
    (hexit : ∀ a' w', SW k l0 t O i w gw gd cw cd j bx A0 c0 c1_ c2_ c3_ c4_ c5_ c6_ c7_ c13_ c18_ c19_ c20_ c21_ c22_ c23_ c24_ c25_ c26_ c27_ c28_ c29_ c30_ c31_ c32_ c33_ c34_ c35_ c36_ c37_ c38_ c39_ c40_ c41_ c42_ c43_ c44_ c45_ c46_ c47_ c48_ c49_ c50_ c51_ c52_ c53_ c54_ c55_ c222_ c223_ a' w' → K a' w') :
    Code.wp Try.prog swCode (Exit.then K Q) ⟨#[.slice A0 j c0, c1_, c2_, c3_, c4_, c5_, c6_, c7_, .slice (some ⟨gw, 0, none⟩) j cw, .slice (some ⟨gd, 0, none⟩) j cd, u10, .int .i64 has, u12, c13_, .pointer (some ⟨bx, 0, none⟩), u15, u16, u17, c18_, c19_, c20_, c21_, c22_, c23_, c24_, c25_, c26_, c27_, c28_, c29_, c30_, c31_, c32_, c33_, c34_, c35_, c36_, c37_, c38_, c39_, c40_, c41_, c42_, c43_, c44_, c45_, c46_, c47_, c48_, c49_, c50_, c51_, c52_, c53_, c54_, c55_, u56, u57, u58, u59, u60, u61, u62, u63, u64, u65, u66, u67, u68, u69, u70, u71, u72, u73, u74, u75, u76, u77, u78, u79, u80, u81, u82, u83, u84, u85, u86, u87, u88, u89, u90, u91, u92, u93, u94, u95, u96, u97, u98, u99, u100, u101, u102, u103, u104, u105, u106, u107, u108, u109, u110, u111, u112, u113, u114, u115, u116, u117, u118, u119, u120, u121, u122, u123, u124, u125, u126, u127, u128, u129, u130, u131, u132, u133, u134, u135, u136, u137, u138, u139, u140, u141, u142, u143, u144, u145, u146, u147, u148, u149, u150, u151, u152, u153, u154, u155, u156, u157, u158, u159, u160, u161, u162, u163, u164, u165, u166, u167, u168, u169, u170, u171, u172, u173, u174, u175, u176, u177, u178, u179, u180, u181, u182, u183, u184, u185, u186, u187, u188, u189, u190, u191, u192, u193, u194, u195, u196, u197, u198, u199, u200, u201, u202, u203, u204, u205, u206, u207, u208, u209, u210, u211, u212, u213, u214, u215, u216, u217, u218, u219, u220, u221, c222_, c223_], []⟩ W2 := by
  have hm0 : W2.cell? ⟨bx, 0, none⟩ = some (.int .i64 x0) := (blk_cell HM2.out 0).trans rfl
  have hm1 : W2.cell? ⟨bx, 1, none⟩ = some (.int .i64 x1) := (blk_cell HM2.out 1).trans rfl
  conv => arg 2; whnf
  have d1_ : decide (x1 < 0) = false := decide_eq_false hneg
  have d2_ : decide (0 < x1) = true := decide_eq_true hpos
  have t0_ : decide (x0 < 0) = false := decide_eq_false c0h
  have t1_ : decide ((j : Int) ≤ x0) = true := decide_eq_true c1h
  clear c0h c1h
  clear hneg hpos
  go_wp2_with (first | ((with_reducible refine gate_dst (N := 162) rfl ?_); refine Kd.R_lit k29 (w0 := w) w.heap.size 29 ?hg (N := 162) ?hd (xs := ([⟨2, 0, 0⟩] : List S29)) (inner := [.int .i64 2, .int .i64 0, .int .i64 0]) (ok := fun _ => True) (okp := fun _ => True) ?hr ?hp (fun _ hk => hk) trivial HB2.out HB2.out.size (by simp) ?_; (case hd => rfl); (case hg => rfl); (case hr => first | (go_simp; done) | (go_simp; rfl)); (case hp => exact Reps.c3 (k29_mkM _ _ _ ⟨2, 0, 0⟩) (Reps.none _ _)); intro v8 w8 ho8 hb8 hg_ hnew_; have HY8 := Aside0.mk (HY2.out.step (fun k hk => hg_.block k hk (by simp))); obtain ⟨Ao8, co8, eo8⟩ := Kd.R_slice ho8; subst eo8; have HL8 := Aside0.mk (Kd.R_reads' ho8).2.2; have HB8 := Aside0.mk hb8; clear ho8 hb8 hg_ hnew_) | ((with_reducible refine gate_builtin (b := .append) (xs := #[.tmp 160, .tmp 162]) rfl ?_); at_builtin; refine Kd.R_append_rows k29 (w0 := w) w.heap.size rfl (.tmp 160) (.tmp 162) 24 29 (.agg #[.int .i64 0, .int .i64 0, .int .i64 0]) 24 rfl Try.underlying24 info29s rfl (by decide) (by omega) u12 o [⟨2, 0, 0⟩] _ _ _ (fun _ => True) (fun _ => False) rfl rfl ?aO ?aR k29_M (fun _ h => h.elim) (fun _ _ => trivial) ?aB ?aS ?aL ?_; (case aR => exact HL8.out); (case aO => exact HY8.out.out); (case aB => exact HB8.out); (case aS => exact HB8.out.size); (case aL => rw [show ([⟨2, 0, 0⟩] : List S29).length = 1 from rfl]; have := HLO.out; omega); intro v9 w9 ho hb hg hat; have HY9 := Aside0.mk (HY8.out.newO hg ho); have HB9 := Aside0.mk hb; clear ho hb hg hat))
  exact SW.mk _ _ _ _ _ _ _ _ _ _ _ _ _ _ _ _ _ _ _ _ _ _ _ _ _ _ _ _ _ _ _ _ _ _ _ _ _ _ _ _ _ _ _ _ _ _ _ _ _ _ _ _ _ _ _ _ _ _ _ _ _ _ _ _ _ _ _ _ _ _ _ _ _ _ _ _ _ _ _ _ _ _ _ _ _ _ _ _ _ _ _ _ _ _ _ _ _ _ _ _ _ _ _ _ _ _ _ _ _ _ _ _ _ _ _ _ _ _ _ _ _ _ _ _ _ _ _ _ _ _ _ _ _ _ _ _ _ _ _ _ _ _ _ _ _ _ _ _ _ _ _ _ _ _ _ _ _ _ _ _ _ _ _ _ _ _ _ _ _ _ _ _ _ ⟨f, vs, ws, ds, rg, has, _, rfl, HY9, HLN, HB9, HP, ⟨by rw [List.length_append]; have := HLO.out; simp only [List.length_cons, List.length_nil]; omega⟩⟩
set_option maxHeartbeats 40000000 in
set_option maxRecDepth 1000000 in
theorem sw_big (k : Nat) (l0 : List Int) (t : List S35) (O : List S29) (i : Nat) (w : World) (gw gd cw cd j bx : Nat) (A0 : Option Addr) (c0 : Nat) (c1_ c2_ c3_ c4_ c5_ c6_ c7_ c13_ c18_ c19_ c20_ c21_ c22_ c23_ c24_ c25_ c26_ c27_ c28_ c29_ c30_ c31_ c32_ c33_ c34_ c35_ c36_ c37_ c38_ c39_ c40_ c41_ c42_ c43_ c44_ c45_ c46_ c47_ c48_ c49_ c50_ c51_ c52_ c53_ c54_ c55_ c222_ c223_ u10 u12 u15 u16 u17 u56 u57 u58 u59 u60 u61 u62 u63 u64 u65 u66 u67 u68 u69 u70 u71 u72 u73 u74 u75 u76 u77 u78 u79 u80 u81 u82 u83 u84 u85 u86 u87 u88 u89 u90 u91 u92 u93 u94 u95 u96 u97 u98 u99 u100 u101 u102 u103 u104 u105 u106 u107 u108 u109 u110 u111 u112 u113 u114 u115 u116 u117 u118 u119 u120 u121 u122 u123 u124 u125 u126 u127 u128 u129 u130 u131 u132 u133 u134 u135 u136 u137 u138 u139 u140 u141 u142 u143 u144 u145 u146 u147 u148 u149 u150 u151 u152 u153 u154 u155 u156 u157 u158 u159 u160 u161 u162 u163 u164 u165 u166 u167 u168 u169 u170 u171 u172 u173 u174 u175 u176 u177 u178 u179 u180 u181 u182 u183 u184 u185 u186 u187 u188 u189 u190 u191 u192 u193 u194 u195 u196 u197 u198 u199 u200 u201 u202 u203 u204 u205 u206 u207 u208 u209 u210 u211 u212 u213 u214 u215 u216 u217 u218 u219 u220 u221 : Value) (x0 x1 has : Int) (f : Nat → Nat) (vs : Nat → Value) (ws : List (List Int)) (ds rg : List Int) (o : List S29) (W2 : World) (K : Act → World → Prop) (Q : Exit → Act → World → Prop)
    (HR0 : Aside0 ((Kd.int .i64).C w A0 l0.length l0)) (HN0 : Aside0 (l0.length = j)) (hn6 : j ≤ 6) (hi300 : i ≤ 300) (HLO : Aside0 (o.length ≤ i)) (HLN : Aside0 (ws.length = j ∧ ds.length = j))
    (HM2 : Aside0 (W2.heap[bx]? = some (.cells #[.int .i64 x0, .int .i64 x1] 35 (0, 0)))) (HY2 : Aside0 (RY w W2 gw gd cw cd u10 u12 f vs ws ds rg o)) (HB2 : Aside0 (Below w.heap.size w W2))
    (hneg : ¬ x1 < 0) (hpos : 0 < x1) (c0h : ¬ x0 < 0) (c1h : ¬ (j : Int) ≤ x0) (c2h : 1500 < x1) (HP : Aside0 (refL k l0 t ws ds rg has (o ++ [⟨2, 0, 0⟩]) = some O))
    (HQP : ∀ c a N v w, Q (.panic c) (Act.put a N v) w → Q (.panic c) a w)
    (hexit : ∀ a' w', SW k l0 t O i w gw gd cw cd j bx A0 c0 c1_ c2_ c3_ c4_ c5_ c6_ c7_ c13_ c18_ c19_ c20_ c21_ c22_ c23_ c24_ c25_ c26_ c27_ c28_ c29_ c30_ c31_ c32_ c33_ c34_ c35_ c36_ c37_ c38_ c39_ c40_ c41_ c42_ c43_ c44_ c45_ c46_ c47_ c48_ c49_ c50_ c51_ c52_ c53_ c54_ c55_ c222_ c223_ a' w' → K a' w') :
    Code.wp Try.prog swCode (Exit.then K Q) ⟨#[.slice A0 j c0, c1_, c2_, c3_, c4_, c5_, c6_, c7_, .slice (some ⟨gw, 0, none⟩) j cw, .slice (some ⟨gd, 0, none⟩) j cd, u10, .int .i64 has, u12, c13_, .pointer (some ⟨bx, 0, none⟩), u15, u16, u17, c18_, c19_, c20_, c21_, c22_, c23_, c24_, c25_, c26_, c27_, c28_, c29_, c30_, c31_, c32_, c33_, c34_, c35_, c36_, c37_, c38_, c39_, c40_, c41_, c42_, c43_, c44_, c45_, c46_, c47_, c48_, c49_, c50_, c51_, c52_, c53_, c54_, c55_, u56, u57, u58, u59, u60, u61, u62, u63, u64, u65, u66, u67, u68, u69, u70, u71, u72, u73, u74, u75, u76, u77, u78, u79, u80, u81, u82, u83, u84, u85, u86, u87, u88, u89, u90, u91, u92, u93, u94, u95, u96, u97, u98, u99, u100, u101, u102, u103, u104, u105, u106, u107, u108, u109, u110, u111, u112, u113, u114, u115, u116, u117, u118, u119, u120, u121, u122, u123, u124, u125, u126, u127, u128, u129, u130, u131, u132, u133, u134, u135, u136, u137, u138, u139, u140, u141, u142, u143, u144, u145, u146, u147, u148, u149, u150, u151, u152, u153, u154, u155, u156, u157, u158, u159, u160, u161, u162, u163, u164, u165, u166, u167, u168, u169, u170, u171, u172, u173, u174, u175, u176, u177, u178, u179, u180, u181, u182, u183, u184, u185, u186, u187, u188, u189, u190, u191, u192, u193, u194, u195, u196, u197, u198, u199, u200, u201, u202, u203, u204, u205, u206, u207, u208, u209, u210, u211, u212, u213, u214, u215, u216, u217, u218, u219, u220, u221, c222_, c223_], []⟩ W2 := by
  have hm0 : W2.cell? ⟨bx, 0, none⟩ = some (.int .i64 x0) := (blk_cell HM2.out 0).trans rfl
  have hm1 : W2.cell? ⟨bx, 1, none⟩ = some (.int .i64 x1) := (blk_cell HM2.out 1).trans rfl
  conv => arg 2; whnf
  have d1_ : decide (x1 < 0) = false := decide_eq_false hneg
  have d2_ : decide (0 < x1) = true := decide_eq_true hpos
  have t0_ : decide (x0 < 0) = false := decide_eq_false c0h
  have t1_ : decide ((j : Int) ≤ x0) = false := decide_eq_false c1h
  have t2_ : decide (1500 < x1) = true := decide_eq_true c2h
  clear c0h c1h c2h
  clear hneg hpos
  go_wp2_with (first | ((with_reducible refine gate_dst (N := 162) rfl ?_); refine Kd.R_lit k29 (w0 := w) w.heap.size 29 ?hg (N := 162) ?hd (xs := ([⟨2, 0, 0⟩] : List S29)) (inner := [.int .i64 2, .int .i64 0, .int .i64 0]) (ok := fun _ => True) (okp := fun _ => True) ?hr ?hp (fun _ hk => hk) trivial HB2.out HB2.out.size (by simp) ?_; (case hd => rfl); (case hg => rfl); (case hr => first | (go_simp; done) | (go_simp; rfl)); (case hp => exact Reps.c3 (k29_mkM _ _ _ ⟨2, 0, 0⟩) (Reps.none _ _)); intro v8 w8 ho8 hb8 hg_ hnew_; have HY8 := Aside0.mk (HY2.out.step (fun k hk => hg_.block k hk (by simp))); obtain ⟨Ao8, co8, eo8⟩ := Kd.R_slice ho8; subst eo8; have HL8 := Aside0.mk (Kd.R_reads' ho8).2.2; have HB8 := Aside0.mk hb8; clear ho8 hb8 hg_ hnew_) | ((with_reducible refine gate_builtin (b := .append) (xs := #[.tmp 160, .tmp 162]) rfl ?_); at_builtin; refine Kd.R_append_rows k29 (w0 := w) w.heap.size rfl (.tmp 160) (.tmp 162) 24 29 (.agg #[.int .i64 0, .int .i64 0, .int .i64 0]) 24 rfl Try.underlying24 info29s rfl (by decide) (by omega) u12 o [⟨2, 0, 0⟩] _ _ _ (fun _ => True) (fun _ => False) rfl rfl ?aO ?aR k29_M (fun _ h => h.elim) (fun _ _ => trivial) ?aB ?aS ?aL ?_; (case aR => exact HL8.out); (case aO => exact HY8.out.out); (case aB => exact HB8.out); (case aS => exact HB8.out.size); (case aL => rw [show ([⟨2, 0, 0⟩] : List S29).length = 1 from rfl]; have := HLO.out; omega); intro v9 w9 ho hb hg hat; have HY9 := Aside0.mk (HY8.out.newO hg ho); have HB9 := Aside0.mk hb; clear ho hb hg hat))
  exact SW.mk _ _ _ _ _ _ _ _ _ _ _ _ _ _ _ _ _ _ _ _ _ _ _ _ _ _ _ _ _ _ _ _ _ _ _ _ _ _ _ _ _ _ _ _ _ _ _ _ _ _ _ _ _ _ _ _ _ _ _ _ _ _ _ _ _ _ _ _ _ _ _ _ _ _ _ _ _ _ _ _ _ _ _ _ _ _ _ _ _ _ _ _ _ _ _ _ _ _ _ _ _ _ _ _ _ _ _ _ _ _ _ _ _ _ _ _ _ _ _ _ _ _ _ _ _ _ _ _ _ _ _ _ _ _ _ _ _ _ _ _ _ _ _ _ _ _ _ _ _ _ _ _ _ _ _ _ _ _ _ _ _ _ _ _ _ _ _ _ _ _ _ _ _ ⟨f, vs, ws, ds, rg, has, _, rfl, HY9, HLN, HB9, HP, ⟨by rw [List.length_append]; have := HLO.out; simp only [List.length_cons, List.length_nil]; omega⟩⟩
set_option maxHeartbeats 40000000 in
set_option maxRecDepth 1000000 in
theorem sw_full (k : Nat) (l0 : List Int) (t : List S35) (O : List S29) (i : Nat) (w : World) (gw gd cw cd j bx : Nat) (A0 : Option Addr) (c0 : Nat) (c1_ c2_ c3_ c4_ c5_ c6_ c7_ c13_ c18_ c19_ c20_ c21_ c22_ c23_ c24_ c25_ c26_ c27_ c28_ c29_ c30_ c31_ c32_ c33_ c34_ c35_ c36_ c37_ c38_ c39_ c40_ c41_ c42_ c43_ c44_ c45_ c46_ c47_ c48_ c49_ c50_ c51_ c52_ c53_ c54_ c55_ c222_ c223_ u10 u12 u15 u16 u17 u56 u57 u58 u59 u60 u61 u62 u63 u64 u65 u66 u67 u68 u69 u70 u71 u72 u73 u74 u75 u76 u77 u78 u79 u80 u81 u82 u83 u84 u85 u86 u87 u88 u89 u90 u91 u92 u93 u94 u95 u96 u97 u98 u99 u100 u101 u102 u103 u104 u105 u106 u107 u108 u109 u110 u111 u112 u113 u114 u115 u116 u117 u118 u119 u120 u121 u122 u123 u124 u125 u126 u127 u128 u129 u130 u131 u132 u133 u134 u135 u136 u137 u138 u139 u140 u141 u142 u143 u144 u145 u146 u147 u148 u149 u150 u151 u152 u153 u154 u155 u156 u157 u158 u159 u160 u161 u162 u163 u164 u165 u166 u167 u168 u169 u170 u171 u172 u173 u174 u175 u176 u177 u178 u179 u180 u181 u182 u183 u184 u185 u186 u187 u188 u189 u190 u191 u192 u193 u194 u195 u196 u197 u198 u199 u200 u201 u202 u203 u204 u205 u206 u207 u208 u209 u210 u211 u212 u213 u214 u215 u216 u217 u218 u219 u220 u221 : Value) (x0 x1 has : Int) (f : Nat → Nat) (vs : Nat → Value) (ws : List (List Int)) (ds rg : List Int) (o : List S29) (W2 : World) (K : Act → World → Prop) (Q : Exit → Act → World → Prop)
    (HR0 : Aside0 ((Kd.int .i64).C w A0 l0.length l0)) (HN0 : Aside0 (l0.length = j)) (hn6 : j ≤ 6) (hi300 : i ≤ 300) (HLO : Aside0 (o.length ≤ i)) (HLN : Aside0 (ws.length = j ∧ ds.length = j))
    (HM2 : Aside0 (W2.heap[bx]? = some (.cells #[.int .i64 x0, .int .i64 x1] 35 (0, 0)))) (HY2 : Aside0 (RY w W2 gw gd cw cd u10 u12 f vs ws ds rg o)) (HB2 : Aside0 (Below w.heap.size w W2))
    (hneg : ¬ x1 < 0) (hpos : 0 < x1) (i0 : Nat) (hx0 : x0 = (i0 : Int)) (hi0 : i0 < j) (h1500 : ¬ 1500 < x1) (L : Nat) (HL : Aside0 ((ws.getD i0 []).length = L)) (hfull : 40 ≤ L) (HP : Aside0 (refL k l0 t ws ds rg has (o ++ [⟨9, 0, 0⟩]) = some O))
    (HQP : ∀ c a N v w, Q (.panic c) (Act.put a N v) w → Q (.panic c) a w)
    (hexit : ∀ a' w', SW k l0 t O i w gw gd cw cd j bx A0 c0 c1_ c2_ c3_ c4_ c5_ c6_ c7_ c13_ c18_ c19_ c20_ c21_ c22_ c23_ c24_ c25_ c26_ c27_ c28_ c29_ c30_ c31_ c32_ c33_ c34_ c35_ c36_ c37_ c38_ c39_ c40_ c41_ c42_ c43_ c44_ c45_ c46_ c47_ c48_ c49_ c50_ c51_ c52_ c53_ c54_ c55_ c222_ c223_ a' w' → K a' w') :
    Code.wp Try.prog swCode (Exit.then K Q) ⟨#[.slice A0 j c0, c1_, c2_, c3_, c4_, c5_, c6_, c7_, .slice (some ⟨gw, 0, none⟩) j cw, .slice (some ⟨gd, 0, none⟩) j cd, u10, .int .i64 has, u12, c13_, .pointer (some ⟨bx, 0, none⟩), u15, u16, u17, c18_, c19_, c20_, c21_, c22_, c23_, c24_, c25_, c26_, c27_, c28_, c29_, c30_, c31_, c32_, c33_, c34_, c35_, c36_, c37_, c38_, c39_, c40_, c41_, c42_, c43_, c44_, c45_, c46_, c47_, c48_, c49_, c50_, c51_, c52_, c53_, c54_, c55_, u56, u57, u58, u59, u60, u61, u62, u63, u64, u65, u66, u67, u68, u69, u70, u71, u72, u73, u74, u75, u76, u77, u78, u79, u80, u81, u82, u83, u84, u85, u86, u87, u88, u89, u90, u91, u92, u93, u94, u95, u96, u97, u98, u99, u100, u101, u102, u103, u104, u105, u106, u107, u108, u109, u110, u111, u112, u113, u114, u115, u116, u117, u118, u119, u120, u121, u122, u123, u124, u125, u126, u127, u128, u129, u130, u131, u132, u133, u134, u135, u136, u137, u138, u139, u140, u141, u142, u143, u144, u145, u146, u147, u148, u149, u150, u151, u152, u153, u154, u155, u156, u157, u158, u159, u160, u161, u162, u163, u164, u165, u166, u167, u168, u169, u170, u171, u172, u173, u174, u175, u176, u177, u178, u179, u180, u181, u182, u183, u184, u185, u186, u187, u188, u189, u190, u191, u192, u193, u194, u195, u196, u197, u198, u199, u200, u201, u202, u203, u204, u205, u206, u207, u208, u209, u210, u211, u212, u213, u214, u215, u216, u217, u218, u219, u220, u221, c222_, c223_], []⟩ W2 := by
  have hm0 : W2.cell? ⟨bx, 0, none⟩ = some (.int .i64 x0) := (blk_cell HM2.out 0).trans rfl
  have hm1 : W2.cell? ⟨bx, 1, none⟩ = some (.int .i64 x1) := (blk_cell HM2.out 1).trans rfl
  conv => arg 2; whnf
  have d1_ : decide (x1 < 0) = false := decide_eq_false hneg
  have d2_ : decide (0 < x1) = true := decide_eq_true hpos
  subst hx0
  have t0_ : decide ((i0 : Int) < 0) = false := decide_eq_false (by omega)
  have t1_ : decide ((j : Int) ≤ (i0 : Int)) = false := decide_eq_false (by omega)
  have t1n_ : decide (j ≤ i0) = false := decide_eq_false (by omega)
  have t2_ : decide (1500 < x1) = false := decide_eq_false h1500
  have pi_ : (0 ≤ (i0 : Int)) = True := eq_true (by omega)
  have qi_ : ((i0 : Int) < (j : Int)) = True := eq_true (by omega)
  have hiw : i0 < ws.length := by rw [HLN.out.1]; exact hi0
  obtain ⟨Aq, cq, hvs, hcq⟩ := Kd.Q_slice (HY2.out.qs' hiw)
  have hcw := (HY2.out.w i0 hiw).trans (congrArg some hvs)
  rw [HL.out] at hcw hvs hcq
  have HVS := Aside0.mk hvs
  clear hvs hiw hcq h1500
  have u0_ : decide (40 ≤ L) = true := decide_eq_true hfull
  have u1_ : decide (40 ≤ (L : Int)) = true := decide_eq_true (by omega)
  clear hneg hpos hfull
  go_wp2_with (first | ((with_reducible refine gate_dst (N := 179) rfl ?_); refine Kd.R_lit k29 (w0 := w) w.heap.size 29 ?hg (N := 179) ?hd (xs := ([⟨9, 0, 0⟩] : List S29)) (inner := [.int .i64 9, .int .i64 0, .int .i64 0]) (ok := fun _ => True) (okp := fun _ => True) ?hr ?hp (fun _ hk => hk) trivial HB2.out HB2.out.size (by simp) ?_; (case hd => rfl); (case hg => rfl); (case hr => first | (go_simp; done) | (go_simp; rfl)); (case hp => exact Reps.c3 (k29_mkM _ _ _ ⟨9, 0, 0⟩) (Reps.none _ _)); intro v8 w8 ho8 hb8 hg_ hnew_; have HY8 := Aside0.mk (HY2.out.step (fun k hk => hg_.block k hk (by simp))); obtain ⟨Ao8, co8, eo8⟩ := Kd.R_slice ho8; subst eo8; have HL8 := Aside0.mk (Kd.R_reads' ho8).2.2; have HB8 := Aside0.mk hb8; clear ho8 hb8 hg_ hnew_) | ((with_reducible refine gate_builtin (b := .append) (xs := #[.tmp 177, .tmp 179]) rfl ?_); at_builtin; refine Kd.R_append_rows k29 (w0 := w) w.heap.size rfl (.tmp 177) (.tmp 179) 24 29 (.agg #[.int .i64 0, .int .i64 0, .int .i64 0]) 24 rfl Try.underlying24 info29s rfl (by decide) (by omega) u12 o [⟨9, 0, 0⟩] _ _ _ (fun _ => True) (fun _ => False) rfl rfl ?aO ?aR k29_M (fun _ h => h.elim) (fun _ _ => trivial) ?aB ?aS ?aL ?_; (case aR => exact HL8.out); (case aO => exact HY8.out.out); (case aB => exact HB8.out); (case aS => exact HB8.out.size); (case aL => rw [show ([⟨9, 0, 0⟩] : List S29).length = 1 from rfl]; have := HLO.out; omega); intro v9 w9 ho hb hg hat; have HY9 := Aside0.mk (HY8.out.newO hg ho); have HB9 := Aside0.mk hb; clear ho hb hg hat))
  exact SW.mk _ _ _ _ _ _ _ _ _ _ _ _ _ _ _ _ _ _ _ _ _ _ _ _ _ _ _ _ _ _ _ _ _ _ _ _ _ _ _ _ _ _ _ _ _ _ _ _ _ _ _ _ _ _ _ _ _ _ _ _ _ _ _ _ _ _ _ _ _ _ _ _ _ _ _ _ _ _ _ _ _ _ _ _ _ _ _ _ _ _ _ _ _ _ _ _ _ _ _ _ _ _ _ _ _ _ _ _ _ _ _ _ _ _ _ _ _ _ _ _ _ _ _ _ _ _ _ _ _ _ _ _ _ _ _ _ _ _ _ _ _ _ _ _ _ _ _ _ _ _ _ _ _ _ _ _ _ _ _ _ _ _ _ _ _ _ _ _ _ _ _ _ _ ⟨f, vs, ws, ds, rg, has, _, rfl, HY9, HLN, HB9, HP, ⟨by rw [List.length_append]; have := HLO.out; simp only [List.length_cons, List.length_nil]; omega⟩⟩
set_option maxHeartbeats 40000000 in
set_option maxRecDepth 1000000 in
theorem sw_none (k : Nat) (l0 : List Int) (t : List S35) (O : List S29) (i : Nat) (w : World) (gw gd cw cd j bx : Nat) (A0 : Option Addr) (c0 : Nat) (c1_ c2_ c3_ c4_ c5_ c6_ c7_ c13_ c18_ c19_ c20_ c21_ c22_ c23_ c24_ c25_ c26_ c27_ c28_ c29_ c30_ c31_ c32_ c33_ c34_ c35_ c36_ c37_ c38_ c39_ c40_ c41_ c42_ c43_ c44_ c45_ c46_ c47_ c48_ c49_ c50_ c51_ c52_ c53_ c54_ c55_ c222_ c223_ u10 u12 u15 u16 u17 u56 u57 u58 u59 u60 u61 u62 u63 u64 u65 u66 u67 u68 u69 u70 u71 u72 u73 u74 u75 u76 u77 u78 u79 u80 u81 u82 u83 u84 u85 u86 u87 u88 u89 u90 u91 u92 u93 u94 u95 u96 u97 u98 u99 u100 u101 u102 u103 u104 u105 u106 u107 u108 u109 u110 u111 u112 u113 u114 u115 u116 u117 u118 u119 u120 u121 u122 u123 u124 u125 u126 u127 u128 u129 u130 u131 u132 u133 u134 u135 u136 u137 u138 u139 u140 u141 u142 u143 u144 u145 u146 u147 u148 u149 u150 u151 u152 u153 u154 u155 u156 u157 u158 u159 u160 u161 u162 u163 u164 u165 u166 u167 u168 u169 u170 u171 u172 u173 u174 u175 u176 u177 u178 u179 u180 u181 u182 u183 u184 u185 u186 u187 u188 u189 u190 u191 u192 u193 u194 u195 u196 u197 u198 u199 u200 u201 u202 u203 u204 u205 u206 u207 u208 u209 u210 u211 u212 u213 u214 u215 u216 u217 u218 u219 u220 u221 : Value) (x0 x1 has : Int) (f : Nat → Nat) (vs : Nat → Value) (ws : List (List Int)) (ds rg : List Int) (o : List S29) (W2 : World) (K : Act → World → Prop) (Q : Exit → Act → World → Prop)
    (HR0 : Aside0 ((Kd.int .i64).C w A0 l0.length l0)) (HN0 : Aside0 (l0.length = j)) (hn6 : j ≤ 6) (hi300 : i ≤ 300) (HLO : Aside0 (o.length ≤ i)) (HLN : Aside0 (ws.length = j ∧ ds.length = j))
    (HM2 : Aside0 (W2.heap[bx]? = some (.cells #[.int .i64 x0, .int .i64 x1] 35 (0, 0)))) (HY2 : Aside0 (RY w W2 gw gd cw cd u10 u12 f vs ws ds rg o)) (HB2 : Aside0 (Below w.heap.size w W2))
    (hneg : ¬ x1 < 0) (hpos : ¬ 0 < x1) (hr0 : rg.length = 0) (HP : Aside0 (refL k l0 t ws ds rg has (o ++ [⟨7, 0, 0⟩]) = some O))
    (HQP : ∀ c a N v w, Q (.panic c) (Act.put a N v) w → Q (.panic c) a w)
    (hexit : ∀ a' w', SW k l0 t O i w gw gd cw cd j bx A0 c0 c1_ c2_ c3_ c4_ c5_ c6_ c7_ c13_ c18_ c19_ c20_ c21_ c22_ c23_ c24_ c25_ c26_ c27_ c28_ c29_ c30_ c31_ c32_ c33_ c34_ c35_ c36_ c37_ c38_ c39_ c40_ c41_ c42_ c43_ c44_ c45_ c46_ c47_ c48_ c49_ c50_ c51_ c52_ c53_ c54_ c55_ c222_ c223_ a' w' → K a' w') :
    Code.wp Try.prog swCode (Exit.then K Q) ⟨#[.slice A0 j c0, c1_, c2_, c3_, c4_, c5_, c6_, c7_, .slice (some ⟨gw, 0, none⟩) j cw, .slice (some ⟨gd, 0, none⟩) j cd, u10, .int .i64 has, u12, c13_, .pointer (some ⟨bx, 0, none⟩), u15, u16, u17, c18_, c19_, c20_, c21_, c22_, c23_, c24_, c25_, c26_, c27_, c28_, c29_, c30_, c31_, c32_, c33_, c34_, c35_, c36_, c37_, c38_, c39_, c40_, c41_, c42_, c43_, c44_, c45_, c46_, c47_, c48_, c49_, c50_, c51_, c52_, c53_, c54_, c55_, u56, u57, u58, u59, u60, u61, u62, u63, u64, u65, u66, u67, u68, u69, u70, u71, u72, u73, u74, u75, u76, u77, u78, u79, u80, u81, u82, u83, u84, u85, u86, u87, u88, u89, u90, u91, u92, u93, u94, u95, u96, u97, u98, u99, u100, u101, u102, u103, u104, u105, u106, u107, u108, u109, u110, u111, u112, u113, u114, u115, u116, u117, u118, u119, u120, u121, u122, u123, u124, u125, u126, u127, u128, u129, u130, u131, u132, u133, u134, u135, u136, u137, u138, u139, u140, u141, u142, u143, u144, u145, u146, u147, u148, u149, u150, u151, u152, u153, u154, u155, u156, u157, u158, u159, u160, u161, u162, u163, u164, u165, u166, u167, u168, u169, u170, u171, u172, u173, u174, u175, u176, u177, u178, u179, u180, u181, u182, u183, u184, u185, u186, u187, u188, u189, u190, u191, u192, u193, u194, u195, u196, u197, u198, u199, u200, u201, u202, u203, u204, u205, u206, u207, u208, u209, u210, u211, u212, u213, u214, u215, u216, u217, u218, u219, u220, u221, c222_, c223_], []⟩ W2 := by
  have hm0 : W2.cell? ⟨bx, 0, none⟩ = some (.int .i64 x0) := (blk_cell HM2.out 0).trans rfl
  have hm1 : W2.cell? ⟨bx, 1, none⟩ = some (.int .i64 x1) := (blk_cell HM2.out 1).trans rfl
  conv => arg 2; whnf
  have d1_ : decide (x1 < 0) = false := decide_eq_false hneg
  have d2_ : decide (0 < x1) = false := decide_eq_false hpos
  obtain ⟨Ar, cr, hvr, _⟩ := Kd.Q_slice HY2.out.qr
  rw [hr0] at hvr
  subst hvr
  clear hneg hpos hr0
  go_wp2_with (first | ((with_reducible refine gate_dst (N := 220) rfl ?_); refine Kd.R_lit k29 (w0 := w) w.heap.size 29 ?hg (N := 220) ?hd (xs := ([⟨7, 0, 0⟩] : List S29)) (inner := [.int .i64 7, .int .i64 0, .int .i64 0]) (ok := fun _ => True) (okp := fun _ => True) ?hr ?hp (fun _ hk => hk) trivial HB2.out HB2.out.size (by simp) ?_; (case hd => rfl); (case hg => rfl); (case hr => first | (go_simp; done) | (go_simp; rfl)); (case hp => exact Reps.c3 (k29_mkM _ _ _ ⟨7, 0, 0⟩) (Reps.none _ _)); intro v8 w8 ho8 hb8 hg_ hnew_; have HY8 := Aside0.mk (HY2.out.step (fun k hk => hg_.block k hk (by simp))); obtain ⟨Ao8, co8, eo8⟩ := Kd.R_slice ho8; subst eo8; have HL8 := Aside0.mk (Kd.R_reads' ho8).2.2; have HB8 := Aside0.mk hb8; clear ho8 hb8 hg_ hnew_) | ((with_reducible refine gate_builtin (b := .append) (xs := #[.tmp 218, .tmp 220]) rfl ?_); at_builtin; refine Kd.R_append_rows k29 (w0 := w) w.heap.size rfl (.tmp 218) (.tmp 220) 24 29 (.agg #[.int .i64 0, .int .i64 0, .int .i64 0]) 24 rfl Try.underlying24 info29s rfl (by decide) (by omega) u12 o [⟨7, 0, 0⟩] _ _ _ (fun _ => True) (fun _ => False) rfl rfl ?aO ?aR k29_M (fun _ h => h.elim) (fun _ _ => trivial) ?aB ?aS ?aL ?_; (case aR => exact HL8.out); (case aO => exact HY8.out.out); (case aB => exact HB8.out); (case aS => exact HB8.out.size); (case aL => rw [show ([⟨7, 0, 0⟩] : List S29).length = 1 from rfl]; have := HLO.out; omega); intro v9 w9 ho hb hg hat; have HY9 := Aside0.mk (HY8.out.newO hg ho); have HB9 := Aside0.mk hb; clear ho hb hg hat))
  exact SW.mk _ _ _ _ _ _ _ _ _ _ _ _ _ _ _ _ _ _ _ _ _ _ _ _ _ _ _ _ _ _ _ _ _ _ _ _ _ _ _ _ _ _ _ _ _ _ _ _ _ _ _ _ _ _ _ _ _ _ _ _ _ _ _ _ _ _ _ _ _ _ _ _ _ _ _ _ _ _ _ _ _ _ _ _ _ _ _ _ _ _ _ _ _ _ _ _ _ _ _ _ _ _ _ _ _ _ _ _ _ _ _ _ _ _ _ _ _ _ _ _ _ _ _ _ _ _ _ _ _ _ _ _ _ _ _ _ _ _ _ _ _ _ _ _ _ _ _ _ _ _ _ _ _ _ _ _ _ _ _ _ _ _ _ _ _ _ _ _ _ _ _ _ _ ⟨f, vs, ws, ds, rg, has, _, rfl, HY9, HLN, HB9, HP, ⟨by rw [List.length_append]; have := HLO.out; simp only [List.length_cons, List.length_nil]; omega⟩⟩
def frec.T42 : Bool × List (List Nat × List Nat) := (true, [([], []), ([], []), ([1], [1]), ([], []), ([], []), ([4], [4]), ([3, 5], [3, 5]), ([6], [6]), ([], []), ([8], [8]), ([9], [9]), ([7, 10], [7, 10]), ([0, 2, 0, 1, 2, 3, 4, 5, 6, 7, 8, 9, 10, 11], [0, 2]), ([12, 11, 11, 0, 1, 2, 3, 4, 5, 6, 7, 8, 9, 10, 11], [11, 12])])
def frec.B42 : List Nat := [0, 0, 2, 0, 0, 16, 56, 120, 0, 256, 768, 2040, 4095, 8191]
theorem frec.tab42 : rtab .any (opsOf Try.f10 42) = frec.T42 := by kernel_rfl
theorem frec.bits42 : waitsOk frec.T42.2 frec.B42 = true := by kernel_rfl
theorem getD_ws {ws : List (List Int)} {i : Nat} {q : List Int} (h : ws.getD i [] = q) : ws.getD i [] = q := h
set_option maxHeartbeats 40000000 in
set_option maxRecDepth 1000000 in
theorem sw_more (k : Nat) (l0 : List Int) (t : List S35) (O : List S29) (i : Nat) (w : World) (gw gd cw cd j bx : Nat) (A0 : Option Addr) (c0 : Nat) (c1_ c2_ c3_ c4_ c5_ c6_ c7_ c13_ c18_ c19_ c20_ c21_ c22_ c23_ c24_ c25_ c26_ c27_ c28_ c29_ c30_ c31_ c32_ c33_ c34_ c35_ c36_ c37_ c38_ c39_ c40_ c41_ c42_ c43_ c44_ c45_ c46_ c47_ c48_ c49_ c50_ c51_ c52_ c53_ c54_ c55_ c222_ c223_ u10 u12 u15 u16 u17 u56 u57 u58 u59 u60 u61 u62 u63 u64 u65 u66 u67 u68 u69 u70 u71 u72 u73 u74 u75 u76 u77 u78 u79 u80 u81 u82 u83 u84 u85 u86 u87 u88 u89 u90 u91 u92 u93 u94 u95 u96 u97 u98 u99 u100 u101 u102 u103 u104 u105 u106 u107 u108 u109 u110 u111 u112 u113 u114 u115 u116 u117 u118 u119 u120 u121 u122 u123 u124 u125 u126 u127 u128 u129 u130 u131 u132 u133 u134 u135 u136 u137 u138 u139 u140 u141 u142 u143 u144 u145 u146 u147 u148 u149 u150 u151 u152 u153 u154 u155 u156 u157 u158 u159 u160 u161 u162 u163 u164 u165 u166 u167 u168 u169 u170 u171 u172 u173 u174 u175 u176 u177 u178 u179 u180 u181 u182 u183 u184 u185 u186 u187 u188 u189 u190 u191 u192 u193 u194 u195 u196 u197 u198 u199 u200 u201 u202 u203 u204 u205 u206 u207 u208 u209 u210 u211 u212 u213 u214 u215 u216 u217 u218 u219 u220 u221 : Value) (x0 x1 has : Int) (f : Nat → Nat) (vs : Nat → Value) (ws : List (List Int)) (ds rg : List Int) (o : List S29) (W2 : World) (K : Act → World → Prop) (Q : Exit → Act → World → Prop)
    (HR0 : Aside0 ((Kd.int .i64).C w A0 l0.length l0)) (HN0 : Aside0 (l0.length = j)) (hn6 : j ≤ 6) (hi300 : i ≤ 300) (HLO : Aside0 (o.length ≤ i)) (HLN : Aside0 (ws.length = j ∧ ds.length = j))
    (HM2 : Aside0 (W2.heap[bx]? = some (.cells #[.int .i64 x0, .int .i64 x1] 35 (0, 0)))) (HY2 : Aside0 (RY w W2 gw gd cw cd u10 u12 f vs ws ds rg o)) (HB2 : Aside0 (Below w.heap.size w W2))
    (hneg : ¬ x1 < 0) (hpos : 0 < x1) (i0 : Nat) (hx0 : x0 = (i0 : Int)) (hi0 : i0 < j) (h1500 : ¬ 1500 < x1) (L : Nat) (HL : Aside0 ((ws.getD i0 []).length = L)) (hfull : ¬ 40 ≤ L) (hrl : rg.length < 1000) (hL0 : L ≠ 0) (HP : Aside0 (refL k l0 t (ws.set i0 (ws.getD i0 [] ++ [x1])) ds rg has (o ++ [⟨0, 0, 0⟩]) = some O))
    (HQP : ∀ c a N v w, Q (.panic c) (Act.put a N v) w → Q (.panic c) a w)
    (hexit : ∀ a' w', SW k l0 t O i w gw gd cw cd j bx A0 c0 c1_ c2_ c3_ c4_ c5_ c6_ c7_ c13_ c18_ c19_ c20_ c21_ c22_ c23_ c24_ c25_ c26_ c27_ c28_ c29_ c30_ c31_ c32_ c33_ c34_ c35_ c36_ c37_ c38_ c39_ c40_ c41_ c42_ c43_ c44_ c45_ c46_ c47_ c48_ c49_ c50_ c51_ c52_ c53_ c54_ c55_ c222_ c223_ a' w' → K a' w') :
    Code.wp Try.prog swCode (Exit.then K Q) ⟨#[.slice A0 j c0, c1_, c2_, c3_, c4_, c5_, c6_, c7_, .slice (some ⟨gw, 0, none⟩) j cw, .slice (some ⟨gd, 0, none⟩) j cd, u10, .int .i64 has, u12, c13_, .pointer (some ⟨bx, 0, none⟩), u15, u16, u17, c18_, c19_, c20_, c21_, c22_, c23_, c24_, c25_, c26_, c27_, c28_, c29_, c30_, c31_, c32_, c33_, c34_, c35_, c36_, c37_, c38_, c39_, c40_, c41_, c42_, c43_, c44_, c45_, c46_, c47_, c48_, c49_, c50_, c51_, c52_, c53_, c54_, c55_, u56, u57, u58, u59, u60, u61, u62, u63, u64, u65, u66, u67, u68, u69, u70, u71, u72, u73, u74, u75, u76, u77, u78, u79, u80, u81, u82, u83, u84, u85, u86, u87, u88, u89, u90, u91, u92, u93, u94, u95, u96, u97, u98, u99, u100, u101, u102, u103, u104, u105, u106, u107, u108, u109, u110, u111, u112, u113, u114, u115, u116, u117, u118, u119, u120, u121, u122, u123, u124, u125, u126, u127, u128, u129, u130, u131, u132, u133, u134, u135, u136, u137, u138, u139, u140, u141, u142, u143, u144, u145, u146, u147, u148, u149, u150, u151, u152, u153, u154, u155, u156, u157, u158, u159, u160, u161, u162, u163, u164, u165, u166, u167, u168, u169, u170, u171, u172, u173, u174, u175, u176, u177, u178, u179, u180, u181, u182, u183, u184, u185, u186, u187, u188, u189, u190, u191, u192, u193, u194, u195, u196, u197, u198, u199, u200, u201, u202, u203, u204, u205, u206, u207, u208, u209, u210, u211, u212, u213, u214, u215, u216, u217, u218, u219, u220, u221, c222_, c223_], []⟩ W2 := by
  have hm0 : W2.cell? ⟨bx, 0, none⟩ = some (.int .i64 x0) := (blk_cell HM2.out 0).trans rfl
  have hm1 : W2.cell? ⟨bx, 1, none⟩ = some (.int .i64 x1) := (blk_cell HM2.out 1).trans rfl
  conv => arg 2; whnf
  have d1_ : decide (x1 < 0) = false := decide_eq_false hneg
  have d2_ : decide (0 < x1) = true := decide_eq_true hpos
  subst hx0
  have t0_ : decide ((i0 : Int) < 0) = false := decide_eq_false (by omega)
  have t1_ : decide ((j : Int) ≤ (i0 : Int)) = false := decide_eq_false (by omega)
  have t1n_ : decide (j ≤ i0) = false := decide_eq_false (by omega)
  have t2_ : decide (1500 < x1) = false := decide_eq_false h1500
  have pi_ : (0 ≤ (i0 : Int)) = True := eq_true (by omega)
  have qi_ : ((i0 : Int) < (j : Int)) = True := eq_true (by omega)
  have hiw : i0 < ws.length := by rw [HLN.out.1]; exact hi0
  obtain ⟨Aq, cq, hvs, hcq⟩ := Kd.Q_slice (HY2.out.qs' hiw)
  have hcw := (HY2.out.w i0 hiw).trans (congrArg some hvs)
  rw [HL.out] at hcw hvs hcq
  have HVS := Aside0.mk hvs
  clear hvs hiw hcq h1500
  have HIW : Aside0 (i0 < ws.length) := ⟨by rw [HLN.out.1]; exact hi0⟩
  obtain ⟨q, hq_⟩ : ∃ q, ws.getD i0 [] = q := ⟨_, rfl⟩
  have HQE := Aside0.mk hq_
  have HQL : Aside0 (q.length = L) := ⟨by rw [← hq_]; exact HL.out⟩
  have HL40 : Aside0 (L < 40) := ⟨by omega⟩
  have HRL := Aside0.mk hrl
  have u0_ : decide (40 ≤ L) = false := decide_eq_false hfull
  have u1_ : decide (40 ≤ (L : Int)) = false := decide_eq_false (by omega)
  clear hq_ hneg hpos hfull hrl
  have e0_ : ((L : Int) == 0) = false := beq_eq_false_iff_ne.2 (by omega)
  have e1_ : (L == 0) = false := beq_eq_false_iff_ne.2 hL0
  clear hL0
  go_upto_region 42 with (fail)
  clear hm0 hm1 hcw
  obtain ⟨W3, hW3⟩ : ∃ W, W = W2 := ⟨_, rfl⟩
  rw [← hW3] at HM2 HY2 HB2 ⊢
  have HM3 := HM2
  have HY3 := HY2
  have HB3 := HB2
  have hn0 : W3.cell? ⟨bx, 0, none⟩ = some (.int .i64 (i0 : Int)) := (blk_cell HM3.out 0).trans rfl
  have hn1 : W3.cell? ⟨bx, 1, none⟩ = some (.int .i64 x1) := (blk_cell HM3.out 1).trans rfl
  have hcw3 := (HY3.out.w i0 HIW.out).trans (congrArg some HVS.out)
  clear hW3 HM2 HY2 HB2
  refine start_ (n := 14) (S := fun w' => w'.cell? ⟨bx, 0, none⟩ = some (.int .i64 (i0 : Int)) ∧ w'.cell? ⟨bx, 1, none⟩ = some (.int .i64 x1) ∧ w'.cell? ⟨gw, i0, none⟩ = some (.slice Aq L cq)) (ds := [13]) #[false, false, false, false, false, false, false, false, false, false, false, false, false, false] (by kernel_rfl) rfl rfl ⟨hn0, hn1, hcw3⟩ (fun hHeld => ?_)
  refine with_tabW frec.tab42 frec.bits42 (fun HT_ HW_ => ?_)
  obtain ⟨W4, hw_⟩ : ∃ w, w = W3.drew := ⟨_, rfl⟩
  have hl_ : Below W3.heap.size W3 W4 := by rw [hw_]; exact below_drew1 (Below.refl _ _)
  rw [← hw_] at hHeld ⊢
  have HY4 := Aside0.mk (HY3.out.below hl_)
  have HB4 := Aside0.mk (below_then HB3.out HB3.out.size hl_)
  have HM4 := Aside0.mk (blk_below HM3.out hl_)
  clear hw_ hl_
  obtain ⟨f2, hf2⟩ : ∃ f2 : Nat → Nat, (fun k => if k < W4.heap.size then f k else i0 + 2) = f2 := ⟨_, rfl⟩
  have HYg : Aside0 (RY w W4 gw gd cw cd u10 u12 f2 vs ws ds rg o) := ⟨by rw [← hf2]; exact HY4.out.fresh (i0 + 2)⟩
  have HFR2 : Aside0 (∀ k, W4.heap.size ≤ k → f2 k = i0 + 2) := ⟨fun k hk => by rw [← hf2]; simp [Nat.not_lt.2 hk]⟩
  have HQ4 : Aside0 (iQ W4 w.heap.size (fun k => f2 k = i0 + 2) (.slice Aq L cq) q) := ⟨by rw [← HVS.out, ← HQE.out]; exact HYg.out.qs' HIW.out⟩
  have HW4 : Aside0 (W4.cell? ⟨gw, i0, none⟩ = some (.slice Aq L cq)) := ⟨(HYg.out.w i0 HIW.out).trans (congrArg some HVS.out)⟩
  have HMa : Aside0 (W4.cell? ⟨bx, 0, none⟩ = some (.int .i64 (i0 : Int))) := ⟨(blk_cell HM4.out 0).trans rfl⟩
  have HMb : Aside0 (W4.cell? ⟨bx, 1, none⟩ = some (.int .i64 x1)) := ⟨(blk_cell HM4.out 1).trans rfl⟩
  clear hf2
  refine pure_ (i := 0) (N := some 197) (v := ?_) (a' := ?_) #[true, false, false, false, false, false, false, false, false, false, false, false, false, false] rfl rfl (any_of HT_.out (by kernel_rfl)) (fun c_ _ w_ h => HQP c_ _ _ _ w_ h) (Or.inl ⟨by rfl, ?_⟩) ?_ ?_
  rotate_left
  · intro w'
    go_simp
    with_reducible rfl
  rotate_left
  · simp only [Act.put, List.setIfInBounds_toArray, List.set_cons_zero, List.set_cons_succ, i64_w, i32_w]
    rfl
  refine pure_ (i := 1) (N := some 198) (v := ?_) (a' := ?_) #[true, true, false, false, false, false, false, false, false, false, false, false, false, false] rfl rfl (any_of HT_.out (by kernel_rfl)) (fun c_ _ w_ h => HQP c_ _ _ _ w_ h) (Or.inl ⟨by rfl, ?_⟩) ?_ ?_
  rotate_left
  · intro w'
    go_simp
    with_reducible rfl
  rotate_left
  · simp only [Act.put, List.setIfInBounds_toArray, List.set_cons_zero, List.set_cons_succ, i64_w, i32_w]
    rfl
  refine pure_ (i := 3) (N := some 200) (v := ?_) (a' := ?_) #[true, true, false, true, false, false, false, false, false, false, false, false, false, false] rfl rfl (any_of HT_.out (by kernel_rfl)) (fun c_ _ w_ h => HQP c_ _ _ _ w_ h) (Or.inl ⟨by rfl, ?_⟩) ?_ ?_
  rotate_left
  · intro w'
    go_simp
    with_reducible rfl
  rotate_left
  · simp only [Act.put, List.setIfInBounds_toArray, List.set_cons_zero, List.set_cons_succ, i64_w, i32_w]
    rfl
  refine pure_ (i := 4) (N := some 201) (v := ?_) (a' := ?_) #[true, true, false, true, true, false, false, false, false, false, false, false, false, false] rfl rfl (any_of HT_.out (by kernel_rfl)) (fun c_ _ w_ h => HQP c_ _ _ _ w_ h) (Or.inl ⟨by rfl, ?_⟩) ?_ ?_
  rotate_left
  · intro w'
    go_simp
    with_reducible rfl
  rotate_left
  · simp only [Act.put, List.setIfInBounds_toArray, List.set_cons_zero, List.set_cons_succ, i64_w, i32_w]
    rfl
  refine pure_ (i := 8) (N := some 205) (v := ?_) (a' := ?_) #[true, true, false, true, true, false, false, false, true, false, false, false, false, false] rfl rfl (any_of HT_.out (by kernel_rfl)) (fun c_ _ w_ h => HQP c_ _ _ _ w_ h) (Or.inl ⟨by rfl, ?_⟩) ?_ ?_
  rotate_left
  · intro w'
    go_simp
    with_reducible rfl
  rotate_left
  · simp only [Act.put, List.setIfInBounds_toArray, List.set_cons_zero, List.set_cons_succ, i64_w, i32_w]
    rfl
  refine take_ (i := 2) (N := some 199) (v := ?_) (a' := ?_) #[true, true, true, true, true, false, false, false, true, false, false, false, false, false] rfl rfl (take_ofW HT_.out HW_.out (by kernel_rfl)) (fun c_ _ w_ h => HQP c_ _ _ _ w_ h) (Or.inl ⟨by rfl, ?_⟩) hHeld ?_ ?_
  rotate_left
  · rintro w' ⟨s0, s1, s2⟩
    go_simp
    with_reducible rfl
  rotate_left
  · simp only [Act.put, List.setIfInBounds_toArray, List.set_cons_zero, List.set_cons_succ, i64_w, i32_w]
    rfl
  refine take_ (i := 5) (N := some 202) (v := ?_) (a' := ?_) #[true, true, true, true, true, true, false, false, true, false, false, false, false, false] rfl rfl (take_ofW HT_.out HW_.out (by kernel_rfl)) (fun c_ _ w_ h => HQP c_ _ _ _ w_ h) (Or.inl ⟨by rfl, ?_⟩) hHeld ?_ ?_
  rotate_left
  · rintro w' ⟨s0, s1, s2⟩
    go_simp
    with_reducible rfl
  rotate_left
  · simp only [Act.put, List.setIfInBounds_toArray, List.set_cons_zero, List.set_cons_succ, i64_w, i32_w]
    rfl
  refine pure_ (i := 6) (N := some 203) (v := ?_) (a' := ?_) #[true, true, true, true, true, true, true, false, true, false, false, false, false, false] rfl rfl (any_of HT_.out (by kernel_rfl)) (fun c_ _ w_ h => HQP c_ _ _ _ w_ h) (Or.inl ⟨by rfl, ?_⟩) ?_ ?_
  rotate_left
  · intro w'
    go_simp
    with_reducible rfl
  rotate_left
  · simp only [Act.put, List.setIfInBounds_toArray, List.set_cons_zero, List.set_cons_succ, i64_w, i32_w]
    rfl
  refine take_ (i := 7) (N := some 204) (v := ?_) (a' := ?_) #[true, true, true, true, true, true, true, true, true, false, false, false, false, false] rfl rfl (take_ofW HT_.out HW_.out (by kernel_rfl)) (fun c_ _ w_ h => HQP c_ _ _ _ w_ h) (Or.inl ⟨by rfl, ?_⟩) hHeld ?_ ?_
  rotate_left
  · rintro w' ⟨s0, s1, s2⟩
    go_simp
    with_reducible rfl
  rotate_left
  · simp only [Act.put, List.setIfInBounds_toArray, List.set_cons_zero, List.set_cons_succ, i64_w, i32_w]
    rfl
  refine take_ (i := 9) (N := some 206) (v := ?_) (a' := ?_) #[true, true, true, true, true, true, true, true, true, true, false, false, false, false] rfl rfl (take_ofW HT_.out HW_.out (by kernel_rfl)) (fun c_ _ w_ h => HQP c_ _ _ _ w_ h) (Or.inl ⟨by rfl, ?_⟩) hHeld ?_ ?_
  rotate_left
  · rintro w' ⟨s0, s1, s2⟩
    go_simp
    with_reducible rfl
  rotate_left
  · simp only [Act.put, List.setIfInBounds_toArray, List.set_cons_zero, List.set_cons_succ, i64_w, i32_w]
    rfl
  refine one_ (i := 10) (N := some 207) #[true, true, true, true, true, true, true, true, true, true, true, false, false, false] rfl rfl (one_of HT_.out (by kernel_rfl)) (by decide) (fun K hK => ?_)
  refine value_ (w1 := ?_) (v := ?_) (by rfl) rfl ?_ ?_
  rotate_left 2
  · go_simp
    constructor
    · rfl
    · rfl
  refine hK.out _ _ ⟨(Below.cell (below_alloc (Below.refl W4.heap.size W4) _) (p := ⟨bx, 0, none⟩) (World.block_lt_of_cell? W4 _ HMa.out)).trans HMa.out, (Below.cell (below_alloc (Below.refl W4.heap.size W4) _) (p := ⟨bx, 1, none⟩) (World.block_lt_of_cell? W4 _ HMb.out)).trans HMb.out, (Below.cell (below_alloc (Below.refl W4.heap.size W4) _) (p := ⟨gw, i0, none⟩) (World.block_lt_of_cell? W4 _ HW4.out)).trans HW4.out⟩ (fun hHeld => ?_)
  clear hK K
  refine norm_ (a' := ?_) ?_ ?_
  rotate_left
  · show Act.put _ (some 207) _ = _
    simp only [Act.put, List.setIfInBounds_toArray, List.set_cons_zero, List.set_cons_succ, i64_w, i32_w]
    rfl
  refine one_ (i := 11) (N := some 208) #[true, true, true, true, true, true, true, true, true, true, true, true, false, false] rfl rfl (one_of HT_.out (by kernel_rfl)) (by decide) (fun K hK => ?_)
  refine Kd.Q_append_step (Kd.int .i64) (w0 := w) (W := W4) w.heap.size (by rfl) (.tmp 204) (.tmp 207) 22 3 (.int .i64 0) 8 rfl Try.underlying22 info3r rfl (by decide) (by omega) (.slice Aq L cq) q x1 [.int .i64 x1] (fun k => f2 k = i0 + 2) (fun _ => False) rfl rfl rfl (fun _ h => h.elim) HFR2.out HQ4.out HB4.out HB4.out.size ?aQ42 ?_
  (case aQ42 => rw [HQL.out]; have := HL40.out; omega)
  intro v208 W5 ho hb hg hat
  have HM5 := Aside0.mk (far3 HQ4.out hg HM4.out (by decide))
  rw [← HVS.out] at hg
  obtain ⟨q2, hq2⟩ : ∃ y, q ++ [x1] = y := ⟨_, rfl⟩
  rw [hq2] at ho
  have HQ2 := Aside0.mk hq2
  obtain ⟨A8, c8, e8, hc8⟩ := Kd.Q_slice ho
  subst e8
  have HO5 := Aside0.mk ho
  have HG5 := Aside0.mk hg
  have HB5 := Aside0.mk hb
  have hw5 := (HYg.out.wCell HIW.out hg).1.trans (congrArg some HVS.out)
  have hf5 := (HYg.out.wCell HIW.out hg).2
  clear ho hb hg hat hc8 hq2
  refine hK.out _ _ ⟨(blk_cell HM5.out 0).trans rfl, (blk_cell HM5.out 1).trans rfl, hw5⟩ (fun hHeld => ?_)
  clear hK K
  refine norm_ (a' := ?_) ?_ ?_
  rotate_left
  · show Act.put _ (some 208) _ = _
    simp only [Act.put, List.setIfInBounds_toArray, List.set_cons_zero, List.set_cons_succ, i64_w, i32_w]
    rfl
  refine pure_ (i := 12) (N := some 209) (v := ?_) (a' := ?_) #[true, true, true, true, true, true, true, true, true, true, true, true, true, false] rfl rfl (any_of HT_.out (by kernel_rfl)) (fun c_ _ w_ h => HQP c_ _ _ _ w_ h) (Or.inl ⟨by rfl, ?_⟩) ?_ ?_
  rotate_left
  · intro w'
    go_simp
    with_reducible rfl
  rotate_left
  · simp only [Act.put, List.setIfInBounds_toArray, List.set_cons_zero, List.set_cons_succ, i64_w, i32_w]
    rfl
  refine last_ (i := 13) (N := none) #[true, true, true, true, true, true, true, true, true, true, true, true, true, true] rfl rfl (one_of HT_.out (by kernel_rfl)) (by decide) (fun K hK => ?_)
  refine skip_ (w1 := ?_) (by rfl) rfl ?_ ?_
  rotate_left
  · go_simp
    rfl
  refine hK.out _ _ ?_
  clear hK K
  refine done_ (done_of HT_.out (by kernel_rfl)) ?_
  clear hn0 hn1 hcw3 hw5 hf5
  have HY6 : Aside0 (RY w (W5.setCell ⟨gw, i0, none⟩ (.slice A8 q2.length c8)) gw gd cw cd u10 u12 f2 (fun j => if j = i0 then (.slice A8 q2.length c8 : Value) else vs j) (ws.set i0 q2) ds rg o) := ⟨HYg.out.newW i0 HIW.out HG5.out HO5.out⟩
  have HB6 : Aside0 (Below w.heap.size w (W5.setCell ⟨gw, i0, none⟩ (.slice A8 q2.length c8))) := ⟨below_set HB5.out HYg.out.hgw⟩
  obtain ⟨W6, hW6⟩ : ∃ W, W5.setCell ⟨gw, i0, none⟩ (.slice A8 q2.length c8) = W := ⟨_, rfl⟩
  rw [hW6] at HY6 HB6 ⊢
  rw [HQE.out, HQ2.out] at HP
  clear hW6
  go_wp2_with (first | ((with_reducible refine gate_dst (N := 212) rfl ?_); refine Kd.R_lit k29 (w0 := w) w.heap.size 29 ?hg (N := 212) ?hd (xs := ([⟨0, 0, 0⟩] : List S29)) (inner := [.int .i64 0, .int .i64 0, .int .i64 0]) (ok := fun _ => True) (okp := fun _ => True) ?hr ?hp (fun _ hk => hk) trivial HB6.out HB6.out.size (by simp) ?_; (case hd => rfl); (case hg => rfl); (case hr => first | (go_simp; done) | (go_simp; rfl)); (case hp => exact Reps.c3 (k29_mkM _ _ _ ⟨0, 0, 0⟩) (Reps.none _ _)); intro v8 w8 ho8 hb8 hg_ hnew_; have HY8 := Aside0.mk (HY6.out.step (fun k hk => hg_.block k hk (by simp))); obtain ⟨Ao8, co8, eo8⟩ := Kd.R_slice ho8; subst eo8; have HL8 := Aside0.mk (Kd.R_reads' ho8).2.2; have HB8 := Aside0.mk hb8; clear ho8 hb8 hg_ hnew_) | ((with_reducible refine gate_builtin (b := .append) (xs := #[.tmp 210, .tmp 212]) rfl ?_); at_builtin; refine Kd.R_append_rows k29 (w0 := w) w.heap.size rfl (.tmp 210) (.tmp 212) 24 29 (.agg #[.int .i64 0, .int .i64 0, .int .i64 0]) 24 rfl Try.underlying24 info29s rfl (by decide) (by omega) u12 o [⟨0, 0, 0⟩] _ _ _ (fun _ => True) (fun _ => False) rfl rfl ?aO ?aR k29_M (fun _ h => h.elim) (fun _ _ => trivial) ?aB ?aS ?aL ?_; (case aR => exact HL8.out); (case aO => exact HY8.out.out); (case aB => exact HB8.out); (case aS => exact HB8.out.size); (case aL => rw [show ([⟨0, 0, 0⟩] : List S29).length = 1 from rfl]; have := HLO.out; omega); intro v9 w9 ho hb hg hat; have HY9 := Aside0.mk (HY8.out.newO hg ho); have HB9 := Aside0.mk hb; clear ho hb hg hat))
  exact SW.mk _ _ _ _ _ _ _ _ _ _ _ _ _ _ _ _ _ _ _ _ _ _ _ _ _ _ _ _ _ _ _ _ _ _ _ _ _ _ _ _ _ _ _ _ _ _ _ _ _ _ _ _ _ _ _ _ _ _ _ _ _ _ _ _ _ _ _ _ _ _ _ _ _ _ _ _ _ _ _ _ _ _ _ _ _ _ _ _ _ _ _ _ _ _ _ _ _ _ _ _ _ _ _ _ _ _ _ _ _ _ _ _ _ _ _ _ _ _ _ _ _ _ _ _ _ _ _ _ _ _ _ _ _ _ _ _ _ _ _ _ _ _ _ _ _ _ _ _ _ _ _ _ _ _ _ _ _ _ _ _ _ _ _ _ _ _ _ _ _ _ _ _ _ ⟨f2, _, _, ds, rg, has, _, rfl, HY9, ⟨by rw [List.length_set]; exact HLN.out⟩, HB9, HP, ⟨by rw [List.length_append]; have := HLO.out; simp only [List.length_cons, List.length_nil]; omega⟩⟩
set_option maxHeartbeats 40000000 in
set_option maxRecDepth 1000000 in
theorem sw_first (k : Nat) (l0 : List Int) (t : List S35) (O : List S29) (i : Nat) (w : World) (gw gd cw cd j bx : Nat) (A0 : Option Addr) (c0 : Nat) (c1_ c2_ c3_ c4_ c5_ c6_ c7_ c13_ c18_ c19_ c20_ c21_ c22_ c23_ c24_ c25_ c26_ c27_ c28_ c29_ c30_ c31_ c32_ c33_ c34_ c35_ c36_ c37_ c38_ c39_ c40_ c41_ c42_ c43_ c44_ c45_ c46_ c47_ c48_ c49_ c50_ c51_ c52_ c53_ c54_ c55_ c222_ c223_ u10 u12 u15 u16 u17 u56 u57 u58 u59 u60 u61 u62 u63 u64 u65 u66 u67 u68 u69 u70 u71 u72 u73 u74 u75 u76 u77 u78 u79 u80 u81 u82 u83 u84 u85 u86 u87 u88 u89 u90 u91 u92 u93 u94 u95 u96 u97 u98 u99 u100 u101 u102 u103 u104 u105 u106 u107 u108 u109 u110 u111 u112 u113 u114 u115 u116 u117 u118 u119 u120 u121 u122 u123 u124 u125 u126 u127 u128 u129 u130 u131 u132 u133 u134 u135 u136 u137 u138 u139 u140 u141 u142 u143 u144 u145 u146 u147 u148 u149 u150 u151 u152 u153 u154 u155 u156 u157 u158 u159 u160 u161 u162 u163 u164 u165 u166 u167 u168 u169 u170 u171 u172 u173 u174 u175 u176 u177 u178 u179 u180 u181 u182 u183 u184 u185 u186 u187 u188 u189 u190 u191 u192 u193 u194 u195 u196 u197 u198 u199 u200 u201 u202 u203 u204 u205 u206 u207 u208 u209 u210 u211 u212 u213 u214 u215 u216 u217 u218 u219 u220 u221 : Value) (x0 x1 has : Int) (f : Nat → Nat) (vs : Nat → Value) (ws : List (List Int)) (ds rg : List Int) (o : List S29) (W2 : World) (K : Act → World → Prop) (Q : Exit → Act → World → Prop)
    (HR0 : Aside0 ((Kd.int .i64).C w A0 l0.length l0)) (HN0 : Aside0 (l0.length = j)) (hn6 : j ≤ 6) (hi300 : i ≤ 300) (HLO : Aside0 (o.length ≤ i)) (HLN : Aside0 (ws.length = j ∧ ds.length = j))
    (HM2 : Aside0 (W2.heap[bx]? = some (.cells #[.int .i64 x0, .int .i64 x1] 35 (0, 0)))) (HY2 : Aside0 (RY w W2 gw gd cw cd u10 u12 f vs ws ds rg o)) (HB2 : Aside0 (Below w.heap.size w W2))
    (hneg : ¬ x1 < 0) (hpos : 0 < x1) (i0 : Nat) (hx0 : x0 = (i0 : Int)) (hi0 : i0 < j) (h1500 : ¬ 1500 < x1) (L : Nat) (HL : Aside0 ((ws.getD i0 []).length = L)) (hfull : ¬ 40 ≤ L) (hrl : rg.length < 1000) (hL0 : L = 0) (HP : Aside0 (refL k l0 t (ws.set i0 (ws.getD i0 [] ++ [x1])) ds (rg ++ [(i0 : Int)]) has (o ++ [⟨0, 0, 0⟩]) = some O))
    (HQP : ∀ c a N v w, Q (.panic c) (Act.put a N v) w → Q (.panic c) a w)
    (hexit : ∀ a' w', SW k l0 t O i w gw gd cw cd j bx A0 c0 c1_ c2_ c3_ c4_ c5_ c6_ c7_ c13_ c18_ c19_ c20_ c21_ c22_ c23_ c24_ c25_ c26_ c27_ c28_ c29_ c30_ c31_ c32_ c33_ c34_ c35_ c36_ c37_ c38_ c39_ c40_ c41_ c42_ c43_ c44_ c45_ c46_ c47_ c48_ c49_ c50_ c51_ c52_ c53_ c54_ c55_ c222_ c223_ a' w' → K a' w') :
    Code.wp Try.prog swCode (Exit.then K Q) ⟨#[.slice A0 j c0, c1_, c2_, c3_, c4_, c5_, c6_, c7_, .slice (some ⟨gw, 0, none⟩) j cw, .slice (some ⟨gd, 0, none⟩) j cd, u10, .int .i64 has, u12, c13_, .pointer (some ⟨bx, 0, none⟩), u15, u16, u17, c18_, c19_, c20_, c21_, c22_, c23_, c24_, c25_, c26_, c27_, c28_, c29_, c30_, c31_, c32_, c33_, c34_, c35_, c36_, c37_, c38_, c39_, c40_, c41_, c42_, c43_, c44_, c45_, c46_, c47_, c48_, c49_, c50_, c51_, c52_, c53_, c54_, c55_, u56, u57, u58, u59, u60, u61, u62, u63, u64, u65, u66, u67, u68, u69, u70, u71, u72, u73, u74, u75, u76, u77, u78, u79, u80, u81, u82, u83, u84, u85, u86, u87, u88, u89, u90, u91, u92, u93, u94, u95, u96, u97, u98, u99, u100, u101, u102, u103, u104, u105, u106, u107, u108, u109, u110, u111, u112, u113, u114, u115, u116, u117, u118, u119, u120, u121, u122, u123, u124, u125, u126, u127, u128, u129, u130, u131, u132, u133, u134, u135, u136, u137, u138, u139, u140, u141, u142, u143, u144, u145, u146, u147, u148, u149, u150, u151, u152, u153, u154, u155, u156, u157, u158, u159, u160, u161, u162, u163, u164, u165, u166, u167, u168, u169, u170, u171, u172, u173, u174, u175, u176, u177, u178, u179, u180, u181, u182, u183, u184, u185, u186, u187, u188, u189, u190, u191, u192, u193, u194, u195, u196, u197, u198, u199, u200, u201, u202, u203, u204, u205, u206, u207, u208, u209, u210, u211, u212, u213, u214, u215, u216, u217, u218, u219, u220, u221, c222_, c223_], []⟩ W2 := by
  have hm0 : W2.cell? ⟨bx, 0, none⟩ = some (.int .i64 x0) := (blk_cell HM2.out 0).trans rfl
  have hm1 : W2.cell? ⟨bx, 1, none⟩ = some (.int .i64 x1) := (blk_cell HM2.out 1).trans rfl
  conv => arg 2; whnf
  have d1_ : decide (x1 < 0) = false := decide_eq_false hneg
  have d2_ : decide (0 < x1) = true := decide_eq_true hpos
  subst hx0
  have t0_ : decide ((i0 : Int) < 0) = false := decide_eq_false (by omega)
  have t1_ : decide ((j : Int) ≤ (i0 : Int)) = false := decide_eq_false (by omega)
  have t1n_ : decide (j ≤ i0) = false := decide_eq_false (by omega)
  have t2_ : decide (1500 < x1) = false := decide_eq_false h1500
  have pi_ : (0 ≤ (i0 : Int)) = True := eq_true (by omega)
  have qi_ : ((i0 : Int) < (j : Int)) = True := eq_true (by omega)
  have hiw : i0 < ws.length := by rw [HLN.out.1]; exact hi0
  obtain ⟨Aq, cq, hvs, hcq⟩ := Kd.Q_slice (HY2.out.qs' hiw)
  have hcw := (HY2.out.w i0 hiw).trans (congrArg some hvs)
  rw [HL.out] at hcw hvs hcq
  have HVS := Aside0.mk hvs
  clear hvs hiw hcq h1500
  have HIW : Aside0 (i0 < ws.length) := ⟨by rw [HLN.out.1]; exact hi0⟩
  obtain ⟨q, hq_⟩ : ∃ q, ws.getD i0 [] = q := ⟨_, rfl⟩
  have HQE := Aside0.mk hq_
  have HQL : Aside0 (q.length = L) := ⟨by rw [← hq_]; exact HL.out⟩
  have HL40 : Aside0 (L < 40) := ⟨by omega⟩
  have HRL := Aside0.mk hrl
  have u0_ : decide (40 ≤ L) = false := decide_eq_false hfull
  have u1_ : decide (40 ≤ (L : Int)) = false := decide_eq_false (by omega)
  clear hq_ hneg hpos hfull hrl
  subst hL0
  have HVS0 : Aside0 (vs i0 = .slice Aq 0 cq) := HVS
  obtain ⟨f1, hf1⟩ : ∃ f1 : Nat → Nat, (fun k => if k < W2.heap.size then f k else 0) = f1 := ⟨_, rfl⟩
  have HYf : Aside0 (RY w W2 gw gd cw cd u10 u12 f1 vs ws ds rg o) := ⟨by rw [← hf1]; exact HY2.out.fresh 0⟩
  have HFR : Aside0 (∀ k, W2.heap.size ≤ k → f1 k = 0) := ⟨fun k hk => by rw [← hf1]; simp [Nat.not_lt.2 hk]⟩
  clear hf1
  go_upto_region 42 with (first | ((with_reducible refine gate_builtin (b := .append) (xs := #[.tmp 192, .tmp 195]) rfl ?_); at_builtin; refine Kd.Q_append (Kd.int .i64) (w0 := w) (W := W2) w.heap.size rfl (.tmp 192) (.tmp 195) 22 3 (.int .i64 0) 8 rfl Try.underlying22 info3r rfl (by decide) (by omega) u10 rg (i0 : Int) [.int .i64 (i0 : Int)] (fun k => f1 k = 0) (fun _ => False) rfl rfl rfl (fun _ h => h.elim) HFR.out HYf.out.qr HB2.out HB2.out.size ?aQ ?_; (case aQ => have := HRL.out; omega); intro v10 W3 ho hb hg hat; have HM3 := Aside0.mk (far3 HYf.out.qr hg HM2.out (by decide)); have HY3 := Aside0.mk (HYf.out.newR hg ho); have HB3 := Aside0.mk hb; clear ho hb hg hat))
  clear hm0 hm1 hcw
  have hn0 : W3.cell? ⟨bx, 0, none⟩ = some (.int .i64 (i0 : Int)) := (blk_cell HM3.out 0).trans rfl
  have hn1 : W3.cell? ⟨bx, 1, none⟩ = some (.int .i64 x1) := (blk_cell HM3.out 1).trans rfl
  have hcw3 := (HY3.out.w i0 HIW.out).trans (congrArg some HVS.out)
  refine start_ (n := 14) (S := fun w' => w'.cell? ⟨bx, 0, none⟩ = some (.int .i64 (i0 : Int)) ∧ w'.cell? ⟨bx, 1, none⟩ = some (.int .i64 x1) ∧ w'.cell? ⟨gw, i0, none⟩ = some (.slice Aq 0 cq)) (ds := [13]) #[false, false, false, false, false, false, false, false, false, false, false, false, false, false] (by kernel_rfl) rfl rfl ⟨hn0, hn1, hcw3⟩ (fun hHeld => ?_)
  refine with_tabW frec.tab42 frec.bits42 (fun HT_ HW_ => ?_)
  obtain ⟨W4, hw_⟩ : ∃ w, w = W3.drew := ⟨_, rfl⟩
  have hl_ : Below W3.heap.size W3 W4 := by rw [hw_]; exact below_drew1 (Below.refl _ _)
  rw [← hw_] at hHeld ⊢
  have HY4 := Aside0.mk (HY3.out.below hl_)
  have HB4 := Aside0.mk (below_then HB3.out HB3.out.size hl_)
  have HM4 := Aside0.mk (blk_below HM3.out hl_)
  clear hw_ hl_
  obtain ⟨f2, hf2⟩ : ∃ f2 : Nat → Nat, (fun k => if k < W4.heap.size then f1 k else i0 + 2) = f2 := ⟨_, rfl⟩
  have HYg : Aside0 (RY w W4 gw gd cw cd v10 u12 f2 vs ws ds (rg ++ [(i0 : Int)]) o) := ⟨by rw [← hf2]; exact HY4.out.fresh (i0 + 2)⟩
  have HFR2 : Aside0 (∀ k, W4.heap.size ≤ k → f2 k = i0 + 2) := ⟨fun k hk => by rw [← hf2]; simp [Nat.not_lt.2 hk]⟩
  have HQ4 : Aside0 (iQ W4 w.heap.size (fun k => f2 k = i0 + 2) (.slice Aq 0 cq) q) := ⟨by rw [← HVS.out, ← HQE.out]; exact HYg.out.qs' HIW.out⟩
  have HW4 : Aside0 (W4.cell? ⟨gw, i0, none⟩ = some (.slice Aq 0 cq)) := ⟨(HYg.out.w i0 HIW.out).trans (congrArg some HVS.out)⟩
  have HMa : Aside0 (W4.cell? ⟨bx, 0, none⟩ = some (.int .i64 (i0 : Int))) := ⟨(blk_cell HM4.out 0).trans rfl⟩
  have HMb : Aside0 (W4.cell? ⟨bx, 1, none⟩ = some (.int .i64 x1)) := ⟨(blk_cell HM4.out 1).trans rfl⟩
  clear hf2
  refine pure_ (i := 0) (N := some 197) (v := ?_) (a' := ?_) #[true, false, false, false, false, false, false, false, false, false, false, false, false, false] rfl rfl (any_of HT_.out (by kernel_rfl)) (fun c_ _ w_ h => HQP c_ _ _ _ w_ h) (Or.inl ⟨by rfl, ?_⟩) ?_ ?_
  rotate_left
  · intro w'
    go_simp
    with_reducible rfl
  rotate_left
  · simp only [Act.put, List.setIfInBounds_toArray, List.set_cons_zero, List.set_cons_succ, i64_w, i32_w]
    rfl
  refine pure_ (i := 1) (N := some 198) (v := ?_) (a' := ?_) #[true, true, false, false, false, false, false, false, false, false, false, false, false, false] rfl rfl (any_of HT_.out (by kernel_rfl)) (fun c_ _ w_ h => HQP c_ _ _ _ w_ h) (Or.inl ⟨by rfl, ?_⟩) ?_ ?_
  rotate_left
  · intro w'
    go_simp
    with_reducible rfl
  rotate_left
  · simp only [Act.put, List.setIfInBounds_toArray, List.set_cons_zero, List.set_cons_succ, i64_w, i32_w]
    rfl
  refine pure_ (i := 3) (N := some 200) (v := ?_) (a' := ?_) #[true, true, false, true, false, false, false, false, false, false, false, false, false, false] rfl rfl (any_of HT_.out (by kernel_rfl)) (fun c_ _ w_ h => HQP c_ _ _ _ w_ h) (Or.inl ⟨by rfl, ?_⟩) ?_ ?_
  rotate_left
  · intro w'
    go_simp
    with_reducible rfl
  rotate_left
  · simp only [Act.put, List.setIfInBounds_toArray, List.set_cons_zero, List.set_cons_succ, i64_w, i32_w]
    rfl
  refine pure_ (i := 4) (N := some 201) (v := ?_) (a' := ?_) #[true, true, false, true, true, false, false, false, false, false, false, false, false, false] rfl rfl (any_of HT_.out (by kernel_rfl)) (fun c_ _ w_ h => HQP c_ _ _ _ w_ h) (Or.inl ⟨by rfl, ?_⟩) ?_ ?_
  rotate_left
  · intro w'
    go_simp
    with_reducible rfl
  rotate_left
  · simp only [Act.put, List.setIfInBounds_toArray, List.set_cons_zero, List.set_cons_succ, i64_w, i32_w]
    rfl
  refine pure_ (i := 8) (N := some 205) (v := ?_) (a' := ?_) #[true, true, false, true, true, false, false, false, true, false, false, false, false, false] rfl rfl (any_of HT_.out (by kernel_rfl)) (fun c_ _ w_ h => HQP c_ _ _ _ w_ h) (Or.inl ⟨by rfl, ?_⟩) ?_ ?_
  rotate_left
  · intro w'
    go_simp
    with_reducible rfl
  rotate_left
  · simp only [Act.put, List.setIfInBounds_toArray, List.set_cons_zero, List.set_cons_succ, i64_w, i32_w]
    rfl
  refine take_ (i := 2) (N := some 199) (v := ?_) (a' := ?_) #[true, true, true, true, true, false, false, false, true, false, false, false, false, false] rfl rfl (take_ofW HT_.out HW_.out (by kernel_rfl)) (fun c_ _ w_ h => HQP c_ _ _ _ w_ h) (Or.inl ⟨by rfl, ?_⟩) hHeld ?_ ?_
  rotate_left
  · rintro w' ⟨s0, s1, s2⟩
    go_simp
    with_reducible rfl
  rotate_left
  · simp only [Act.put, List.setIfInBounds_toArray, List.set_cons_zero, List.set_cons_succ, i64_w, i32_w]
    rfl
  refine take_ (i := 5) (N := some 202) (v := ?_) (a' := ?_) #[true, true, true, true, true, true, false, false, true, false, false, false, false, false] rfl rfl (take_ofW HT_.out HW_.out (by kernel_rfl)) (fun c_ _ w_ h => HQP c_ _ _ _ w_ h) (Or.inl ⟨by rfl, ?_⟩) hHeld ?_ ?_
  rotate_left
  · rintro w' ⟨s0, s1, s2⟩
    go_simp
    with_reducible rfl
  rotate_left
  · simp only [Act.put, List.setIfInBounds_toArray, List.set_cons_zero, List.set_cons_succ, i64_w, i32_w]
    rfl
  refine pure_ (i := 6) (N := some 203) (v := ?_) (a' := ?_) #[true, true, true, true, true, true, true, false, true, false, false, false, false, false] rfl rfl (any_of HT_.out (by kernel_rfl)) (fun c_ _ w_ h => HQP c_ _ _ _ w_ h) (Or.inl ⟨by rfl, ?_⟩) ?_ ?_
  rotate_left
  · intro w'
    go_simp
    with_reducible rfl
  rotate_left
  · simp only [Act.put, List.setIfInBounds_toArray, List.set_cons_zero, List.set_cons_succ, i64_w, i32_w]
    rfl
  refine take_ (i := 7) (N := some 204) (v := ?_) (a' := ?_) #[true, true, true, true, true, true, true, true, true, false, false, false, false, false] rfl rfl (take_ofW HT_.out HW_.out (by kernel_rfl)) (fun c_ _ w_ h => HQP c_ _ _ _ w_ h) (Or.inl ⟨by rfl, ?_⟩) hHeld ?_ ?_
  rotate_left
  · rintro w' ⟨s0, s1, s2⟩
    go_simp
    with_reducible rfl
  rotate_left
  · simp only [Act.put, List.setIfInBounds_toArray, List.set_cons_zero, List.set_cons_succ, i64_w, i32_w]
    rfl
  refine take_ (i := 9) (N := some 206) (v := ?_) (a' := ?_) #[true, true, true, true, true, true, true, true, true, true, false, false, false, false] rfl rfl (take_ofW HT_.out HW_.out (by kernel_rfl)) (fun c_ _ w_ h => HQP c_ _ _ _ w_ h) (Or.inl ⟨by rfl, ?_⟩) hHeld ?_ ?_
  rotate_left
  · rintro w' ⟨s0, s1, s2⟩
    go_simp
    with_reducible rfl
  rotate_left
  · simp only [Act.put, List.setIfInBounds_toArray, List.set_cons_zero, List.set_cons_succ, i64_w, i32_w]
    rfl
  refine one_ (i := 10) (N := some 207) #[true, true, true, true, true, true, true, true, true, true, true, false, false, false] rfl rfl (one_of HT_.out (by kernel_rfl)) (by decide) (fun K hK => ?_)
  refine value_ (w1 := ?_) (v := ?_) (by rfl) rfl ?_ ?_
  rotate_left 2
  · go_simp
    constructor
    · rfl
    · rfl
  refine hK.out _ _ ⟨(Below.cell (below_alloc (Below.refl W4.heap.size W4) _) (p := ⟨bx, 0, none⟩) (World.block_lt_of_cell? W4 _ HMa.out)).trans HMa.out, (Below.cell (below_alloc (Below.refl W4.heap.size W4) _) (p := ⟨bx, 1, none⟩) (World.block_lt_of_cell? W4 _ HMb.out)).trans HMb.out, (Below.cell (below_alloc (Below.refl W4.heap.size W4) _) (p := ⟨gw, i0, none⟩) (World.block_lt_of_cell? W4 _ HW4.out)).trans HW4.out⟩ (fun hHeld => ?_)
  clear hK K
  refine norm_ (a' := ?_) ?_ ?_
  rotate_left
  · show Act.put _ (some 207) _ = _
    simp only [Act.put, List.setIfInBounds_toArray, List.set_cons_zero, List.set_cons_succ, i64_w, i32_w]
    rfl
  refine one_ (i := 11) (N := some 208) #[true, true, true, true, true, true, true, true, true, true, true, true, false, false] rfl rfl (one_of HT_.out (by kernel_rfl)) (by decide) (fun K hK => ?_)
  refine Kd.Q_append_step (Kd.int .i64) (w0 := w) (W := W4) w.heap.size (by rfl) (.tmp 204) (.tmp 207) 22 3 (.int .i64 0) 8 rfl Try.underlying22 info3r rfl (by decide) (by omega) (.slice Aq 0 cq) q x1 [.int .i64 x1] (fun k => f2 k = i0 + 2) (fun _ => False) rfl rfl rfl (fun _ h => h.elim) HFR2.out HQ4.out HB4.out HB4.out.size ?aQ42 ?_
  (case aQ42 => rw [HQL.out]; have := HL40.out; omega)
  intro v208 W5 ho hb hg hat
  have HM5 := Aside0.mk (far3 HQ4.out hg HM4.out (by decide))
  rw [← HVS.out] at hg
  obtain ⟨q2, hq2⟩ : ∃ y, q ++ [x1] = y := ⟨_, rfl⟩
  rw [hq2] at ho
  have HQ2 := Aside0.mk hq2
  obtain ⟨A8, c8, e8, hc8⟩ := Kd.Q_slice ho
  subst e8
  have HO5 := Aside0.mk ho
  have HG5 := Aside0.mk hg
  have HB5 := Aside0.mk hb
  have hw5 := (HYg.out.wCell HIW.out hg).1.trans (congrArg some HVS.out)
  have hf5 := (HYg.out.wCell HIW.out hg).2
  clear ho hb hg hat hc8 hq2
  refine hK.out _ _ ⟨(blk_cell HM5.out 0).trans rfl, (blk_cell HM5.out 1).trans rfl, hw5⟩ (fun hHeld => ?_)
  clear hK K
  refine norm_ (a' := ?_) ?_ ?_
  rotate_left
  · show Act.put _ (some 208) _ = _
    simp only [Act.put, List.setIfInBounds_toArray, List.set_cons_zero, List.set_cons_succ, i64_w, i32_w]
    rfl
  refine pure_ (i := 12) (N := some 209) (v := ?_) (a' := ?_) #[true, true, true, true, true, true, true, true, true, true, true, true, true, false] rfl rfl (any_of HT_.out (by kernel_rfl)) (fun c_ _ w_ h => HQP c_ _ _ _ w_ h) (Or.inl ⟨by rfl, ?_⟩) ?_ ?_
  rotate_left
  · intro w'
    go_simp
    with_reducible rfl
  rotate_left
  · simp only [Act.put, List.setIfInBounds_toArray, List.set_cons_zero, List.set_cons_succ, i64_w, i32_w]
    rfl
  refine last_ (i := 13) (N := none) #[true, true, true, true, true, true, true, true, true, true, true, true, true, true] rfl rfl (one_of HT_.out (by kernel_rfl)) (by decide) (fun K hK => ?_)
  refine skip_ (w1 := ?_) (by rfl) rfl ?_ ?_
  rotate_left
  · go_simp
    rfl
  refine hK.out _ _ ?_
  clear hK K
  refine done_ (done_of HT_.out (by kernel_rfl)) ?_
  clear hn0 hn1 hcw3 hw5 hf5
  have HY6 : Aside0 (RY w (W5.setCell ⟨gw, i0, none⟩ (.slice A8 q2.length c8)) gw gd cw cd v10 u12 f2 (fun j => if j = i0 then (.slice A8 q2.length c8 : Value) else vs j) (ws.set i0 q2) ds (rg ++ [(i0 : Int)]) o) := ⟨HYg.out.newW i0 HIW.out HG5.out HO5.out⟩
  have HB6 : Aside0 (Below w.heap.size w (W5.setCell ⟨gw, i0, none⟩ (.slice A8 q2.length c8))) := ⟨below_set HB5.out HYg.out.hgw⟩
  obtain ⟨W6, hW6⟩ : ∃ W, W5.setCell ⟨gw, i0, none⟩ (.slice A8 q2.length c8) = W := ⟨_, rfl⟩
  rw [hW6] at HY6 HB6 ⊢
  rw [HQE.out, HQ2.out] at HP
  clear hW6
  go_wp2_with (first | ((with_reducible refine gate_dst (N := 212) rfl ?_); refine Kd.R_lit k29 (w0 := w) w.heap.size 29 ?hg (N := 212) ?hd (xs := ([⟨0, 0, 0⟩] : List S29)) (inner := [.int .i64 0, .int .i64 0, .int .i64 0]) (ok := fun _ => True) (okp := fun _ => True) ?hr ?hp (fun _ hk => hk) trivial HB6.out HB6.out.size (by simp) ?_; (case hd => rfl); (case hg => rfl); (case hr => first | (go_simp; done) | (go_simp; rfl)); (case hp => exact Reps.c3 (k29_mkM _ _ _ ⟨0, 0, 0⟩) (Reps.none _ _)); intro v8 w8 ho8 hb8 hg_ hnew_; have HY8 := Aside0.mk (HY6.out.step (fun k hk => hg_.block k hk (by simp))); obtain ⟨Ao8, co8, eo8⟩ := Kd.R_slice ho8; subst eo8; have HL8 := Aside0.mk (Kd.R_reads' ho8).2.2; have HB8 := Aside0.mk hb8; clear ho8 hb8 hg_ hnew_) | ((with_reducible refine gate_builtin (b := .append) (xs := #[.tmp 210, .tmp 212]) rfl ?_); at_builtin; refine Kd.R_append_rows k29 (w0 := w) w.heap.size rfl (.tmp 210) (.tmp 212) 24 29 (.agg #[.int .i64 0, .int .i64 0, .int .i64 0]) 24 rfl Try.underlying24 info29s rfl (by decide) (by omega) u12 o [⟨0, 0, 0⟩] _ _ _ (fun _ => True) (fun _ => False) rfl rfl ?aO ?aR k29_M (fun _ h => h.elim) (fun _ _ => trivial) ?aB ?aS ?aL ?_; (case aR => exact HL8.out); (case aO => exact HY8.out.out); (case aB => exact HB8.out); (case aS => exact HB8.out.size); (case aL => rw [show ([⟨0, 0, 0⟩] : List S29).length = 1 from rfl]; have := HLO.out; omega); intro v9 w9 ho hb hg hat; have HY9 := Aside0.mk (HY8.out.newO hg ho); have HB9 := Aside0.mk hb; clear ho hb hg hat))
  exact SW.mk _ _ _ _ _ _ _ _ _ _ _ _ _ _ _ _ _ _ _ _ _ _ _ _ _ _ _ _ _ _ _ _ _ _ _ _ _ _ _ _ _ _ _ _ _ _ _ _ _ _ _ _ _ _ _ _ _ _ _ _ _ _ _ _ _ _ _ _ _ _ _ _ _ _ _ _ _ _ _ _ _ _ _ _ _ _ _ _ _ _ _ _ _ _ _ _ _ _ _ _ _ _ _ _ _ _ _ _ _ _ _ _ _ _ _ _ _ _ _ _ _ _ _ _ _ _ _ _ _ _ _ _ _ _ _ _ _ _ _ _ _ _ _ _ _ _ _ _ _ _ _ _ _ _ _ _ _ _ _ _ _ _ _ _ _ _ _ _ _ _ _ _ _ ⟨f2, _, _, ds, (rg ++ [(i0 : Int)]), has, _, rfl, HY9, ⟨by rw [List.length_set]; exact HLN.out⟩, HB9, HP, ⟨by rw [List.length_append]; have := HLO.out; simp only [List.length_cons, List.length_nil]; omega⟩⟩
def frec.T20 : Bool × List (List Nat × List Nat) := (true, [([], []), ([], []), ([0, 1], [0, 1]), ([2], [2]), ([], []), ([], []), ([4, 5], [4, 5]), ([6], [6]), ([3, 7], [3, 7]), ([0, 1, 0, 1, 2, 3, 4, 5, 6, 7, 8], [0, 1]), ([9, 8, 0, 1, 2, 3, 4, 5, 6, 7, 8], [8, 9])])
def frec.B20 : List Nat := [0, 0, 3, 7, 0, 0, 48, 112, 255, 511, 1023]
theorem frec.tab20 : rtab .any (opsOf Try.f10 20) = frec.T20 := by kernel_rfl
theorem frec.bits20 : waitsOk frec.T20.2 frec.B20 = true := by kernel_rfl
def frec.T21 : Bool × List (List Nat × List Nat) := (true, [([], []), ([], []), ([0, 1], [0, 1]), ([2], [2]), ([3], [3]), ([4], [4]), ([], []), ([], []), ([6, 7], [6, 7]), ([8], [8]), ([5, 9], [5, 9])])
def frec.B21 : List Nat := [0, 0, 3, 7, 15, 31, 0, 0, 192, 448, 1023]
theorem frec.tab21 : rtab .any (opsOf Try.f10 21) = frec.T21 := by kernel_rfl
theorem frec.bits21 : waitsOk frec.T21.2 frec.B21 = true := by kernel_rfl
set_option maxHeartbeats 40000000 in
set_option maxRecDepth 1000000 in
theorem sw_send (k : Nat) (l0 : List Int) (t : List S35) (O : List S29) (i : Nat) (w : World) (gw gd cw cd j bx : Nat) (A0 : Option Addr) (c0 : Nat) (c1_ c2_ c3_ c4_ c5_ c6_ c7_ c13_ c18_ c19_ c20_ c21_ c22_ c23_ c24_ c25_ c26_ c27_ c28_ c29_ c30_ c31_ c32_ c33_ c34_ c35_ c36_ c37_ c38_ c39_ c40_ c41_ c42_ c43_ c44_ c45_ c46_ c47_ c48_ c49_ c50_ c51_ c52_ c53_ c54_ c55_ c222_ c223_ u10 u12 u15 u16 u17 u56 u57 u58 u59 u60 u61 u62 u63 u64 u65 u66 u67 u68 u69 u70 u71 u72 u73 u74 u75 u76 u77 u78 u79 u80 u81 u82 u83 u84 u85 u86 u87 u88 u89 u90 u91 u92 u93 u94 u95 u96 u97 u98 u99 u100 u101 u102 u103 u104 u105 u106 u107 u108 u109 u110 u111 u112 u113 u114 u115 u116 u117 u118 u119 u120 u121 u122 u123 u124 u125 u126 u127 u128 u129 u130 u131 u132 u133 u134 u135 u136 u137 u138 u139 u140 u141 u142 u143 u144 u145 u146 u147 u148 u149 u150 u151 u152 u153 u154 u155 u156 u157 u158 u159 u160 u161 u162 u163 u164 u165 u166 u167 u168 u169 u170 u171 u172 u173 u174 u175 u176 u177 u178 u179 u180 u181 u182 u183 u184 u185 u186 u187 u188 u189 u190 u191 u192 u193 u194 u195 u196 u197 u198 u199 u200 u201 u202 u203 u204 u205 u206 u207 u208 u209 u210 u211 u212 u213 u214 u215 u216 u217 u218 u219 u220 u221 : Value) (x0 x1 has : Int) (f : Nat → Nat) (vs : Nat → Value) (ws : List (List Int)) (ds rg : List Int) (o : List S29) (W2 : World) (K : Act → World → Prop) (Q : Exit → Act → World → Prop)
    (HR0 : Aside0 ((Kd.int .i64).C w A0 l0.length l0)) (HN0 : Aside0 (l0.length = j)) (hn6 : j ≤ 6) (hi300 : i ≤ 300) (HLO : Aside0 (o.length ≤ i)) (HLN : Aside0 (ws.length = j ∧ ds.length = j))
    (HM2 : Aside0 (W2.heap[bx]? = some (.cells #[.int .i64 x0, .int .i64 x1] 35 (0, 0)))) (HY2 : Aside0 (RY w W2 gw gd cw cd u10 u12 f vs ws ds rg o)) (HB2 : Aside0 (Below w.heap.size w W2))
    (hneg : ¬ x1 < 0) (hpos : ¬ 0 < x1) (hr0 : rg.length ≠ 0) (ds2 rg2 : List Int) (has2 : Int) (o1 : S29) (ws3 : List (List Int)) (ds3 rg3 : List Int) (has3 : Int) (HT : Aside0 (turnR k l0 ws ds rg has = some (ds2, rg2, has2))) (HS : Aside0 (sendR ws ds2 rg2 has2 = some (o1, ws3, ds3, rg3, has3))) (HP : Aside0 (refL k l0 t ws3 ds3 rg3 has3 (o ++ [o1]) = some O))
    (HQP : ∀ c a N v w, Q (.panic c) (Act.put a N v) w → Q (.panic c) a w)
    (hexit : ∀ a' w', SW k l0 t O i w gw gd cw cd j bx A0 c0 c1_ c2_ c3_ c4_ c5_ c6_ c7_ c13_ c18_ c19_ c20_ c21_ c22_ c23_ c24_ c25_ c26_ c27_ c28_ c29_ c30_ c31_ c32_ c33_ c34_ c35_ c36_ c37_ c38_ c39_ c40_ c41_ c42_ c43_ c44_ c45_ c46_ c47_ c48_ c49_ c50_ c51_ c52_ c53_ c54_ c55_ c222_ c223_ a' w' → K a' w') :
    Code.wp Try.prog swCode (Exit.then K Q) ⟨#[.slice A0 j c0, c1_, c2_, c3_, c4_, c5_, c6_, c7_, .slice (some ⟨gw, 0, none⟩) j cw, .slice (some ⟨gd, 0, none⟩) j cd, u10, .int .i64 has, u12, c13_, .pointer (some ⟨bx, 0, none⟩), u15, u16, u17, c18_, c19_, c20_, c21_, c22_, c23_, c24_, c25_, c26_, c27_, c28_, c29_, c30_, c31_, c32_, c33_, c34_, c35_, c36_, c37_, c38_, c39_, c40_, c41_, c42_, c43_, c44_, c45_, c46_, c47_, c48_, c49_, c50_, c51_, c52_, c53_, c54_, c55_, u56, u57, u58, u59, u60, u61, u62, u63, u64, u65, u66, u67, u68, u69, u70, u71, u72, u73, u74, u75, u76, u77, u78, u79, u80, u81, u82, u83, u84, u85, u86, u87, u88, u89, u90, u91, u92, u93, u94, u95, u96, u97, u98, u99, u100, u101, u102, u103, u104, u105, u106, u107, u108, u109, u110, u111, u112, u113, u114, u115, u116, u117, u118, u119, u120, u121, u122, u123, u124, u125, u126, u127, u128, u129, u130, u131, u132, u133, u134, u135, u136, u137, u138, u139, u140, u141, u142, u143, u144, u145, u146, u147, u148, u149, u150, u151, u152, u153, u154, u155, u156, u157, u158, u159, u160, u161, u162, u163, u164, u165, u166, u167, u168, u169, u170, u171, u172, u173, u174, u175, u176, u177, u178, u179, u180, u181, u182, u183, u184, u185, u186, u187, u188, u189, u190, u191, u192, u193, u194, u195, u196, u197, u198, u199, u200, u201, u202, u203, u204, u205, u206, u207, u208, u209, u210, u211, u212, u213, u214, u215, u216, u217, u218, u219, u220, u221, c222_, c223_], []⟩ W2 := by
  have hm0 : W2.cell? ⟨bx, 0, none⟩ = some (.int .i64 x0) := (blk_cell HM2.out 0).trans rfl
  have hm1 : W2.cell? ⟨bx, 1, none⟩ = some (.int .i64 x1) := (blk_cell HM2.out 1).trans rfl
  conv => arg 2; whnf
  have d1_ : decide (x1 < 0) = false := decide_eq_false hneg
  have d2_ : decide (0 < x1) = false := decide_eq_false hpos
  obtain ⟨Ar, cr, hvr, _⟩ := Kd.Q_slice HY2.out.qr
  obtain ⟨L, hL⟩ : ∃ L, rg.length = L := ⟨_, rfl⟩
  rw [hL] at hvr hr0
  subst hvr
  have e0_ : ((L : Int) == 0) = false := beq_eq_false_iff_ne.2 (by omega)
  have e1_ : (L == 0) = false := beq_eq_false_iff_ne.2 hr0
  clear hneg hpos hr0 hL
  go_wp2
  go_loopg [10, 11] k (fun kq v10 v11 W3 => ∃ (f1 : Nat → Nat) (ds1 rg1 : List Int) (has1 : Int), v11 = .int .i64 has1 ∧ Aside0 (RY w W3 gw gd cw cd v10 u12 f1 vs ws ds1 rg1 o) ∧ Aside0 (Below w.heap.size w W3) ∧ Aside0 (turnR kq l0 ws ds1 rg1 has1 = some (ds2, rg2, has2)))
  case atStart => exact ⟨f, ds, rg, has, rfl, HY2, HB2, HT⟩
  case round =>
    obtain ⟨f1, ds1, rg1, has1, rfl, HY3, HB3, HTr⟩ := hrel
    obtain ⟨W3, hW3⟩ : ∃ W, W = wr := ⟨_, rfl⟩
    subst hW3
    clear HT HY2 HB2 HM2 hm0 hm1 e0_ e1_ d1_ d2_
    cases gk with
    | zero => have := HTr.out; simp [turnR] at this
    | succ gk =>
    have hHH := HTr.out
    rw [turnR] at hHH
    split at hHH
    case isFalse => cases hHH
    rename_i hc
    obtain ⟨ht0, ht1, hi0, hi1, hqj, hwl, hdl, hq0, hd0, hd1, hs0, hs1⟩ := hc
    rw [HN0.out] at hi1 hwl hdl
    obtain ⟨n, hn⟩ : ∃ n : Nat, rd rg1 0 = (n : Int) := ⟨(rd rg1 0).toNat, by omega⟩
    rw [hn] at hHH hq0 hd0 hd1 hs0 hs1 hi1
    rw [Int.toNat_natCast] at hHH hq0
    obtain ⟨d, hd⟩ : ∃ d, rd ds1 (n : Int) = d := ⟨_, rfl⟩
    obtain ⟨s, hs⟩ : ∃ s, rd l0 (n : Int) = s := ⟨_, rfl⟩
    obtain ⟨q, hq⟩ : ∃ q, ws.getD n [] = q := ⟨_, rfl⟩
    obtain ⟨p, hp⟩ : ∃ p, rd q 0 = p := ⟨_, rfl⟩
    rw [hd, hs, hq, hp] at hHH
    rw [hd] at hd0 hd1
    rw [hs] at hs0 hs1
    rw [hq] at hq0
    obtain ⟨dU, hdU⟩ : ∃ y, (if has1 = (n : Int) then ds1 else ds1.set n (d + s)) = y := ⟨_, rfl⟩
    rw [hdU] at hHH
    obtain ⟨d1, hd1e⟩ : ∃ y, rd dU (n : Int) = y := ⟨_, rfl⟩
    rw [hd1e] at hHH
    have HH := Aside0.mk hHH
    have HD := Aside0.mk hd
    have HQE := Aside0.mk hq
    have HPE := Aside0.mk hp
    have HDU := Aside0.mk hdU
    have HD1 := Aside0.mk hd1e
    have HN := Aside0.mk hn
    have HT1 := Aside0.mk (And.intro ht0 ht1)
    have HND : Aside0 (n < ds1.length) := ⟨by omega⟩
    have HNW : Aside0 (n < ws.length) := ⟨by omega⟩
    have HNU : Aside0 (n < dU.length) := ⟨by rw [← hdU]; split <;> (try rw [List.length_set]) <;> omega⟩
    have HQ0 := Aside0.mk hq0
    have HLU : Aside0 (ws.length = j ∧ dU.length = j) := ⟨hwl, by rw [← hdU]; split <;> (try rw [List.length_set]) <;> exact hdl⟩
    have hwq : wrap64 (d + s) = d + s := w64f (by omega) (by omega)
    have p0 : ((0 : Int) ≤ (n : Int)) = True := eq_true (by omega)
    have q0 : ((n : Int) < (j : Int)) = True := eq_true (by omega)
    have q0n : (n < j) = True := eq_true (by omega)
    obtain ⟨R, hR⟩ : ∃ R, rg1.length = R := ⟨_, rfl⟩
    obtain ⟨gt, ot, ct, hvt, _, _, _⟩ := Kd.Q_form HY3.out.qr ht0
    rw [hR] at hvt ht0
    subst hvt
    have HR := Aside0.mk hR
    have ht0c : W3.cell? ⟨gt, ot, none⟩ = some (.int .i64 (n : Int)) := by
      rw [← hn]
      have h1 := HY3.out.qr
      rw [← hR] at h1
      have e := (Kd.Q_cell (enc := Value.int .i64) (h1 := fun _ => rfl) (0 : Int) h1 0 (by omega) (by omega)).1
      simpa [rdOf, rd] using e
    have htl : ((0 : Int) < (R : Int)) = True := eq_true (by omega)
    have htln : (0 < R) = True := eq_true ht0
    obtain ⟨aq, rfl, hcs3⟩ := Kd.at_int (Kd.C_below HR0.out HB3.out) (n : Int) (by omega) (by rw [HN0.out]; exact hi1)
    rw [Int.toNat_natCast, hs] at hcs3
    have hcd3 : W3.cell? ⟨gd, n, none⟩ = some (.int .i64 d) := by rw [← HD.out]; exact HY3.out.d' HND.out
    obtain ⟨bh, hbh⟩ : ∃ t : Bool, (has1 == (n : Int)) = t := ⟨_, rfl⟩
    have hbn : (has1 != (n : Int)) = !bh := by rw [← hbh]; rfl
    clear ht0 ht1 hi0 hi1 hqj hwl hdl hq0 hd0 hd1 hs0 hs1 hn hd hq hp hdU hd1e hR hs hHH HTr
    go_upto_if 61 with (fail)
    clear ht0c
    go_cut [11] from 56 to 89 (fun v11 wc => v11 = .int .i64 (n : Int) ∧ Aside0 (RY w wc gw gd cw cd (.slice (some ⟨gt, ot, none⟩) R ct) u12 f1 vs ws dU rg1 o) ∧ Aside0 (Below w.heap.size w wc))
    case first =>
      cases bh with
      | true =>
        obtain rfl := beq_iff_eq.1 hbh
        have HDU' := HDU.out
        rw [if_pos rfl] at HDU'
        subst HDU'
        clear hbh
        go_wp2
        go_meet
        case rel => exact ⟨rfl, HY3, HB3⟩
      | false =>
        have HDU' := HDU.out
        rw [if_neg (beq_eq_false_iff_ne.1 hbh)] at HDU'
        clear hbh
        go_upto_region 20 with (fail)
        refine start_ (n := 11) (S := fun w' => w'.cell? ⟨gd, n, none⟩ = some (.int .i64 d) ∧ w'.cell? (aq.add n) = some (.int .i64 s)) (ds := [10]) #[false, false, false, false, false, false, false, false, false, false, false] (by kernel_rfl) rfl rfl ⟨hcd3, hcs3⟩ (fun hHeld => ?_)
        refine with_tabW frec.tab20 frec.bits20 (fun HT_ HW_ => ?_)
        obtain ⟨W4, hw_⟩ : ∃ w, w = W3.drew := ⟨_, rfl⟩
        have hl_ : Below W3.heap.size W3 W4 := by rw [hw_]; exact below_drew1 (Below.refl _ _)
        rw [← hw_] at hHeld ⊢
        have HY4 := Aside0.mk (HY3.out.below hl_)
        have HB4 := Aside0.mk (below_then HB3.out HB3.out.size hl_)
        clear hw_ hl_
        have hfz4 := HY4.out.frozen_d n
        have hcd4 : W4.cell? ⟨gd, n, none⟩ = some (.int .i64 d) := by rw [← HD.out]; exact HY4.out.d' HND.out
        refine pure_ (i := 0) (N := some 63) (v := ?_) (a' := ?_) #[true, false, false, false, false, false, false, false, false, false, false] rfl rfl (any_of HT_.out (by kernel_rfl)) (fun c_ _ w_ h => HQP c_ _ _ _ w_ h) (Or.inl ⟨by rfl, ?_⟩) ?_ ?_
        rotate_left
        · intro w'
          go_simp
          with_reducible rfl
        rotate_left
        · simp only [Act.put, List.setIfInBounds_toArray, List.set_cons_zero, List.set_cons_succ, i64_w, i32_w, hwq]
          rfl
        refine pure_ (i := 1) (N := some 64) (v := ?_) (a' := ?_) #[true, true, false, false, false, false, false, false, false, false, false] rfl rfl (any_of HT_.out (by kernel_rfl)) (fun c_ _ w_ h => HQP c_ _ _ _ w_ h) (Or.inl ⟨by rfl, ?_⟩) ?_ ?_
        rotate_left
        · intro w'
          go_simp
          with_reducible rfl
        rotate_left
        · simp only [Act.put, List.setIfInBounds_toArray, List.set_cons_zero, List.set_cons_succ, i64_w, i32_w, hwq]
          rfl
        refine pure_ (i := 2) (N := some 65) (v := ?_) (a' := ?_) #[true, true, true, false, false, false, false, false, false, false, false] rfl rfl (any_of HT_.out (by kernel_rfl)) (fun c_ _ w_ h => HQP c_ _ _ _ w_ h) (Or.inl ⟨by rfl, ?_⟩) ?_ ?_
        rotate_left
        · intro w'
          go_simp
          with_reducible rfl
        rotate_left
        · simp only [Act.put, List.setIfInBounds_toArray, List.set_cons_zero, List.set_cons_succ, i64_w, i32_w, hwq]
          rfl
        refine pure_ (i := 4) (N := some 67) (v := ?_) (a' := ?_) #[true, true, true, false, true, false, false, false, false, false, false] rfl rfl (any_of HT_.out (by kernel_rfl)) (fun c_ _ w_ h => HQP c_ _ _ _ w_ h) (Or.inl ⟨by rfl, ?_⟩) ?_ ?_
        rotate_left
        · intro w'
          go_simp
          with_reducible rfl
        rotate_left
        · simp only [Act.put, List.setIfInBounds_toArray, List.set_cons_zero, List.set_cons_succ, i64_w, i32_w, hwq]
          rfl
        refine pure_ (i := 5) (N := some 68) (v := ?_) (a' := ?_) #[true, true, true, false, true, true, false, false, false, false, false] rfl rfl (any_of HT_.out (by kernel_rfl)) (fun c_ _ w_ h => HQP c_ _ _ _ w_ h) (Or.inl ⟨by rfl, ?_⟩) ?_ ?_
        rotate_left
        · intro w'
          go_simp
          with_reducible rfl
        rotate_left
        · simp only [Act.put, List.setIfInBounds_toArray, List.set_cons_zero, List.set_cons_succ, i64_w, i32_w, hwq]
          rfl
        refine pure_ (i := 6) (N := some 69) (v := ?_) (a' := ?_) #[true, true, true, false, true, true, true, false, false, false, false] rfl rfl (any_of HT_.out (by kernel_rfl)) (fun c_ _ w_ h => HQP c_ _ _ _ w_ h) (Or.inl ⟨by rfl, ?_⟩) ?_ ?_
        rotate_left
        · intro w'
          go_simp
          with_reducible rfl
        rotate_left
        · simp only [Act.put, List.setIfInBounds_toArray, List.set_cons_zero, List.set_cons_succ, i64_w, i32_w, hwq]
          rfl
        refine take_ (i := 3) (N := some 66) (v := ?_) (a' := ?_) #[true, true, true, true, true, true, true, false, false, false, false] rfl rfl (take_ofW HT_.out HW_.out (by kernel_rfl)) (fun c_ _ w_ h => HQP c_ _ _ _ w_ h) (Or.inl ⟨by rfl, ?_⟩) hHeld ?_ ?_
        rotate_left
        · rintro w' ⟨s0, s1⟩
          go_simp
          with_reducible rfl
        rotate_left
        · simp only [Act.put, List.setIfInBounds_toArray, List.set_cons_zero, List.set_cons_succ, i64_w, i32_w, hwq]
          rfl
        refine take_ (i := 7) (N := some 70) (v := ?_) (a' := ?_) #[true, true, true, true, true, true, true, true, false, false, false] rfl rfl (take_ofW HT_.out HW_.out (by kernel_rfl)) (fun c_ _ w_ h => HQP c_ _ _ _ w_ h) (Or.inl ⟨by rfl, ?_⟩) hHeld ?_ ?_
        rotate_left
        · rintro w' ⟨s0, s1⟩
          go_simp
          with_reducible rfl
        rotate_left
        · simp only [Act.put, List.setIfInBounds_toArray, List.set_cons_zero, List.set_cons_succ, i64_w, i32_w, hwq]
          rfl
        refine pure_ (i := 8) (N := some 71) (v := ?_) (a' := ?_) #[true, true, true, true, true, true, true, true, true, false, false] rfl rfl (any_of HT_.out (by kernel_rfl)) (fun c_ _ w_ h => HQP c_ _ _ _ w_ h) (Or.inl ⟨by rfl, ?_⟩) ?_ ?_
        rotate_left
        · intro w'
          go_simp
          with_reducible rfl
        rotate_left
        · simp only [Act.put, List.setIfInBounds_toArray, List.set_cons_zero, List.set_cons_succ, i64_w, i32_w, hwq]
          rfl
        refine pure_ (i := 9) (N := some 72) (v := ?_) (a' := ?_) #[true, true, true, true, true, true, true, true, true, true, false] rfl rfl (any_of HT_.out (by kernel_rfl)) (fun c_ _ w_ h => HQP c_ _ _ _ w_ h) (Or.inl ⟨by rfl, ?_⟩) ?_ ?_
        rotate_left
        · intro w'
          go_simp
          with_reducible rfl
        rotate_left
        · simp only [Act.put, List.setIfInBounds_toArray, List.set_cons_zero, List.set_cons_succ, i64_w, i32_w, hwq]
          rfl
        refine last_ (i := 10) (N := none) #[true, true, true, true, true, true, true, true, true, true, true] rfl rfl (one_of HT_.out (by kernel_rfl)) (by decide) (fun K hK => ?_)
        refine skip_ (w1 := ?_) (by rfl) rfl ?_ ?_
        rotate_left
        · go_simp
          rfl
        refine hK.out _ _ ?_
        clear hK K
        refine done_ (done_of HT_.out (by kernel_rfl)) ?_
        go_wp2
        go_meet
        case rel => exact ⟨rfl, ⟨by rw [← HDU.out, HDU.out, ← HDU']; exact HY4.out.setD n HND.out (d + s)⟩, ⟨below_set HB4.out HY4.out.hgd⟩⟩
    case rest =>
      obtain ⟨rfl, HY5, HB5⟩ := hcut
      obtain ⟨W5, hW5⟩ : ∃ W, W = wc := ⟨_, rfl⟩
      subst hW5
      clear hcs3 hcd3 hbh hbn hwq HY3 HB3
      have hQw : iQ W5 w.heap.size (fun k => f1 k = n + 2) (vs n) q := by have h1 := HY5.out.qs' HNW.out; rw [HQE.out] at h1; exact h1
      obtain ⟨gq, oq, cq, hvs, _, _, _⟩ := Kd.Q_form hQw HQ0.out
      obtain ⟨Lq, hLq⟩ : ∃ m : Nat, q.length = m := ⟨_, rfl⟩
      have HLQ := Aside0.mk hLq
      rw [hLq] at hvs
      have HVN := Aside0.mk hvs
      have hw5 : W5.cell? ⟨gw, n, none⟩ = some (.slice (some ⟨gq, oq, none⟩) Lq cq) := (HY5.out.w n HNW.out).trans (congrArg some hvs)
      have hp5 : W5.cell? ⟨gq, oq, none⟩ = some (.int .i64 p) := by
        rw [← HPE.out]
        have h1 := hQw
        rw [hvs, ← hLq] at h1
        have e := (Kd.Q_cell (enc := Value.int .i64) (h1 := fun _ => rfl) (0 : Int) h1 0 (by omega) (by have := HQ0.out; omega)).1
        simpa [rdOf, rd] using e
      have hd5 : W5.cell? ⟨gd, n, none⟩ = some (.int .i64 d1) := by rw [← HD1.out]; exact HY5.out.d' HNU.out
      have hql : ((0 : Int) < (Lq : Int)) = True := eq_true (by have := HQ0.out; omega)
      have hqln : (0 < Lq) = True := eq_true (by have := HQ0.out; omega)
      obtain ⟨le, hle⟩ : ∃ t : Bool, decide (p ≤ d1) = t := ⟨_, rfl⟩
      clear hQw hvs hLq
      go_upto_region 21 with (fail)
      refine start_ (n := 11) (S := fun w' => w'.cell? ⟨gw, n, none⟩ = some (.slice (some ⟨gq, oq, none⟩) Lq cq) ∧ w'.cell? ⟨gq, oq, none⟩ = some (.int .i64 p) ∧ w'.cell? ⟨gd, n, none⟩ = some (.int .i64 d1)) (ds := []) #[false, false, false, false, false, false, false, false, false, false, false] (by kernel_rfl) rfl rfl ⟨hw5, hp5, hd5⟩ (fun hHeld => ?_)
      refine with_tabW frec.tab21 frec.bits21 (fun HT_ HW_ => ?_)
      obtain ⟨W6, hw_⟩ : ∃ w, w = W5.drew := ⟨_, rfl⟩
      have hl_ : Below W5.heap.size W5 W6 := by rw [hw_]; exact below_drew1 (Below.refl _ _)
      rw [← hw_] at hHeld ⊢
      have HY6 := Aside0.mk (HY5.out.below hl_)
      have HB6 := Aside0.mk (below_then HB5.out HB5.out.size hl_)
      clear hw_ hl_
      refine pure_ (i := 0) (N := some 73) (v := ?_) (a' := ?_) #[true, false, false, false, false, false, false, false, false, false, false] rfl rfl (any_of HT_.out (by kernel_rfl)) (fun c_ _ w_ h => HQP c_ _ _ _ w_ h) (Or.inl ⟨by rfl, ?_⟩) ?_ ?_
      rotate_left
      · intro w'
        go_simp
        with_reducible rfl
      rotate_left
      · simp only [Act.put, List.setIfInBounds_toArray, List.set_cons_zero, List.set_cons_succ, i64_w, i32_w]
        rfl
      refine pure_ (i := 1) (N := some 74) (v := ?_) (a' := ?_) #[true, true, false, false, false, false, false, false, false, false, false] rfl rfl (any_of HT_.out (by kernel_rfl)) (fun c_ _ w_ h => HQP c_ _ _ _ w_ h) (Or.inl ⟨by rfl, ?_⟩) ?_ ?_
      rotate_left
      · intro w'
        go_simp
        with_reducible rfl
      rotate_left
      · simp only [Act.put, List.setIfInBounds_toArray, List.set_cons_zero, List.set_cons_succ, i64_w, i32_w]
        rfl
      refine pure_ (i := 2) (N := some 75) (v := ?_) (a' := ?_) #[true, true, true, false, false, false, false, false, false, false, false] rfl rfl (any_of HT_.out (by kernel_rfl)) (fun c_ _ w_ h => HQP c_ _ _ _ w_ h) (Or.inl ⟨by rfl, ?_⟩) ?_ ?_
      rotate_left
      · intro w'
        go_simp
        with_reducible rfl
      rotate_left
      · simp only [Act.put, List.setIfInBounds_toArray, List.set_cons_zero, List.set_cons_succ, i64_w, i32_w]
        rfl
      refine pure_ (i := 6) (N := some 79) (v := ?_) (a' := ?_) #[true, true, true, false, false, false, true, false, false, false, false] rfl rfl (any_of HT_.out (by kernel_rfl)) (fun c_ _ w_ h => HQP c_ _ _ _ w_ h) (Or.inl ⟨by rfl, ?_⟩) ?_ ?_
      rotate_left
      · intro w'
        go_simp
        with_reducible rfl
      rotate_left
      · simp only [Act.put, List.setIfInBounds_toArray, List.set_cons_zero, List.set_cons_succ, i64_w, i32_w]
        rfl
      refine pure_ (i := 7) (N := some 80) (v := ?_) (a' := ?_) #[true, true, true, false, false, false, true, true, false, false, false] rfl rfl (any_of HT_.out (by kernel_rfl)) (fun c_ _ w_ h => HQP c_ _ _ _ w_ h) (Or.inl ⟨by rfl, ?_⟩) ?_ ?_
      rotate_left
      · intro w'
        go_simp
        with_reducible rfl
      rotate_left
      · simp only [Act.put, List.setIfInBounds_toArray, List.set_cons_zero, List.set_cons_succ, i64_w, i32_w]
        rfl
      refine pure_ (i := 8) (N := some 81) (v := ?_) (a' := ?_) #[true, true, true, false, false, false, true, true, true, false, false] rfl rfl (any_of HT_.out (by kernel_rfl)) (fun c_ _ w_ h => HQP c_ _ _ _ w_ h) (Or.inl ⟨by rfl, ?_⟩) ?_ ?_
      rotate_left
      · intro w'
        go_simp
        with_reducible rfl
      rotate_left
      · simp only [Act.put, List.setIfInBounds_toArray, List.set_cons_zero, List.set_cons_succ, i64_w, i32_w]
        rfl
      refine take_ (i := 3) (N := some 76) (v := ?_) (a' := ?_) #[true, true, true, true, false, false, true, true, true, false, false] rfl rfl (take_ofW HT_.out HW_.out (by kernel_rfl)) (fun c_ _ w_ h => HQP c_ _ _ _ w_ h) (Or.inl ⟨by rfl, ?_⟩) hHeld ?_ ?_
      rotate_left
      · rintro w' ⟨s0, s1, s2⟩
        go_simp
        with_reducible rfl
      rotate_left
      · simp only [Act.put, List.setIfInBounds_toArray, List.set_cons_zero, List.set_cons_succ, i64_w, i32_w]
        rfl
      refine pure_ (i := 4) (N := some 77) (v := ?_) (a' := ?_) #[true, true, true, true, true, false, true, true, true, false, false] rfl rfl (any_of HT_.out (by kernel_rfl)) (fun c_ _ w_ h => HQP c_ _ _ _ w_ h) (Or.inl ⟨by rfl, ?_⟩) ?_ ?_
      rotate_left
      · intro w'
        go_simp
        with_reducible rfl
      rotate_left
      · simp only [Act.put, List.setIfInBounds_toArray, List.set_cons_zero, List.set_cons_succ, i64_w, i32_w]
        rfl
      refine take_ (i := 5) (N := some 78) (v := ?_) (a' := ?_) #[true, true, true, true, true, true, true, true, true, false, false] rfl rfl (take_ofW HT_.out HW_.out (by kernel_rfl)) (fun c_ _ w_ h => HQP c_ _ _ _ w_ h) (Or.inl ⟨by rfl, ?_⟩) hHeld ?_ ?_
      rotate_left
      · rintro w' ⟨s0, s1, s2⟩
        go_simp
        with_reducible rfl
      rotate_left
      · simp only [Act.put, List.setIfInBounds_toArray, List.set_cons_zero, List.set_cons_succ, i64_w, i32_w]
        rfl
      refine take_ (i := 9) (N := some 82) (v := ?_) (a' := ?_) #[true, true, true, true, true, true, true, true, true, true, false] rfl rfl (take_ofW HT_.out HW_.out (by kernel_rfl)) (fun c_ _ w_ h => HQP c_ _ _ _ w_ h) (Or.inl ⟨by rfl, ?_⟩) hHeld ?_ ?_
      rotate_left
      · rintro w' ⟨s0, s1, s2⟩
        go_simp
        with_reducible rfl
      rotate_left
      · simp only [Act.put, List.setIfInBounds_toArray, List.set_cons_zero, List.set_cons_succ, i64_w, i32_w]
        rfl
      refine pure_ (i := 10) (N := some 83) (v := ?_) (a' := ?_) #[true, true, true, true, true, true, true, true, true, true, true] rfl rfl (any_of HT_.out (by kernel_rfl)) (fun c_ _ w_ h => HQP c_ _ _ _ w_ h) (Or.inl ⟨by rfl, ?_⟩) ?_ ?_
      rotate_left
      · intro w'
        go_simp
        with_reducible rfl
      rotate_left
      · simp only [Act.put, List.setIfInBounds_toArray, List.set_cons_zero, List.set_cons_succ, i64_w, i32_w]
        rfl
      refine done_ (done_of HT_.out (by kernel_rfl)) ?_
      clear hw5 hp5 hd5
      cases le with
      | true =>
        have hHH := HH.out
        rw [if_pos (of_decide_eq_true hle)] at hHH
        simp only [Option.some.injEq, Prod.mk.injEq] at hHH
        obtain ⟨e1, e2, e3⟩ := hHH
        subst e1 e2 e3
        clear HH hle
        have hS := HS.out
        unfold sendR at hS
        rw [HN.out, Int.toNat_natCast, HQE.out, HPE.out, HD1.out] at hS
        split at hS
        case isFalse => cases hS
        rename_i hc2
        have hwq2 : wrap64 (d1 - p) = d1 - p := w64f hc2.2.2.2.2.2.2.1 hc2.2.2.2.2.2.2.2
        clear hc2
        rw [HLQ.out] at hS
        have HS2 := Aside0.mk hS
        clear hS
        have ht6 : W6.cell? ⟨gt, ot, none⟩ = some (.int .i64 (n : Int)) := by
          rw [← HN.out]
          have h1 := HY6.out.qr
          rw [← HR.out] at h1
          have e := (Kd.Q_cell (enc := Value.int .i64) (h1 := fun _ => rfl) (0 : Int) h1 0 (by omega) (by have := HT1.out; omega)).1
          simpa [rdOf, rd] using e
        have hw6 : W6.cell? ⟨gw, n, none⟩ = some (.slice (some ⟨gq, oq, none⟩) Lq cq) := (HY6.out.w n HNW.out).trans (congrArg some HVN.out)
        have hQw : iQ W6 w.heap.size (fun k => f1 k = n + 2) (.slice (some ⟨gq, oq, none⟩) Lq cq) q := by have h1 := HY6.out.qs' HNW.out; rw [HQE.out, HVN.out] at h1; exact h1
        have hp6 : W6.cell? ⟨gq, oq, none⟩ = some (.int .i64 p) := by
          rw [← HPE.out]
          have h1 := hQw
          rw [← HLQ.out] at h1
          have e := (Kd.Q_cell (enc := Value.int .i64) (h1 := fun _ => rfl) (0 : Int) h1 0 (by omega) (by have := HQ0.out; omega)).1
          simpa [rdOf, rd] using e
        have hfz6 := HY6.out.frozen_w n
        obtain ⟨i3, hi3, hz3⟩ := Option.map_eq_some_iff.1 info3r
        have hsz3 : i3.size = 1 := by simp only [Prod.mk.injEq] at hz3; exact hz3.2.1
        clear hz3
        have hRR := Kd.Q_reads' hQw
        have hcut := cut_from (P := Try.prog) 22 3 .i64 Try.underlying22 hi3 1 hsz3 (some ⟨gq, oq, none⟩) Lq cq (1 : Int) (by omega) (by have := HQ0.out; have := HLQ.out; omega)
        rw [show (1 : Int).toNat = 1 from rfl] at hcut
        have hQd := Kd.Q_drop (k := 1) hQw (by have := HQ0.out; omega)
        rw [show (Kd.int .i64).sz = 1 from rfl] at hQd
        have HQD := Aside0.mk hQd
        generalize (if cq = 1 then (some (⟨gq, oq, none⟩ : Addr)) else (some (⟨gq, oq, none⟩ : Addr)).map (·.add (1 * 1))) = At at hcut HQD
        obtain ⟨L1, hL1⟩ : ∃ m : Nat, Lq - 1 = m := ⟨_, rfl⟩
        obtain ⟨C1, hC1⟩ : ∃ m : Nat, cq - 1 = m := ⟨_, rfl⟩
        rw [hL1, hC1] at hcut HQD
        have HL1 := Aside0.mk hL1
        have HLP : Aside0 (0 < Lq) := ⟨by have := HQ0.out; have := HLQ.out; omega⟩
        clear hQw hQd hL1 hC1 hRR
        go_upto_region 27 with (fail)
        have HY7 : Aside0 (RY w (W6.setCell ⟨gw, n, none⟩ (.slice At L1 C1)) gw gd cw cd (.slice (some ⟨gt, ot, none⟩) R ct) u12 f1 (fun j => if j = n then (.slice At L1 C1 : Value) else vs j) (ws.set n (q.drop 1)) dU rg1 o) := ⟨HY6.out.newW n HNW.out (grown_refl _ _) HQD.out⟩
        have HB7 : Aside0 (Below w.heap.size w (W6.setCell ⟨gw, n, none⟩ (.slice At L1 C1))) := ⟨below_set HB6.out HY6.out.hgw⟩
        obtain ⟨W7, hW7⟩ : ∃ W, W6.setCell ⟨gw, n, none⟩ (.slice At L1 C1) = W := ⟨_, rfl⟩
        rw [hW7] at HY7 HB7 ⊢
        clear hW7 hcut ht6 hw6 hp6 hfz6
        have hd7 : W7.cell? ⟨gd, n, none⟩ = some (.int .i64 d1) := by rw [← HD1.out]; exact HY7.out.d' HNU.out
        have hfz7 := HY7.out.frozen_d n
        go_upto_region 28 with (fail)
        have HY8 : Aside0 (RY w (W7.setCell ⟨gd, n, none⟩ (.int .i64 (d1 - p))) gw gd cw cd (.slice (some ⟨gt, ot, none⟩) R ct) u12 f1 (fun j => if j = n then (.slice At L1 C1 : Value) else vs j) (ws.set n (q.drop 1)) (dU.set n (d1 - p)) rg1 o) := ⟨HY7.out.setD n HNU.out (d1 - p)⟩
        have HB8 : Aside0 (Below w.heap.size w (W7.setCell ⟨gd, n, none⟩ (.int .i64 (d1 - p)))) := ⟨below_set HB7.out HY7.out.hgd⟩
        obtain ⟨W8, hW8⟩ : ∃ W, W7.setCell ⟨gd, n, none⟩ (.int .i64 (d1 - p)) = W := ⟨_, rfl⟩
        rw [hW8] at HY8 HB8 ⊢
        clear hW8 hd7 hfz7
        have hw8 : W8.cell? ⟨gw, n, none⟩ = some (.slice At L1 C1) := (HY8.out.w n (by rw [List.length_set]; exact HNW.out)).trans (congrArg some (if_pos rfl))
        have hfz8 := HY8.out.frozen_d n
        by_cases hone : Lq = 1
        · have hS := HS2.out
          rw [if_pos hone] at hS
          simp only [Option.some.injEq, Prod.mk.injEq] at hS
          obtain ⟨rfl, rfl, rfl, rfl, rfl⟩ := hS
          obtain rfl : L1 = 0 := by have := HL1.out; omega
          have hd8 := HY8.out.d' (i := n) (by rw [List.length_set]; exact HNU.out)
          have hQt : iQ W8 w.heap.size (fun k => f1 k = 0) (.slice (some ⟨gt, ot, none⟩) R ct) rg1 := HY8.out.qr
          have hRR := Kd.Q_reads' hQt
          have hcut := cut_from (P := Try.prog) 22 3 .i64 Try.underlying22 hi3 1 hsz3 (some ⟨gt, ot, none⟩) R ct (1 : Int) (by omega) (by have := HT1.out; have := HR.out; omega)
          rw [show (1 : Int).toNat = 1 from rfl] at hcut
          have hQd := Kd.Q_drop (k := 1) hQt (by have := HT1.out; omega)
          rw [show (Kd.int .i64).sz = 1 from rfl] at hQd
          have HQR := Aside0.mk hQd
          generalize (if ct = 1 then (some (⟨gt, ot, none⟩ : Addr)) else (some (⟨gt, ot, none⟩ : Addr)).map (·.add (1 * 1))) = Au at hcut HQR
          obtain ⟨L2, hL2⟩ : ∃ m : Nat, R - 1 = m := ⟨_, rfl⟩
          obtain ⟨C2, hC2⟩ : ∃ m : Nat, ct - 1 = m := ⟨_, rfl⟩
          rw [hL2, hC2] at hcut HQR
          clear hQt hQd hL2 hC2 hRR hi3 hsz3 hone
          have HYr : Aside0 (RY w W8 gw gd cw cd (.slice Au L2 C2) u12 f1 (fun j => if j = n then (.slice At 0 C1 : Value) else vs j) (ws.set n (q.drop 1)) (dU.set n (d1 - p)) (rg1.drop 1) o) := ⟨HY8.out.newR (grown_refl _ _) HQR.out⟩
          go_upto_region 30 with (fail)
          have HYz : Aside0 (RY w (W8.setCell ⟨gd, n, none⟩ (.int .i64 0)) gw gd cw cd (.slice Au L2 C2) u12 f1 (fun j => if j = n then (.slice At 0 C1 : Value) else vs j) (ws.set n (q.drop 1)) ((dU.set n (d1 - p)).set n 0) (rg1.drop 1) o) := ⟨HYr.out.setD n (by rw [List.length_set]; exact HNU.out) 0⟩
          have HBz : Aside0 (Below w.heap.size w (W8.setCell ⟨gd, n, none⟩ (.int .i64 0))) := ⟨below_set HB8.out HY8.out.hgd⟩
          rw [List.set_set] at HYz
          obtain ⟨Wz, hWz⟩ : ∃ W, W8.setCell ⟨gd, n, none⟩ (.int .i64 0) = W := ⟨_, rfl⟩
          rw [hWz] at HYz HBz ⊢
          clear hWz hd8 hw8 hfz8
          go_wp2_with (first | ((with_reducible refine gate_dst (N := 129) rfl ?_); refine Kd.R_lit k29 (w0 := w) w.heap.size 29 ?hg (N := 129) ?hd (xs := ([⟨0, (n : Int), p⟩] : List S29)) (inner := [.int .i64 0, .int .i64 (n : Int), .int .i64 p]) (ok := fun _ => True) (okp := fun _ => True) ?hr ?hp (fun _ hk => hk) trivial HBz.out HBz.out.size (by simp) ?_; (case hd => rfl); (case hg => rfl); (case hr => first | (go_simp; done) | (go_simp; rfl)); (case hp => exact Reps.c3 (k29_mkM _ _ _ ⟨0, (n : Int), p⟩) (Reps.none _ _)); intro v8 w8 ho8 hb8 hg_ hnew_; have HY8 := Aside0.mk (HYz.out.step (fun k hk => hg_.block k hk (by simp))); obtain ⟨Ao8, co8, eo8⟩ := Kd.R_slice ho8; subst eo8; have HL8 := Aside0.mk (Kd.R_reads' ho8).2.2; have HB8 := Aside0.mk hb8; clear ho8 hb8 hg_ hnew_) | ((with_reducible refine gate_builtin (b := .append) (xs := #[.tmp 125, .tmp 129]) rfl ?_); at_builtin; refine Kd.R_append_rows k29 (w0 := w) w.heap.size rfl (.tmp 125) (.tmp 129) 24 29 (.agg #[.int .i64 0, .int .i64 0, .int .i64 0]) 24 rfl Try.underlying24 info29s rfl (by decide) (by omega) u12 o [⟨0, (n : Int), p⟩] _ _ _ (fun _ => True) (fun _ => False) rfl rfl ?aO ?aR k29_M (fun _ h => h.elim) (fun _ _ => trivial) ?aB ?aS ?aL ?_; (case aR => exact HL8.out); (case aO => exact HY8.out.out); (case aB => exact HB8.out); (case aS => exact HB8.out.size); (case aL => rw [show ([⟨0, (n : Int), p⟩] : List S29).length = 1 from rfl]; have := HLO.out; omega); intro v9 w9 ho hb hg hat; have HY9 := Aside0.mk (HY8.out.newO hg ho); have HB9 := Aside0.mk hb; clear ho hb hg hat))
          exact SW.mk _ _ _ _ _ _ _ _ _ _ _ _ _ _ _ _ _ _ _ _ _ _ _ _ _ _ _ _ _ _ _ _ _ _ _ _ _ _ _ _ _ _ _ _ _ _ _ _ _ _ _ _ _ _ _ _ _ _ _ _ _ _ _ _ _ _ _ _ _ _ _ _ _ _ _ _ _ _ _ _ _ _ _ _ _ _ _ _ _ _ _ _ _ _ _ _ _ _ _ _ _ _ _ _ _ _ _ _ _ _ _ _ _ _ _ _ _ _ _ _ _ _ _ _ _ _ _ _ _ _ _ _ _ _ _ _ _ _ _ _ _ _ _ _ _ _ _ _ _ _ _ _ _ _ _ _ _ _ _ _ _ _ _ _ _ _ _ _ _ _ _ _ _ ⟨f1, _, _, _, _, _, _, rfl, HY9, ⟨by rw [List.length_set, List.length_set]; exact HLU.out⟩, HB9, HP, ⟨by rw [List.length_append]; have := HLO.out; simp only [List.length_cons, List.length_nil]; omega⟩⟩
        · have hS := HS2.out
          rw [if_neg hone] at hS
          simp only [Option.some.injEq, Prod.mk.injEq] at hS
          obtain ⟨rfl, rfl, rfl, rfl, rfl⟩ := hS
          have e8_ : ((L1 : Int) == 0) = false := beq_eq_false_iff_ne.2 (by have := HL1.out; have := HLP.out; omega)
          have e8n_ : (L1 == 0) = false := beq_eq_false_iff_ne.2 (by have := HL1.out; have := HLP.out; omega)
          clear hi3 hsz3 hone
          go_wp2_with (first | ((with_reducible refine gate_dst (N := 129) rfl ?_); refine Kd.R_lit k29 (w0 := w) w.heap.size 29 ?hg (N := 129) ?hd (xs := ([⟨0, (n : Int), p⟩] : List S29)) (inner := [.int .i64 0, .int .i64 (n : Int), .int .i64 p]) (ok := fun _ => True) (okp := fun _ => True) ?hr ?hp (fun _ hk => hk) trivial HB8.out HB8.out.size (by simp) ?_; (case hd => rfl); (case hg => rfl); (case hr => first | (go_simp; done) | (go_simp; rfl)); (case hp => exact Reps.c3 (k29_mkM _ _ _ ⟨0, (n : Int), p⟩) (Reps.none _ _)); intro v8 w8 ho8 hb8 hg_ hnew_; have HY8 := Aside0.mk (HY8.out.step (fun k hk => hg_.block k hk (by simp))); obtain ⟨Ao8, co8, eo8⟩ := Kd.R_slice ho8; subst eo8; have HL8 := Aside0.mk (Kd.R_reads' ho8).2.2; have HB8 := Aside0.mk hb8; clear ho8 hb8 hg_ hnew_) | ((with_reducible refine gate_builtin (b := .append) (xs := #[.tmp 125, .tmp 129]) rfl ?_); at_builtin; refine Kd.R_append_rows k29 (w0 := w) w.heap.size rfl (.tmp 125) (.tmp 129) 24 29 (.agg #[.int .i64 0, .int .i64 0, .int .i64 0]) 24 rfl Try.underlying24 info29s rfl (by decide) (by omega) u12 o [⟨0, (n : Int), p⟩] _ _ _ (fun _ => True) (fun _ => False) rfl rfl ?aO ?aR k29_M (fun _ h => h.elim) (fun _ _ => trivial) ?aB ?aS ?aL ?_; (case aR => exact HL8.out); (case aO => exact HY8.out.out); (case aB => exact HB8.out); (case aS => exact HB8.out.size); (case aL => rw [show ([⟨0, (n : Int), p⟩] : List S29).length = 1 from rfl]; have := HLO.out; omega); intro v9 w9 ho hb hg hat; have HY9 := Aside0.mk (HY8.out.newO hg ho); have HB9 := Aside0.mk hb; clear ho hb hg hat))
          exact SW.mk _ _ _ _ _ _ _ _ _ _ _ _ _ _ _ _ _ _ _ _ _ _ _ _ _ _ _ _ _ _ _ _ _ _ _ _ _ _ _ _ _ _ _ _ _ _ _ _ _ _ _ _ _ _ _ _ _ _ _ _ _ _ _ _ _ _ _ _ _ _ _ _ _ _ _ _ _ _ _ _ _ _ _ _ _ _ _ _ _ _ _ _ _ _ _ _ _ _ _ _ _ _ _ _ _ _ _ _ _ _ _ _ _ _ _ _ _ _ _ _ _ _ _ _ _ _ _ _ _ _ _ _ _ _ _ _ _ _ _ _ _ _ _ _ _ _ _ _ _ _ _ _ _ _ _ _ _ _ _ _ _ _ _ _ _ _ _ _ _ _ _ _ _ ⟨f1, _, _, _, _, _, _, rfl, HY9, ⟨by rw [List.length_set, List.length_set]; exact HLU.out⟩, HB9, HP, ⟨by rw [List.length_append]; have := HLO.out; simp only [List.length_cons, List.length_nil]; omega⟩⟩
      | false =>
        have HH2 : Aside0 (turnR gk l0 ws dU (rg1.drop 1 ++ [(n : Int)]) (-1) = some (ds2, rg2, has2)) := ⟨by have h1 := HH.out; rw [if_neg (of_decide_eq_false hle)] at h1; exact h1⟩
        clear hle HH
        obtain ⟨f3, hf3⟩ : ∃ f' : Nat → Nat, (fun k => if k < W6.heap.size then f1 k else 0) = f' := ⟨_, rfl⟩
        have HYf : Aside0 (RY w W6 gw gd cw cd (.slice (some ⟨gt, ot, none⟩) R ct) u12 f3 vs ws dU rg1 o) := ⟨by rw [← hf3]; exact HY6.out.fresh 0⟩
        have HFR : Aside0 (∀ k, W6.heap.size ≤ k → f3 k = 0) := ⟨fun k hk => by rw [← hf3]; simp [Nat.not_lt.2 hk]⟩
        have hQt : iQ W6 w.heap.size (fun k => f3 k = 0) (.slice (some ⟨gt, ot, none⟩) R ct) rg1 := HYf.out.qr
        obtain ⟨i3, hi3, hz3⟩ := Option.map_eq_some_iff.1 info3r
        have hsz3 : i3.size = 1 := by simp only [Prod.mk.injEq] at hz3; exact hz3.2.1
        clear hz3 hf3
        have hRR := Kd.Q_reads' hQt
        have hcut := cut_from (P := Try.prog) 22 3 .i64 Try.underlying22 hi3 1 hsz3 (some ⟨gt, ot, none⟩) R ct (1 : Int) (by omega) (by have := HT1.out; have := HR.out; omega)
        rw [show (1 : Int).toNat = 1 from rfl] at hcut
        have hQd := Kd.Q_drop (k := 1) hQt (by have := HT1.out; omega)
        rw [show (Kd.int .i64).sz = 1 from rfl] at hQd
        have HQD := Aside0.mk hQd
        generalize (if ct = 1 then (some (⟨gt, ot, none⟩ : Addr)) else (some (⟨gt, ot, none⟩ : Addr)).map (·.add (1 * 1))) = At at hcut HQD
        obtain ⟨L1, hL1⟩ : ∃ m : Nat, R - 1 = m := ⟨_, rfl⟩
        obtain ⟨C1, hC1⟩ : ∃ m : Nat, ct - 1 = m := ⟨_, rfl⟩
        rw [hL1, hC1] at hcut HQD
        have HDL : Aside0 ((rg1.drop 1).length = L1) := ⟨by rw [List.length_drop, HR.out]; exact hL1⟩
        have HRC : Aside0 ((Kd.int .i64).C W6 At L1 (rg1.drop 1)) := ⟨by have h1 := (Kd.Q_reads' HQD.out).2.2; rw [HDL.out] at h1; exact h1⟩
        have HL1 : Aside0 (L1 < 1000) := ⟨by have := HT1.out; have := HR.out; omega⟩
        clear hQt hQd hL1 hC1 hi3 hsz3 hRR
        go_wp2_with (first | ((with_reducible refine gate_builtin (b := .append) (xs := #[.const (.slice none 0 0), .tmp 85]) rfl ?_); at_builtin; refine Kd.R_append_rows (Kd.int .i64) (w0 := w) w.heap.size rfl (.const (.slice none 0 0)) (.tmp 85) 22 3 (.int .i64 0) 8 rfl Try.underlying22 info3r rfl (by decide) (by omega) (.slice none 0 0) [] (rg1.drop 1) At L1 C1 (fun k => f3 k = 0) (fun _ => False) rfl rfl (Kd.R_nil _ _ _ _ _) HRC.out (fun _ _ h => h) (fun _ h => h.elim) HFR.out HB6.out HB6.out.size ?aL1 ?_; (case aL1 => have := HL1.out; rw [List.length_nil]; omega); intro v86 Wa ho hb hg hat; rw [List.nil_append] at ho; have HYa := Aside0.mk ((HYf.out.step (fun k_ hk_ => hg.block k_ hk_ (by simp [Value.ownBlock]))).newR (grown_refl _ _) (Kd.Q_of_R ho)); have HFa : Aside0 (∀ k, Wa.heap.size ≤ k → f3 k = 0) := ⟨fun k_ hk_ => HFR.out k_ (Nat.le_trans hg.size hk_)⟩; have HBa := Aside0.mk hb; clear ho hb hg hat) | ((with_reducible refine gate_builtin (b := .append) (xs := #[.tmp 86, .tmp 88]) rfl ?_); at_builtin; refine Kd.Q_append (Kd.int .i64) (w0 := w) (W := Wa) w.heap.size rfl (.tmp 86) (.tmp 88) 22 3 (.int .i64 0) 8 rfl Try.underlying22 info3r rfl (by decide) (by omega) v86 (rg1.drop 1) (n : Int) [.int .i64 (n : Int)] (fun k => f3 k = 0) (fun _ => False) rfl rfl rfl (fun _ h => h.elim) HFa.out HYa.out.qr HBa.out HBa.out.size ?aQ3 ?_; (case aQ3 => rw [HDL.out]; have := HL1.out; omega); intro v89 Wb ho hb hg hat; have HYb := Aside0.mk (HYa.out.newR hg ho); have HBb := Aside0.mk hb; clear ho hb hg hat))
        go_roundg gk
        case measure => omega
        case rel => exact ⟨f3, dU, _, _, rfl, HYb, HBb, HH2⟩
set_option maxHeartbeats 40000000 in
set_option maxRecDepth 1000000 in
theorem sw_all (k : Nat) (l0 : List Int) (t : List S35) (O : List S29) (i : Nat) (w : World) (gw gd cw cd j bx : Nat) (A0 : Option Addr) (c0 : Nat) (c1_ c2_ c3_ c4_ c5_ c6_ c7_ c13_ c18_ c19_ c20_ c21_ c22_ c23_ c24_ c25_ c26_ c27_ c28_ c29_ c30_ c31_ c32_ c33_ c34_ c35_ c36_ c37_ c38_ c39_ c40_ c41_ c42_ c43_ c44_ c45_ c46_ c47_ c48_ c49_ c50_ c51_ c52_ c53_ c54_ c55_ c222_ c223_ u10 u12 u15 u16 u17 u56 u57 u58 u59 u60 u61 u62 u63 u64 u65 u66 u67 u68 u69 u70 u71 u72 u73 u74 u75 u76 u77 u78 u79 u80 u81 u82 u83 u84 u85 u86 u87 u88 u89 u90 u91 u92 u93 u94 u95 u96 u97 u98 u99 u100 u101 u102 u103 u104 u105 u106 u107 u108 u109 u110 u111 u112 u113 u114 u115 u116 u117 u118 u119 u120 u121 u122 u123 u124 u125 u126 u127 u128 u129 u130 u131 u132 u133 u134 u135 u136 u137 u138 u139 u140 u141 u142 u143 u144 u145 u146 u147 u148 u149 u150 u151 u152 u153 u154 u155 u156 u157 u158 u159 u160 u161 u162 u163 u164 u165 u166 u167 u168 u169 u170 u171 u172 u173 u174 u175 u176 u177 u178 u179 u180 u181 u182 u183 u184 u185 u186 u187 u188 u189 u190 u191 u192 u193 u194 u195 u196 u197 u198 u199 u200 u201 u202 u203 u204 u205 u206 u207 u208 u209 u210 u211 u212 u213 u214 u215 u216 u217 u218 u219 u220 u221 : Value) (x0 x1 has : Int) (f : Nat → Nat) (vs : Nat → Value) (ws : List (List Int)) (ds rg : List Int) (o : List S29) (W2 : World) (Q : Exit → Act → World → Prop)
    (HR0 : Aside0 ((Kd.int .i64).C w A0 l0.length l0)) (HN0 : Aside0 (l0.length = j)) (hn6 : j ≤ 6) (hi300 : i ≤ 300) (HLO : Aside0 (o.length ≤ i)) (HLN : Aside0 (ws.length = j ∧ ds.length = j))
    (HM2 : Aside0 (W2.heap[bx]? = some (.cells #[.int .i64 x0, .int .i64 x1] 35 (0, 0)))) (HY2 : Aside0 (RY w W2 gw gd cw cd u10 u12 f vs ws ds rg o)) (HB2 : Aside0 (Below w.heap.size w W2))
    (HP : Aside0 (refL k l0 (⟨x0, x1⟩ :: t) ws ds rg has o = some O))
    (HQP : ∀ c a N v w, Q (.panic c) (Act.put a N v) w → Q (.panic c) a w)
    (hexit : ∀ a' w', SW k l0 t O i w gw gd cw cd j bx A0 c0 c1_ c2_ c3_ c4_ c5_ c6_ c7_ c13_ c18_ c19_ c20_ c21_ c22_ c23_ c24_ c25_ c26_ c27_ c28_ c29_ c30_ c31_ c32_ c33_ c34_ c35_ c36_ c37_ c38_ c39_ c40_ c41_ c42_ c43_ c44_ c45_ c46_ c47_ c48_ c49_ c50_ c51_ c52_ c53_ c54_ c55_ c222_ c223_ a' w' → Q .normal a' w') :
    Code.wp Try.prog swCode Q ⟨#[.slice A0 j c0, c1_, c2_, c3_, c4_, c5_, c6_, c7_, .slice (some ⟨gw, 0, none⟩) j cw, .slice (some ⟨gd, 0, none⟩) j cd, u10, .int .i64 has, u12, c13_, .pointer (some ⟨bx, 0, none⟩), u15, u16, u17, c18_, c19_, c20_, c21_, c22_, c23_, c24_, c25_, c26_, c27_, c28_, c29_, c30_, c31_, c32_, c33_, c34_, c35_, c36_, c37_, c38_, c39_, c40_, c41_, c42_, c43_, c44_, c45_, c46_, c47_, c48_, c49_, c50_, c51_, c52_, c53_, c54_, c55_, u56, u57, u58, u59, u60, u61, u62, u63, u64, u65, u66, u67, u68, u69, u70, u71, u72, u73, u74, u75, u76, u77, u78, u79, u80, u81, u82, u83, u84, u85, u86, u87, u88, u89, u90, u91, u92, u93, u94, u95, u96, u97, u98, u99, u100, u101, u102, u103, u104, u105, u106, u107, u108, u109, u110, u111, u112, u113, u114, u115, u116, u117, u118, u119, u120, u121, u122, u123, u124, u125, u126, u127, u128, u129, u130, u131, u132, u133, u134, u135, u136, u137, u138, u139, u140, u141, u142, u143, u144, u145, u146, u147, u148, u149, u150, u151, u152, u153, u154, u155, u156, u157, u158, u159, u160, u161, u162, u163, u164, u165, u166, u167, u168, u169, u170, u171, u172, u173, u174, u175, u176, u177, u178, u179, u180, u181, u182, u183, u184, u185, u186, u187, u188, u189, u190, u191, u192, u193, u194, u195, u196, u197, u198, u199, u200, u201, u202, u203, u204, u205, u206, u207, u208, u209, u210, u211, u212, u213, u214, u215, u216, u217, u218, u219, u220, u221, c222_, c223_], []⟩ W2 := by
  refine Code.wp_mono (Q := Exit.then (fun a w => Q .normal a w) Q) (fun e a w h => by cases e <;> exact h) ?_
  have hP := HP.out
  rw [refL] at hP
  dsimp only at hP
  clear HP
  by_cases hneg : x1 < 0
  · rw [if_pos hneg] at hP
    exact sw_neg k l0 t O i w gw gd cw cd j bx A0 c0 c1_ c2_ c3_ c4_ c5_ c6_ c7_ c13_ c18_ c19_ c20_ c21_ c22_ c23_ c24_ c25_ c26_ c27_ c28_ c29_ c30_ c31_ c32_ c33_ c34_ c35_ c36_ c37_ c38_ c39_ c40_ c41_ c42_ c43_ c44_ c45_ c46_ c47_ c48_ c49_ c50_ c51_ c52_ c53_ c54_ c55_ c222_ c223_ u10 u12 u15 u16 u17 u56 u57 u58 u59 u60 u61 u62 u63 u64 u65 u66 u67 u68 u69 u70 u71 u72 u73 u74 u75 u76 u77 u78 u79 u80 u81 u82 u83 u84 u85 u86 u87 u88 u89 u90 u91 u92 u93 u94 u95 u96 u97 u98 u99 u100 u101 u102 u103 u104 u105 u106 u107 u108 u109 u110 u111 u112 u113 u114 u115 u116 u117 u118 u119 u120 u121 u122 u123 u124 u125 u126 u127 u128 u129 u130 u131 u132 u133 u134 u135 u136 u137 u138 u139 u140 u141 u142 u143 u144 u145 u146 u147 u148 u149 u150 u151 u152 u153 u154 u155 u156 u157 u158 u159 u160 u161 u162 u163 u164 u165 u166 u167 u168 u169 u170 u171 u172 u173 u174 u175 u176 u177 u178 u179 u180 u181 u182 u183 u184 u185 u186 u187 u188 u189 u190 u191 u192 u193 u194 u195 u196 u197 u198 u199 u200 u201 u202 u203 u204 u205 u206 u207 u208 u209 u210 u211 u212 u213 u214 u215 u216 u217 u218 u219 u220 u221 x0 x1 has f vs ws ds rg o W2 (fun a w => Q .normal a w) Q HR0 HN0 hn6 hi300 HLO HLN HM2 HY2 HB2 hneg ⟨hP⟩ HQP hexit
  rw [if_neg hneg] at hP
  by_cases hpos : 0 < x1
  · rw [if_pos hpos] at hP
    by_cases hout : x0 < 0 ∨ (l0.length : Int) ≤ x0 ∨ 1500 < x1
    · rw [if_pos hout] at hP
      rw [HN0.out] at hout
      by_cases c0h : x0 < 0
      · exact sw_low k l0 t O i w gw gd cw cd j bx A0 c0 c1_ c2_ c3_ c4_ c5_ c6_ c7_ c13_ c18_ c19_ c20_ c21_ c22_ c23_ c24_ c25_ c26_ c27_ c28_ c29_ c30_ c31_ c32_ c33_ c34_ c35_ c36_ c37_ c38_ c39_ c40_ c41_ c42_ c43_ c44_ c45_ c46_ c47_ c48_ c49_ c50_ c51_ c52_ c53_ c54_ c55_ c222_ c223_ u10 u12 u15 u16 u17 u56 u57 u58 u59 u60 u61 u62 u63 u64 u65 u66 u67 u68 u69 u70 u71 u72 u73 u74 u75 u76 u77 u78 u79 u80 u81 u82 u83 u84 u85 u86 u87 u88 u89 u90 u91 u92 u93 u94 u95 u96 u97 u98 u99 u100 u101 u102 u103 u104 u105 u106 u107 u108 u109 u110 u111 u112 u113 u114 u115 u116 u117 u118 u119 u120 u121 u122 u123 u124 u125 u126 u127 u128 u129 u130 u131 u132 u133 u134 u135 u136 u137 u138 u139 u140 u141 u142 u143 u144 u145 u146 u147 u148 u149 u150 u151 u152 u153 u154 u155 u156 u157 u158 u159 u160 u161 u162 u163 u164 u165 u166 u167 u168 u169 u170 u171 u172 u173 u174 u175 u176 u177 u178 u179 u180 u181 u182 u183 u184 u185 u186 u187 u188 u189 u190 u191 u192 u193 u194 u195 u196 u197 u198 u199 u200 u201 u202 u203 u204 u205 u206 u207 u208 u209 u210 u211 u212 u213 u214 u215 u216 u217 u218 u219 u220 u221 x0 x1 has f vs ws ds rg o W2 (fun a w => Q .normal a w) Q HR0 HN0 hn6 hi300 HLO HLN HM2 HY2 HB2 hneg hpos c0h ⟨hP⟩ HQP hexit
      by_cases c1h : (j : Int) ≤ x0
      · exact sw_high k l0 t O i w gw gd cw cd j bx A0 c0 c1_ c2_ c3_ c4_ c5_ c6_ c7_ c13_ c18_ c19_ c20_ c21_ c22_ c23_ c24_ c25_ c26_ c27_ c28_ c29_ c30_ c31_ c32_ c33_ c34_ c35_ c36_ c37_ c38_ c39_ c40_ c41_ c42_ c43_ c44_ c45_ c46_ c47_ c48_ c49_ c50_ c51_ c52_ c53_ c54_ c55_ c222_ c223_ u10 u12 u15 u16 u17 u56 u57 u58 u59 u60 u61 u62 u63 u64 u65 u66 u67 u68 u69 u70 u71 u72 u73 u74 u75 u76 u77 u78 u79 u80 u81 u82 u83 u84 u85 u86 u87 u88 u89 u90 u91 u92 u93 u94 u95 u96 u97 u98 u99 u100 u101 u102 u103 u104 u105 u106 u107 u108 u109 u110 u111 u112 u113 u114 u115 u116 u117 u118 u119 u120 u121 u122 u123 u124 u125 u126 u127 u128 u129 u130 u131 u132 u133 u134 u135 u136 u137 u138 u139 u140 u141 u142 u143 u144 u145 u146 u147 u148 u149 u150 u151 u152 u153 u154 u155 u156 u157 u158 u159 u160 u161 u162 u163 u164 u165 u166 u167 u168 u169 u170 u171 u172 u173 u174 u175 u176 u177 u178 u179 u180 u181 u182 u183 u184 u185 u186 u187 u188 u189 u190 u191 u192 u193 u194 u195 u196 u197 u198 u199 u200 u201 u202 u203 u204 u205 u206 u207 u208 u209 u210 u211 u212 u213 u214 u215 u216 u217 u218 u219 u220 u221 x0 x1 has f vs ws ds rg o W2 (fun a w => Q .normal a w) Q HR0 HN0 hn6 hi300 HLO HLN HM2 HY2 HB2 hneg hpos c0h c1h ⟨hP⟩ HQP hexit
      have c2h : 1500 < x1 := by omega
      exact sw_big k l0 t O i w gw gd cw cd j bx A0 c0 c1_ c2_ c3_ c4_ c5_ c6_ c7_ c13_ c18_ c19_ c20_ c21_ c22_ c23_ c24_ c25_ c26_ c27_ c28_ c29_ c30_ c31_ c32_ c33_ c34_ c35_ c36_ c37_ c38_ c39_ c40_ c41_ c42_ c43_ c44_ c45_ c46_ c47_ c48_ c49_ c50_ c51_ c52_ c53_ c54_ c55_ c222_ c223_ u10 u12 u15 u16 u17 u56 u57 u58 u59 u60 u61 u62 u63 u64 u65 u66 u67 u68 u69 u70 u71 u72 u73 u74 u75 u76 u77 u78 u79 u80 u81 u82 u83 u84 u85 u86 u87 u88 u89 u90 u91 u92 u93 u94 u95 u96 u97 u98 u99 u100 u101 u102 u103 u104 u105 u106 u107 u108 u109 u110 u111 u112 u113 u114 u115 u116 u117 u118 u119 u120 u121 u122 u123 u124 u125 u126 u127 u128 u129 u130 u131 u132 u133 u134 u135 u136 u137 u138 u139 u140 u141 u142 u143 u144 u145 u146 u147 u148 u149 u150 u151 u152 u153 u154 u155 u156 u157 u158 u159 u160 u161 u162 u163 u164 u165 u166 u167 u168 u169 u170 u171 u172 u173 u174 u175 u176 u177 u178 u179 u180 u181 u182 u183 u184 u185 u186 u187 u188 u189 u190 u191 u192 u193 u194 u195 u196 u197 u198 u199 u200 u201 u202 u203 u204 u205 u206 u207 u208 u209 u210 u211 u212 u213 u214 u215 u216 u217 u218 u219 u220 u221 x0 x1 has f vs ws ds rg o W2 (fun a w => Q .normal a w) Q HR0 HN0 hn6 hi300 HLO HLN HM2 HY2 HB2 hneg hpos c0h c1h c2h ⟨hP⟩ HQP hexit
    · rw [if_neg hout] at hP
      rw [HN0.out] at hout
      obtain ⟨i0, hx0⟩ := Int.eq_ofNat_of_zero_le (show 0 ≤ x0 by omega)
      have hi0 : i0 < j := by omega
      have h1500 : ¬ 1500 < x1 := by omega
      rw [hx0, Int.toNat_natCast] at hP
      by_cases hfull : 40 ≤ (ws.getD i0 []).length
      · rw [if_pos hfull] at hP
        exact sw_full k l0 t O i w gw gd cw cd j bx A0 c0 c1_ c2_ c3_ c4_ c5_ c6_ c7_ c13_ c18_ c19_ c20_ c21_ c22_ c23_ c24_ c25_ c26_ c27_ c28_ c29_ c30_ c31_ c32_ c33_ c34_ c35_ c36_ c37_ c38_ c39_ c40_ c41_ c42_ c43_ c44_ c45_ c46_ c47_ c48_ c49_ c50_ c51_ c52_ c53_ c54_ c55_ c222_ c223_ u10 u12 u15 u16 u17 u56 u57 u58 u59 u60 u61 u62 u63 u64 u65 u66 u67 u68 u69 u70 u71 u72 u73 u74 u75 u76 u77 u78 u79 u80 u81 u82 u83 u84 u85 u86 u87 u88 u89 u90 u91 u92 u93 u94 u95 u96 u97 u98 u99 u100 u101 u102 u103 u104 u105 u106 u107 u108 u109 u110 u111 u112 u113 u114 u115 u116 u117 u118 u119 u120 u121 u122 u123 u124 u125 u126 u127 u128 u129 u130 u131 u132 u133 u134 u135 u136 u137 u138 u139 u140 u141 u142 u143 u144 u145 u146 u147 u148 u149 u150 u151 u152 u153 u154 u155 u156 u157 u158 u159 u160 u161 u162 u163 u164 u165 u166 u167 u168 u169 u170 u171 u172 u173 u174 u175 u176 u177 u178 u179 u180 u181 u182 u183 u184 u185 u186 u187 u188 u189 u190 u191 u192 u193 u194 u195 u196 u197 u198 u199 u200 u201 u202 u203 u204 u205 u206 u207 u208 u209 u210 u211 u212 u213 u214 u215 u216 u217 u218 u219 u220 u221 x0 x1 has f vs ws ds rg o W2 (fun a w => Q .normal a w) Q HR0 HN0 hn6 hi300 HLO HLN HM2 HY2 HB2 hneg hpos i0 hx0 hi0 h1500 _ ⟨rfl⟩ hfull ⟨hP⟩ HQP hexit
      rw [if_neg hfull] at hP
      by_cases hrl : rg.length < 1000
      · rw [if_pos hrl] at hP
        by_cases hL0 : (ws.getD i0 []).length = 0
        · rw [if_pos hL0] at hP
          exact sw_first k l0 t O i w gw gd cw cd j bx A0 c0 c1_ c2_ c3_ c4_ c5_ c6_ c7_ c13_ c18_ c19_ c20_ c21_ c22_ c23_ c24_ c25_ c26_ c27_ c28_ c29_ c30_ c31_ c32_ c33_ c34_ c35_ c36_ c37_ c38_ c39_ c40_ c41_ c42_ c43_ c44_ c45_ c46_ c47_ c48_ c49_ c50_ c51_ c52_ c53_ c54_ c55_ c222_ c223_ u10 u12 u15 u16 u17 u56 u57 u58 u59 u60 u61 u62 u63 u64 u65 u66 u67 u68 u69 u70 u71 u72 u73 u74 u75 u76 u77 u78 u79 u80 u81 u82 u83 u84 u85 u86 u87 u88 u89 u90 u91 u92 u93 u94 u95 u96 u97 u98 u99 u100 u101 u102 u103 u104 u105 u106 u107 u108 u109 u110 u111 u112 u113 u114 u115 u116 u117 u118 u119 u120 u121 u122 u123 u124 u125 u126 u127 u128 u129 u130 u131 u132 u133 u134 u135 u136 u137 u138 u139 u140 u141 u142 u143 u144 u145 u146 u147 u148 u149 u150 u151 u152 u153 u154 u155 u156 u157 u158 u159 u160 u161 u162 u163 u164 u165 u166 u167 u168 u169 u170 u171 u172 u173 u174 u175 u176 u177 u178 u179 u180 u181 u182 u183 u184 u185 u186 u187 u188 u189 u190 u191 u192 u193 u194 u195 u196 u197 u198 u199 u200 u201 u202 u203 u204 u205 u206 u207 u208 u209 u210 u211 u212 u213 u214 u215 u216 u217 u218 u219 u220 u221 x0 x1 has f vs ws ds rg o W2 (fun a w => Q .normal a w) Q HR0 HN0 hn6 hi300 HLO HLN HM2 HY2 HB2 hneg hpos i0 hx0 hi0 h1500 _ ⟨rfl⟩ hfull hrl hL0 ⟨hP⟩ HQP hexit
        · rw [if_neg hL0] at hP
          exact sw_more k l0 t O i w gw gd cw cd j bx A0 c0 c1_ c2_ c3_ c4_ c5_ c6_ c7_ c13_ c18_ c19_ c20_ c21_ c22_ c23_ c24_ c25_ c26_ c27_ c28_ c29_ c30_ c31_ c32_ c33_ c34_ c35_ c36_ c37_ c38_ c39_ c40_ c41_ c42_ c43_ c44_ c45_ c46_ c47_ c48_ c49_ c50_ c51_ c52_ c53_ c54_ c55_ c222_ c223_ u10 u12 u15 u16 u17 u56 u57 u58 u59 u60 u61 u62 u63 u64 u65 u66 u67 u68 u69 u70 u71 u72 u73 u74 u75 u76 u77 u78 u79 u80 u81 u82 u83 u84 u85 u86 u87 u88 u89 u90 u91 u92 u93 u94 u95 u96 u97 u98 u99 u100 u101 u102 u103 u104 u105 u106 u107 u108 u109 u110 u111 u112 u113 u114 u115 u116 u117 u118 u119 u120 u121 u122 u123 u124 u125 u126 u127 u128 u129 u130 u131 u132 u133 u134 u135 u136 u137 u138 u139 u140 u141 u142 u143 u144 u145 u146 u147 u148 u149 u150 u151 u152 u153 u154 u155 u156 u157 u158 u159 u160 u161 u162 u163 u164 u165 u166 u167 u168 u169 u170 u171 u172 u173 u174 u175 u176 u177 u178 u179 u180 u181 u182 u183 u184 u185 u186 u187 u188 u189 u190 u191 u192 u193 u194 u195 u196 u197 u198 u199 u200 u201 u202 u203 u204 u205 u206 u207 u208 u209 u210 u211 u212 u213 u214 u215 u216 u217 u218 u219 u220 u221 x0 x1 has f vs ws ds rg o W2 (fun a w => Q .normal a w) Q HR0 HN0 hn6 hi300 HLO HLN HM2 HY2 HB2 hneg hpos i0 hx0 hi0 h1500 _ ⟨rfl⟩ hfull hrl hL0 ⟨hP⟩ HQP hexit
      · rw [if_neg hrl] at hP
        cases hP
  · rw [if_neg hpos] at hP
    by_cases hr0 : rg.length = 0
    · rw [if_pos hr0] at hP
      exact sw_none k l0 t O i w gw gd cw cd j bx A0 c0 c1_ c2_ c3_ c4_ c5_ c6_ c7_ c13_ c18_ c19_ c20_ c21_ c22_ c23_ c24_ c25_ c26_ c27_ c28_ c29_ c30_ c31_ c32_ c33_ c34_ c35_ c36_ c37_ c38_ c39_ c40_ c41_ c42_ c43_ c44_ c45_ c46_ c47_ c48_ c49_ c50_ c51_ c52_ c53_ c54_ c55_ c222_ c223_ u10 u12 u15 u16 u17 u56 u57 u58 u59 u60 u61 u62 u63 u64 u65 u66 u67 u68 u69 u70 u71 u72 u73 u74 u75 u76 u77 u78 u79 u80 u81 u82 u83 u84 u85 u86 u87 u88 u89 u90 u91 u92 u93 u94 u95 u96 u97 u98 u99 u100 u101 u102 u103 u104 u105 u106 u107 u108 u109 u110 u111 u112 u113 u114 u115 u116 u117 u118 u119 u120 u121 u122 u123 u124 u125 u126 u127 u128 u129 u130 u131 u132 u133 u134 u135 u136 u137 u138 u139 u140 u141 u142 u143 u144 u145 u146 u147 u148 u149 u150 u151 u152 u153 u154 u155 u156 u157 u158 u159 u160 u161 u162 u163 u164 u165 u166 u167 u168 u169 u170 u171 u172 u173 u174 u175 u176 u177 u178 u179 u180 u181 u182 u183 u184 u185 u186 u187 u188 u189 u190 u191 u192 u193 u194 u195 u196 u197 u198 u199 u200 u201 u202 u203 u204 u205 u206 u207 u208 u209 u210 u211 u212 u213 u214 u215 u216 u217 u218 u219 u220 u221 x0 x1 has f vs ws ds rg o W2 (fun a w => Q .normal a w) Q HR0 HN0 hn6 hi300 HLO HLN HM2 HY2 HB2 hneg hpos hr0 ⟨hP⟩ HQP hexit
    · rw [if_neg hr0] at hP
      obtain ⟨⟨ds2, rg2, has2⟩, hT, hP⟩ := Option.bind_eq_some_iff.1 hP
      obtain ⟨⟨o1, ws3, ds3, rg3, has3⟩, hS, hP⟩ := Option.bind_eq_some_iff.1 hP
      exact sw_send k l0 t O i w gw gd cw cd j bx A0 c0 c1_ c2_ c3_ c4_ c5_ c6_ c7_ c13_ c18_ c19_ c20_ c21_ c22_ c23_ c24_ c25_ c26_ c27_ c28_ c29_ c30_ c31_ c32_ c33_ c34_ c35_ c36_ c37_ c38_ c39_ c40_ c41_ c42_ c43_ c44_ c45_ c46_ c47_ c48_ c49_ c50_ c51_ c52_ c53_ c54_ c55_ c222_ c223_ u10 u12 u15 u16 u17 u56 u57 u58 u59 u60 u61 u62 u63 u64 u65 u66 u67 u68 u69 u70 u71 u72 u73 u74 u75 u76 u77 u78 u79 u80 u81 u82 u83 u84 u85 u86 u87 u88 u89 u90 u91 u92 u93 u94 u95 u96 u97 u98 u99 u100 u101 u102 u103 u104 u105 u106 u107 u108 u109 u110 u111 u112 u113 u114 u115 u116 u117 u118 u119 u120 u121 u122 u123 u124 u125 u126 u127 u128 u129 u130 u131 u132 u133 u134 u135 u136 u137 u138 u139 u140 u141 u142 u143 u144 u145 u146 u147 u148 u149 u150 u151 u152 u153 u154 u155 u156 u157 u158 u159 u160 u161 u162 u163 u164 u165 u166 u167 u168 u169 u170 u171 u172 u173 u174 u175 u176 u177 u178 u179 u180 u181 u182 u183 u184 u185 u186 u187 u188 u189 u190 u191 u192 u193 u194 u195 u196 u197 u198 u199 u200 u201 u202 u203 u204 u205 u206 u207 u208 u209 u210 u211 u212 u213 u214 u215 u216 u217 u218 u219 u220 u221 x0 x1 has f vs ws ds rg o W2 (fun a w => Q .normal a w) Q HR0 HN0 hn6 hi300 HLO HLN HM2 HY2 HB2 hneg hpos hr0 ds2 rg2 has2 o1 ws3 ds3 rg3 has3 ⟨hT⟩ ⟨hS⟩ ⟨hP⟩ HQP hexit
set_option maxHeartbeats 40000000 in
set_option maxRecDepth 100000 in
theorem packthreadref_FairPlayed.calls (k : Nat) (A0 : Option Addr) (c0 : Nat) (l0 : List Int) (A1 : Option Addr) (c1 : Nat) (l1 : List S35) (r1 : List S29) (r2 : Int) (w : World) (hr0 : Kd.C (Kd.int .i64) w A0 l0.length l0) (hc0 : l0.length ≤ c0) (hr1 : Kd.C k35 w A1 l1.length l1) (hc1 : l1.length ≤ c1) (h : packthreadref_FairPlayed.f k l0 l1 = some (r1, r2)) :
    Calls Try.prog 10 #[.slice A0 l0.length c0, .slice A1 l1.length c1] w fun e w' => ∃ v0_ : Value, e = .returned (.tuple #[v0_, .int .i64 r2]) ∧ Kd.R k29 29 w' w.heap.size (fun _ => True) v0_ r1 ∧ Below w.heap.size w w' := by
  have HR0 := Aside0.mk hr0
  have HR1 := Aside0.mk hr1
  clear hr0 hr1 hc0 hc1
  unfold packthreadref_FairPlayed.f at h
  have HH := Aside0.mk h
  clear h
  obtain ⟨N0, hN0⟩ : ∃ m : Nat, l0.length = m := ⟨_, rfl⟩
  obtain ⟨N1, hN1⟩ : ∃ m : Nat, l1.length = m := ⟨_, rfl⟩
  have HN0 := Aside0.mk hN0
  have HN1 := Aside0.mk hN1
  by_cases hbad : N0 = 0 ∨ 6 < N0 ∨ 300 < N1
  · have hHH := HH.out
    rw [hN0, hN1, if_pos hbad] at hHH
    simp only [Option.some.injEq, Prod.mk.injEq] at hHH
    obtain ⟨rfl, rfl⟩ := hHH
    rw [hN0, hN1]
    clear hN0 hN1
    obtain ⟨s0, h0⟩ : ∃ s, (N0 == 0) = s := ⟨_, rfl⟩
    obtain ⟨s1, h1⟩ : ∃ s, decide (6 < N0) = s := ⟨_, rfl⟩
    obtain ⟨s2, h2⟩ : ∃ s, decide (300 < N1) = s := ⟨_, rfl⟩
    have hs : (s0 || s1 || s2) = true := by rw [← h0, ← h1, ← h2]; simpa [or_assoc] using hbad
    have h0i : ((N0 : Int) == 0) = s0 := by rw [← h0, Bool.eq_iff_iff, beq_iff_eq, beq_iff_eq]; omega
    have h0d : decide (N0 = 0) = s0 := by rw [← h0]; exact Bool.eq_iff_iff.2 (by simp)
    have h1i : decide (6 < (N0 : Int)) = s1 := by rw [← h1]; exact decide_eq_decide.2 (by omega)
    have h2i : decide (300 < (N1 : Int)) = s2 := by rw [← h2]; exact decide_eq_decide.2 (by omega)
    clear hbad
    cases s0 <;> cases s1 <;> cases s2 <;> first | (exact absurd hs (by decide)) | skip
    all_goals
      clear hs
      go_enter Try.func10, Try.ntmps10
      go_wp2
      go_ret2
      exact ⟨_, rfl, Kd.R_nil _ _ _ _ _, Below.refl _ _⟩
  have hHH := HH.out
  rw [hN0, hN1, if_neg hbad] at hHH
  clear HH
  have HH := Aside0.mk hHH
  have g0 : (N0 == 0) = false := beq_eq_false_iff_ne.2 (by omega)
  have g0i : ((N0 : Int) == 0) = false := beq_eq_false_iff_ne.2 (by omega)
  have g1 : decide (6 < N0) = false := decide_eq_false (by omega)
  have g1i : decide (6 < (N0 : Int)) = false := decide_eq_false (by omega)
  have g2 : decide (300 < N1) = false := decide_eq_false (by omega)
  have g2i : decide (300 < (N1 : Int)) = false := decide_eq_false (by omega)
  have HLIM : Aside0 (1 ≤ N0 ∧ N0 ≤ 6 ∧ N1 ≤ 300) := ⟨by omega⟩
  have hn6 : N0 ≤ 6 := by omega
  rw [hN0, hN1]
  clear hHH hbad hN0 hN1
  go_enter Try.func10, Try.ntmps10
  go_wp2
  go_loopw [33] (fun v33 wr => ∃ j : Nat, v33 = .int .i64 (j : Int) ∧ Aside0 (j ≤ N0) ∧ Aside0 ((l0.take j).any badQ = false) ∧ w = wr) (fun v33 _ => N0 - (intOf v33).toNat)
  case atStart => exact ⟨0, rfl, ⟨Nat.zero_le _⟩, ⟨rfl⟩, rfl⟩
  case round =>
    obtain ⟨j, rfl, HJ, HN, rfl⟩ := hrel
    by_cases hj : j < N0
    · have e1_ : decide ((j : Int) < (N0 : Int)) = true := decide_eq_true (by omega)
      have p1 : (0 : Int) ≤ (j : Int) := by omega
      have q1 : (j : Int) < (N0 : Int) := by omega
      obtain ⟨ad, rfl, h0⟩ := Kd.at_int HR0.out (j : Int) p1 (by rw [HN0.out]; exact q1)
      rw [Int.toNat_natCast] at h0
      replace p1 := eq_true p1
      replace q1 := eq_true q1
      have hj' : j < l0.length := by rw [HN0.out]; exact hj
      have hm : rd l0 (j : Int) = l0[j] := by unfold rd; rw [Int.toNat_natCast, List.getD_eq_getElem?_getD, List.getElem?_eq_getElem hj']; rfl
      have HX : Aside0 ((l0.take (j + 1)).any badQ = ((l0.take j).any badQ || badQ (rd l0 (j : Int)))) := ⟨by rw [List.take_add_one, List.getElem?_eq_getElem hj', Option.toList_some, List.any_append, hm]; simp⟩
      have HM : Aside0 (badQ (rd l0 (j : Int)) = true → l0.any badQ = true) := ⟨fun hb => List.any_eq_true.2 ⟨l0[j], List.getElem_mem hj', by rw [← hm]; exact hb⟩⟩
      clear hm hj'
      obtain ⟨x, hx_⟩ : ∃ x, rd l0 (j : Int) = x := ⟨_, rfl⟩
      rw [hx_] at h0 HX HM
      clear hx_
      cases h1 : decide (x < 1) <;> cases h2 : decide (1500 < x)
      case false.false =>
        go_wp2
        go_roundw
        case measure => simp only [intOf]; omega
        case rel => exact ⟨j + 1, rfl, ⟨by omega⟩, ⟨by rw [HX.out, HN.out]; unfold badQ; rw [h1, h2]; rfl⟩, by first | rfl | trivial⟩
      all_goals
        have hHH := HH.out
        rw [if_pos (HM.out (by unfold badQ; rw [h1, h2]; rfl))] at hHH
        simp only [Option.some.injEq, Prod.mk.injEq] at hHH
        obtain ⟨rfl, rfl⟩ := hHH
        go_wp2
        go_ret2
        exact ⟨_, rfl, Kd.R_nil _ _ _ _ _, Below.refl _ _⟩
    · have e1_ : decide ((j : Int) < (N0 : Int)) = false := decide_eq_false (by omega)
      obtain rfl : j = N0 := by have := HJ.out; omega
      have hHH := HH.out
      rw [if_neg (by have := HN.out; rw [List.take_of_length_le (by rw [HN0.out]; omega)] at this; rw [this]; simp)] at hHH
      obtain ⟨O, hO, hHH⟩ := Option.bind_eq_some_iff.1 hHH
      simp only [Option.some.injEq, Prod.mk.injEq] at hHH
      obtain ⟨rfl, rfl⟩ := hHH
      have HPL := Aside0.mk hO
      clear hO hj HJ HN HH
      go_wp2_with (first | ((with_reducible refine gate_dst (N := 46) rfl ?_); refine Kd.R_make kNil (w0 := w) w.heap.size 22 ?hg (N := 46) ?hd 89 (.tmp 45) (.tmp 45) rfl (j : Int) rfl rfl Try.underlying89 (.slice none 0 0) 24 info22 rfl (by decide) (by decide) () (ok := fun _ => True) (okp := fun _ => True) ?hz (fun _ h => h) trivial (by omega) (by rw [Int.toNat_natCast]; omega) (Below.refl _ _) (Nat.le_refl _) ?_; (case hd => rfl); (case hg => rfl); (case hz => first | rfl | exact ⟨rfl⟩); intro v46 w46 ho hb hg_ hat; rw [Int.toNat_natCast] at ho; have HO46 := Aside0.mk ho; have HB46 := Aside0.mk hb; clear ho hb hg_ hat) | ((with_reducible refine gate_dst (N := 49) rfl ?_); refine Kd.R_make (Kd.int .i64) (w0 := w) w.heap.size 3 ?hg (N := 49) ?hd 22 (.tmp 48) (.tmp 48) rfl (j : Int) rfl rfl Try.underlying22 (.int .i64 0) 8 info3r rfl (by decide) (by decide) 0 (ok := fun _ => True) (okp := fun _ => True) ?hz (fun _ h => h) trivial (by omega) (by rw [Int.toNat_natCast]; omega) HB46.out HB46.out.size ?_; (case hd => rfl); (case hg => rfl); (case hz => first | rfl | exact ⟨rfl⟩); intro v49 w49 ho hb hg_ hat; rw [Int.toNat_natCast] at ho; have HO49 := Aside0.mk ho; have HB49 := Aside0.mk hb; have HO46b := Aside0.mk (Kd.R_step HO46.out (fun k _ hk => hg_.block k hk (by simp))); clear ho hb hg_ hat))
      obtain ⟨gw, gd, cw, cd, rfl, rfl, hRY⟩ := RY.start (by have := HLIM.out; omega) HO46b.out HO49.out
      obtain ⟨f0, hf0⟩ : ∃ f0 : Nat → Nat, f0 = (fun k => if k = gd then 1 else 0) := ⟨_, rfl⟩
      obtain ⟨vs0, hvs0⟩ : ∃ vs0 : Nat → Value, vs0 = (fun _ => .slice none 0 0) := ⟨_, rfl⟩
      rw [← hf0, ← hvs0] at hRY
      clear hf0 hvs0
      have HRY0 := Aside0.mk hRY
      clear hRY e1_
      go_loopw [10, 11, 12, 52] (fun v10 v11 v12 v52 wq => ∃ (i : Nat) (f : Nat → Nat) (vs : Nat → Value) (ws : List (List Int)) (ds rg : List Int) (has : Int) (o : List S29), v52 = .int .i64 (i : Int) ∧ v11 = .int .i64 has ∧ Aside0 (i ≤ N1) ∧ Aside0 (RY w wq gw gd cw cd v10 v12 f vs ws ds rg o) ∧ Aside0 (ws.length = j ∧ ds.length = j) ∧ Aside0 (Below w.heap.size w wq) ∧ Aside0 (refL k l0 (l1.drop i) ws ds rg has o = some O) ∧ Aside0 (o.length ≤ i)) (fun _ _ _ v52 _ => N1 - (intOf v52).toNat)
      case atStart => exact ⟨0, f0, vs0, _, _, [], -1, [], rfl, rfl, ⟨Nat.zero_le _⟩, HRY0, ⟨by simp⟩, HB49, HPL, ⟨Nat.le_refl _⟩⟩
      case round =>
        clear HPL HRY0 HB46 HB49 HO46 HO46b HO49
        obtain ⟨i, f, vs, ws, ds, rg, has, o, rfl, rfl, HI, HY, HLN, HBq, HP, HLO⟩ := hrel
        by_cases hi : i < N1
        · have e1_ : decide ((i : Int) < (N1 : Int)) = true := decide_eq_true (by omega)
          have p1 : (0 : Int) ≤ (i : Int) := by omega
          have q1 : (i : Int) < (N1 : Int) := by omega
          obtain ⟨ad, rfl, hx0, hx1⟩ := at_T35 (Kd.C_below HR1.out HBq.out) (i : Int) p1 (by rw [HN1.out]; exact q1)
          rw [Int.toNat_natCast] at hx0 hx1
          replace p1 := eq_true p1
          replace q1 := eq_true q1
          have hi300 : i ≤ 300 := by have := HLIM.out; omega
          have hP := HP.out
          rw [drop35 (show i < l1.length by rw [HN1.out]; exact hi)] at hP
          obtain ⟨x, hx_⟩ : ∃ x, rd_T35 l1 (i : Int) = x := ⟨_, rfl⟩
          rw [hx_] at hx0 hx1 hP
          clear hx_
          obtain ⟨x0, x1⟩ := x
          dsimp only at hx0 hx1
          have HP1 := Aside0.mk hP
          clear hP HP
          go_upto_block 4 with (fail)
          clear hx0 hx1
          obtain ⟨bx, hbx_⟩ : ∃ bx, wr.heap.size = bx := ⟨_, rfl⟩
          rw [hbx_]
          have HM2 : Aside0 ((wr.alloc (.cells #[.int .i64 x0, .int .i64 x1] 35)).heap[bx]? = some (.cells #[.int .i64 x0, .int .i64 x1] 35 (0, 0))) := ⟨by rw [← hbx_]; exact heap_alloc_new wr _⟩
          have hl_ : Below wr.heap.size wr (wr.alloc (.cells #[.int .i64 x0, .int .i64 x1] 35)) := below_alloc (Below.refl _ _) _
          have HY2 := Aside0.mk (HY.out.below hl_)
          have HB2 := Aside0.mk (below_then HBq.out HBq.out.size hl_)
          clear hl_ hbx_ HY HBq
          refine sw_all _ _ _ _ _ _ _ _ _ _ _ _ _ _ _ _ _ _ _ _ _ _ _ _ _ _ _ _ _ _ _ _ _ _ _ _ _ _ _ _ _ _ _ _ _ _ _ _ _ _ _ _ _ _ _ _ _ _ _ _ _ _ _ _ _ _ _ _ _ _ _ _ _ _ _ _ _ _ _ _ _ _ _ _ _ _ _ _ _ _ _ _ _ _ _ _ _ _ _ _ _ _ _ _ _ _ _ _ _ _ _ _ _ _ _ _ _ _ _ _ _ _ _ _ _ _ _ _ _ _ _ _ _ _ _ _ _ _ _ _ _ _ _ _ _ _ _ _ _ _ _ _ _ _ _ _ _ _ _ _ _ _ _ _ _ _ _ _ _ _ _ _ _ _ _ _ _ _ _ _ _ _ _ _ _ _ _ _ _ _ _ _ _ _ _ _ _ _ _ _ _ _ _ _ _ _ _ _ _ _ _ _ _ _ _ _ _ _ _ _ _ _ _ _ _ _ _ _ _ _ _ _ _ _ _ _ _ _ _ _ _ _ _ _ HR0 HN0 hn6 hi300 HLO HLN HM2 HY2 HB2 HP1 ?hqp ?_
          case hqp => intro c a N v w_ h; cases N <;> exact h
          intro a' w' hsw
          cases hsw
          rename_i hS_
          obtain ⟨f', vs', ws', ds', rg', has', o', rfl, HY9, HL9, HB9, HP9, HLO9⟩ := hS_
          go_wp2
          go_roundw
          case measure => simp only [intOf]; omega
          case rel => exact ⟨i + 1, f', vs', ws', ds', rg', has', o', rfl, rfl, ⟨by omega⟩, HY9, HL9, HB9, HP9, HLO9⟩
        · have e1_ : decide ((i : Int) < (N1 : Int)) = false := decide_eq_false (by omega)
          have hP := HP.out
          rw [List.drop_eq_nil_of_le (by rw [HN1.out]; omega)] at hP
          simp only [refL, Option.some.injEq] at hP
          subst hP
          go_wp2
          go_ret2
          exact ⟨_, rfl, HY.out.out, HBq.out⟩
theorem turnR_mono : ∀ (k : Nat) (qs : List Int) (ws : List (List Int)) (ds rg : List Int) (has : Int), LeO (turnR k qs ws ds rg has) (turnR (k + 1) qs ws ds rg has) := by
  intro k
  induction k with
  | zero => intro _ _ _ _ _; exact LeO.none _
  | succ k ih =>
    intro qs ws ds rg has
    rw [turnR.eq_def (k + 1 + 1) qs ws ds rg has, turnR.eq_def (k + 1) qs ws ds rg has]
    dsimp only
    exact LeO.ite (LeO.ite (LeO.refl _) (ih _ _ _ _ _)) (LeO.none _)
theorem refL_mono (k : Nat) (qs : List Int) : ∀ (xs : List S35) (ws : List (List Int)) (ds rg : List Int) (has : Int) (o : List S29), LeO (refL k qs xs ws ds rg has o) (refL (k + 1) qs xs ws ds rg has o)
  | [], _, _, _, _, _ => LeO.refl _
  | x :: t, ws, ds, rg, has, o => LeO.ite (refL_mono k qs t _ _ _ _ _) (LeO.ite (LeO.ite (refL_mono k qs t _ _ _ _ _) (LeO.ite (refL_mono k qs t _ _ _ _ _) (LeO.ite (refL_mono k qs t _ _ _ _ _) (LeO.none _)))) (LeO.ite (refL_mono k qs t _ _ _ _ _) (LeO.bind (turnR_mono _ _ _ _ _ _) (fun _ => LeO.bind (LeO.refl _) (fun _ => refL_mono k qs t _ _ _ _ _)))))
theorem packthreadref_FairPlayed.mono : ∀ a0 a1 k, LeO (packthreadref_FairPlayed.f k a0 a1) (packthreadref_FairPlayed.f (k + 1) a0 a1) := by
  intro a0 a1 k
  unfold packthreadref_FairPlayed.f
  exact LeO.ite (LeO.refl _) (LeO.ite (LeO.refl _) (LeO.bind (refL_mono _ _ _ _ _ _ _ _) (fun _ => LeO.refl _)))

end Go.Proofs.Ytnbpkibefgahlaa.HFairPlays
