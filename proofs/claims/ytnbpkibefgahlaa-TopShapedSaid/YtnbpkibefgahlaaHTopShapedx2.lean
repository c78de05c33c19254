/- The contracts of the functions that the law TopShaped reaches: Go's code comes to what these Lean functions tell (written by a program of ours and the kit's, out of the translation). -/
import Derived.Test.YtnbpkibefgahlaaHTopShapedx0
import Derived.Test.YtnbpkibefgahlaaHTopShapedx1
namespace Go.Proofs.Ytnbpkibefgahlaa.HTopShaped
open Go.RowKit Go.Proofs.YtnbpkibefgahlaaW.PrintWords Go.Proofs.YtnbpkibefgahlaaW.PrintLast Go.Proofs.YtnbpkibefgahlaaW.PrintMore
attribute [local go_sem] max2_int min2_int max_two min_two max_three min_three max_four min_four   -- for this text's walks alone
set_option linter.unusedVariables false
set_option linter.unusedSimpArgs false

/-! ### fair_Play: function 9 -/
/-! The ring of flows: where it lies -/
structure Fl where
  q : Int
  ws : List Int
  d : Int
  fed : Bool
abbrev iQ := (Kd.int .i64).Q 3
/-- What the ring does not own stays: blocks of other types. -/
def Keeps (W W' : World) : Prop := W.heap.size ≤ W'.heap.size ∧ ∀ (k : Nat) (cs : Array Value) (t : TypeId), W.heap[k]? = some (.cells cs t (0, 0)) → t ≠ 3 → t ≠ 83 → t ≠ 85 → W'.heap[k]? = some (.cells cs t (0, 0))
theorem Keeps.refl (W : World) : Keeps W W := ⟨Nat.le_refl _, fun _ _ _ h _ _ _ => h⟩
theorem Keeps.trans {W W1 W2 : World} (h : Keeps W W1) (h' : Keeps W1 W2) : Keeps W W2 := ⟨Nat.le_trans h.1 h'.1, fun k cs t hk a b c => h'.2 k cs t (h.2 k cs t hk a b c) a b c⟩
theorem Keeps.below {W W1 W2 : World} (h : Keeps W W1) (hb : Below W1.heap.size W1 W2) : Keeps W W2 := h.trans ⟨hb.size, fun k cs t hk _ _ _ => blk_below hk hb⟩
theorem Keeps.grown {W W1 W2 : World} {row : Option Nat} (h : Keeps W W1) (hg : W1.grownBy W2 row) (ht : ∀ k, row = some k → ∃ cells, W1.heap[k]? = some (.cells cells 3 (0, 0))) : Keeps W W2 :=
  h.trans ⟨hg.size, fun k cs t hk a _ _ => by
    have hne : some k ≠ row := fun e => by
      obtain ⟨cells, hc⟩ := ht k e.symm
      rw [hk] at hc
      injection hc with hc
      injection hc with _ hc
      exact a hc
    exact (hg.block k (Array.getElem?_eq_some_iff.1 hk).1 hne).trans hk⟩
theorem Keeps.set {W W1 : World} {p : Addr} {cells : Array Value} {t' : TypeId} (h : Keeps W W1) (hp : W1.heap[p.block]? = some (.cells cells t' (0, 0))) (ht : t' = 83 ∨ t' = 85) (u : Value) : Keeps W (W1.setCell p u) :=
  h.trans ⟨by simp [World.setCell], fun k cs t hk a b c => by
    have hne : k ≠ p.block := fun e => by
      rw [e, hp] at hk
      injection hk with hk
      injection hk with _ hk
      rcases ht with ht | ht
      · exact b (hk.symm.trans ht)
      · exact c (hk.symm.trans ht)
    rw [Below.heap_setCell W1 p u k hne]
    exact hk⟩
structure RX (w0 W : World) (b g cf : Nat) (vt : Value) (f : Nat → Nat) (vs : Nat → Value) (fs : List Fl) (tn : List Int) : Prop where
  hb0 : w0.heap.size ≤ b
  hg0 : w0.heap.size ≤ g
  hb : W.heap[b]? = some (.cells #[.slice (some ⟨g, 0, none⟩) fs.length cf, vt] 83 (0, 0))
  hg : ∃ cur, W.heap[g]? = some (.cells cur 85 (0, 0))
  hcf : fs.length ≤ cf
  q : ∀ i (h : i < fs.length), W.cell? ⟨g, i * 4, none⟩ = some (.int .i64 fs[i].q)
  w : ∀ i (_ : i < fs.length), W.cell? ⟨g, i * 4 + 1, none⟩ = some (vs i)
  d : ∀ i (h : i < fs.length), W.cell? ⟨g, i * 4 + 2, none⟩ = some (.int .i64 fs[i].d)
  fed : ∀ i (h : i < fs.length), W.cell? ⟨g, i * 4 + 3, none⟩ = some (.bool fs[i].fed)
  qs : ∀ i (h : i < fs.length), iQ W w0.heap.size (fun k => f k = i + 1) (vs i) fs[i].ws
  qt : iQ W w0.heap.size (fun k => f k = 0) vt tn
theorem blk_ltf {W : World} {g : Nat} {o : Obj} (h : W.heap[g]? = some o) : g < W.heap.size := (Array.getElem?_eq_some_iff.1 h).1
theorem cell_same {W W' : World} {g o : Nat} (h : W'.heap[g]? = W.heap[g]?) : W'.cell? ⟨g, o, none⟩ = W.cell? ⟨g, o, none⟩ := by simp [World.cell?, h]
theorem q_set {W : World} {base g t : Nat} {cells : Array Value} {ok : Nat → Prop} {v : Value} {xs : List Int} (h : iQ W base ok v xs) (hb : W.heap[g]? = some (.cells cells t (0, 0))) (ht : t ≠ 3) (j : Nat) (u : Value) : iQ (W.setCell ⟨g, j, none⟩ u) base ok v xs :=
  Kd.Q_set h hb (fun q hq => by
    have : q = 3 := by simpa [Kd.int, Kd.scalar] using hq
    omega) j u
theorem cell_self {W : World} {g o : Nat} {cur : Array Value} {t : TypeId} {u : Value} (hc : W.heap[g]? = some (.cells cur t (0, 0))) (h : W.cell? ⟨g, o, none⟩ = some u) (v : Value) : (W.setCell ⟨g, o, none⟩ v).cell? ⟨g, o, none⟩ = some v := by
  have h1 : cur[o]? = some u := (blk_cell hc o).symm.trans h
  have h2 := (Array.getElem?_eq_some_iff.1 h1).1
  refine (blk_cell (blk_set hc o v) o).trans ?_
  simp [h2]
namespace RX
variable {w0 W W1 : World} {b g cf : Nat} {vt : Value} {f : Nat → Nat} {vs : Nat → Value} {fs : List Fl} {tn : List Int}
theorem gb (h : RX w0 W b g cf vt f vs fs tn) : b ≠ g := by
  rintro rfl
  obtain ⟨cur, hc⟩ := h.hg
  have := h.hb
  rw [hc] at this
  injection this with this
  injection this with _ this
  cases this
theorem frozen_g (h : RX w0 W b g cf vt f vs fs tn) (o : Nat) : W.frozen? ⟨g, o, none⟩ = false := by
  obtain ⟨cur, hc⟩ := h.hg
  exact blk_frozen hc o
/-- The ring's own blocks are as they were. -/
theorem step (h : RX w0 W b g cf vt f vs fs tn) (hs : ∀ k, k < W.heap.size → W1.heap[k]? = W.heap[k]?) : RX w0 W1 b g cf vt f vs fs tn := by
  obtain ⟨cur, hc⟩ := h.hg
  have hgl := blk_ltf hc
  have hc1 : ∀ o, W1.cell? ⟨g, o, none⟩ = W.cell? ⟨g, o, none⟩ := fun o => cell_same (hs g hgl)
  exact ⟨h.hb0, h.hg0, (hs b (blk_ltf h.hb)).trans h.hb, ⟨cur, (hs g hgl).trans hc⟩, h.hcf, fun i hi => (hc1 _).trans (h.q i hi), fun i hi => (hc1 _).trans (h.w i hi), fun i hi => (hc1 _).trans (h.d i hi), fun i hi => (hc1 _).trans (h.fed i hi),
    fun i hi => Kd.Q_step (h.qs i hi) (fun k _ hk => hs k hk), Kd.Q_step h.qt (fun k _ hk => hs k hk)⟩
theorem below (h : RX w0 W b g cf vt f vs fs tn) (hb : Below W.heap.size W W1) : RX w0 W1 b g cf vt f vs fs tn := h.step (fun k hk => hb.block k hk)
/-- New blocks are given to one. -/
theorem fresh (h : RX w0 W b g cf vt f vs fs tn) (j : Nat) : RX w0 W b g cf vt (fun k => if k < W.heap.size then f k else j) vs fs tn :=
  { h with
    qs := fun i hi => Kd.Q_mono (Kd.Q_bound (h.qs i hi)) (fun k hk => by rw [if_pos hk.2.2.1]; exact hk.1)
    qt := Kd.Q_mono (Kd.Q_bound h.qt) (fun k hk => by rw [if_pos hk.2.2.1]; exact hk.1) }
/-- A flow's debt is another. -/
theorem setD (h : RX w0 W b g cf vt f vs fs tn) (i : Nat) (hi : i < fs.length) (x : Int) : RX w0 (W.setCell ⟨g, i * 4 + 2, none⟩ (.int .i64 x)) b g cf vt f vs (fs.set i { fs[i] with d := x }) tn := by
  obtain ⟨cur, hc⟩ := h.hg
  have hne := h.gb
  have ho : ∀ o, o ≠ i * 4 + 2 → (W.setCell ⟨g, i * 4 + 2, none⟩ (.int .i64 x)).cell? ⟨g, o, none⟩ = W.cell? ⟨g, o, none⟩ := fun o ho => World.cell?_setCell_other _ _ _ _ (fun e => ho (by injection e with _ e; exact e.symm))
  have hq : ∀ {ok v xs}, iQ W w0.heap.size ok v xs → iQ (W.setCell ⟨g, i * 4 + 2, none⟩ (.int .i64 x)) w0.heap.size ok v xs := fun hq => q_set hq hc (by decide) _ _
  refine ⟨h.hb0, h.hg0, ?_, ⟨_, blk_set hc _ _⟩, by rw [List.length_set]; exact h.hcf, fun j hj => ?_, fun j hj => ?_, fun j hj => ?_, fun j hj => ?_, fun j hj => ?_, hq h.qt⟩
  · rw [Below.heap_setCell _ _ _ _ (show b ≠ g from hne), List.length_set]; exact h.hb
  all_goals rw [List.length_set] at hj
  · rw [ho _ (by omega), h.q j hj]
    by_cases e : i = j
    · subst e; simp
    · rw [List.getElem_set_ne e]
  · rw [ho _ (by omega), h.w j hj]
  · by_cases e : i = j
    · subst e
      rw [List.getElem_set_self]
      exact cell_self hc (h.d i hi) _
    · rw [ho _ (by omega), h.d j hj, List.getElem_set_ne e]
  · rw [ho _ (by omega), h.fed j hj]
    by_cases e : i = j
    · subst e; simp
    · rw [List.getElem_set_ne e]
  · by_cases e : i = j
    · subst e; rw [List.getElem_set_self]; exact hq (h.qs i hi)
    · rw [List.getElem_set_ne e]; exact hq (h.qs j hj)
theorem setFed (h : RX w0 W b g cf vt f vs fs tn) (i : Nat) (hi : i < fs.length) (x : Bool) : RX w0 (W.setCell ⟨g, i * 4 + 3, none⟩ (.bool x)) b g cf vt f vs (fs.set i { fs[i] with fed := x }) tn := by
  obtain ⟨cur, hc⟩ := h.hg
  have hne := h.gb
  have ho : ∀ o, o ≠ i * 4 + 3 → (W.setCell ⟨g, i * 4 + 3, none⟩ (.bool x)).cell? ⟨g, o, none⟩ = W.cell? ⟨g, o, none⟩ := fun o ho => World.cell?_setCell_other _ _ _ _ (fun e => ho (by injection e with _ e; exact e.symm))
  have hq : ∀ {ok v xs}, iQ W w0.heap.size ok v xs → iQ (W.setCell ⟨g, i * 4 + 3, none⟩ (.bool x)) w0.heap.size ok v xs := fun hq => q_set hq hc (by decide) _ _
  refine ⟨h.hb0, h.hg0, ?_, ⟨_, blk_set hc _ _⟩, by rw [List.length_set]; exact h.hcf, fun j hj => ?_, fun j hj => ?_, fun j hj => ?_, fun j hj => ?_, fun j hj => ?_, hq h.qt⟩
  · rw [Below.heap_setCell _ _ _ _ (show b ≠ g from hne), List.length_set]; exact h.hb
  all_goals rw [List.length_set] at hj
  · rw [ho _ (by omega), h.q j hj]
    by_cases e : i = j
    · subst e; simp
    · rw [List.getElem_set_ne e]
  · rw [ho _ (by omega), h.w j hj]
  · rw [ho _ (by omega), h.d j hj]
    by_cases e : i = j
    · subst e; simp
    · rw [List.getElem_set_ne e]
  · by_cases e : i = j
    · subst e
      rw [List.getElem_set_self]
      exact cell_self hc (h.fed i hi) _
    · rw [ho _ (by omega), h.fed j hj, List.getElem_set_ne e]
  · by_cases e : i = j
    · subst e; rw [List.getElem_set_self]; exact hq (h.qs i hi)
    · rw [List.getElem_set_ne e]; exact hq (h.qs j hj)
/-- What waits of a flow is another row. -/
theorem newWs (h : RX w0 W b g cf vt f vs fs tn) (i : Nat) (hi : i < fs.length) (hgr : W.grownBy W1 (vs i).ownBlock) {v' : Value} {ws' : List Int} (hq' : iQ W1 w0.heap.size (fun k => f k = i + 1) v' ws') :
    RX w0 (W1.setCell ⟨g, i * 4 + 1, none⟩ v') b g cf vt f (fun j => if j = i then v' else vs j) (fs.set i { fs[i] with ws := ws' }) tn := by
  obtain ⟨cur, hc⟩ := h.hg
  have hne := h.gb
  have hty := Kd.Q_typed (h.qs i hi)
  have hrow : ∀ k, (vs i).ownBlock = some k → f k = i + 1 := (h.qs i hi).1
  have hbl : ∀ (k : Nat) (cs : Array Value) (t : TypeId), W.heap[k]? = some (.cells cs t (0, 0)) → t ≠ 3 → W1.heap[k]? = W.heap[k]? := fun k cs t hk ht => hgr.block k (blk_ltf hk) (fun e => by
    obtain ⟨cells, hc⟩ := hty k e.symm
    rw [hk] at hc
    injection hc with hc
    injection hc with _ hc
    exact ht hc)
  have hc1 : W1.heap[g]? = some (.cells cur 85 (0, 0)) := (hbl g _ _ hc (by decide)).trans hc
  have hcg : ∀ o, W1.cell? ⟨g, o, none⟩ = W.cell? ⟨g, o, none⟩ := fun o => cell_same (hbl g _ _ hc (by decide))
  have ho : ∀ o, o ≠ i * 4 + 1 → (W1.setCell ⟨g, i * 4 + 1, none⟩ v').cell? ⟨g, o, none⟩ = W.cell? ⟨g, o, none⟩ := fun o ho => (World.cell?_setCell_other _ _ _ _ (fun e => ho (by injection e with _ e; exact e.symm))).trans (hcg o)
  have hqs : ∀ {ok v xs}, iQ W1 w0.heap.size ok v xs → iQ (W1.setCell ⟨g, i * 4 + 1, none⟩ v') w0.heap.size ok v xs := fun hq => q_set hq hc1 (by decide) _ _
  refine ⟨h.hb0, h.hg0, ?_, ⟨_, blk_set hc1 _ _⟩, by rw [List.length_set]; exact h.hcf, fun j hj => ?_, fun j hj => ?_, fun j hj => ?_, fun j hj => ?_, fun j hj => ?_, hqs (Kd.Q_grown h.qt hgr (fun k hk e => by have := hrow k e.symm; omega))⟩
  · rw [Below.heap_setCell _ _ _ _ (show b ≠ g from hne), List.length_set]; exact (hbl b _ _ h.hb (by decide)).trans h.hb
  all_goals rw [List.length_set] at hj
  · rw [ho _ (by omega), h.q j hj]
    by_cases e : i = j
    · subst e; simp
    · rw [List.getElem_set_ne e]
  · by_cases e : i = j
    · subst e
      rw [if_pos rfl]
      exact cell_self hc1 ((hcg _).trans (h.w i hi)) _
    · rw [ho _ (by omega), h.w j hj, if_neg (fun h => e h.symm)]
  · rw [ho _ (by omega), h.d j hj]
    by_cases e : i = j
    · subst e; simp
    · rw [List.getElem_set_ne e]
  · rw [ho _ (by omega), h.fed j hj]
    by_cases e : i = j
    · subst e; simp
    · rw [List.getElem_set_ne e]
  · by_cases e : i = j
    · subst e; rw [List.getElem_set_self]; simp only [if_true]; exact hqs hq'
    · rw [List.getElem_set_ne e]; simp only [if_neg (fun h : j = i => e h.symm)]
      exact hqs (Kd.Q_grown (h.qs j hj) hgr (fun k hk e2 => by have := hrow k e2.symm; omega))
/-- The turn is another row. -/
theorem newTn (h : RX w0 W b g cf vt f vs fs tn) (hgr : W.grownBy W1 vt.ownBlock) {v' : Value} {tn' : List Int} (hq' : iQ W1 w0.heap.size (fun k => f k = 0) v' tn') :
    RX w0 (W1.setCell ⟨b, 1, none⟩ v') b g cf v' f vs fs tn' := by
  obtain ⟨cur, hc⟩ := h.hg
  have hne := h.gb
  have hty := Kd.Q_typed h.qt
  have hrow : ∀ k, vt.ownBlock = some k → f k = 0 := h.qt.1
  have hbl : ∀ (k : Nat) (cs : Array Value) (t : TypeId), W.heap[k]? = some (.cells cs t (0, 0)) → t ≠ 3 → W1.heap[k]? = W.heap[k]? := fun k cs t hk ht => hgr.block k (blk_ltf hk) (fun e => by
    obtain ⟨cells, hc⟩ := hty k e.symm
    rw [hk] at hc
    injection hc with hc
    injection hc with _ hc
    exact ht hc)
  have hc1 : W1.heap[g]? = some (.cells cur 85 (0, 0)) := (hbl g _ _ hc (by decide)).trans hc
  have hb1 := (hbl b _ _ h.hb (by decide)).trans h.hb
  have hcg : ∀ o, (W1.setCell ⟨b, 1, none⟩ v').cell? ⟨g, o, none⟩ = W.cell? ⟨g, o, none⟩ := fun o => cell_same ((Below.heap_setCell _ _ _ _ (show g ≠ b from fun e => hne e.symm)).trans (hbl g _ _ hc (by decide)))
  have hqs : ∀ {ok v xs}, iQ W1 w0.heap.size ok v xs → iQ (W1.setCell ⟨b, 1, none⟩ v') w0.heap.size ok v xs := fun hq => q_set hq hb1 (by decide) _ _
  refine ⟨h.hb0, h.hg0, ?_, ⟨cur, ?_⟩, h.hcf, fun j hj => (hcg _).trans (h.q j hj), fun j hj => (hcg _).trans (h.w j hj), fun j hj => (hcg _).trans (h.d j hj), fun j hj => (hcg _).trans (h.fed j hj), fun j hj => hqs (Kd.Q_grown (h.qs j hj) hgr (fun k hk e2 => by have := hrow k e2.symm; omega)), hqs hq'⟩
  · simpa using blk_set hb1 1 v'
  · rw [Below.heap_setCell _ _ _ _ (show g ≠ b from fun e => hne e.symm)]; exact hc1
end RX
/-- One flow is another. -/
def upd (fs : List Fl) (i : Nat) (F : Fl → Fl) : List Fl := fs.set i (F (fs.getD i ⟨0, [], 0, false⟩))
theorem upd_length (fs : List Fl) (i : Nat) (F : Fl → Fl) : (upd fs i F).length = fs.length := List.length_set
theorem getD_fl {fs : List Fl} {i : Nat} (h : i < fs.length) : fs.getD i ⟨0, [], 0, false⟩ = fs[i] := by rw [List.getD_eq_getElem?_getD, List.getElem?_eq_getElem h]; rfl
theorem upd_getD {fs : List Fl} {i : Nat} (h : i < fs.length) (F : Fl → Fl) : (upd fs i F).getD i ⟨0, [], 0, false⟩ = F (fs.getD i ⟨0, [], 0, false⟩) := by
  unfold upd
  rw [List.getD_eq_getElem?_getD, List.getElem?_set_self h]
  rfl
theorem upd_upd {fs : List Fl} {i : Nat} (h : i < fs.length) (F G : Fl → Fl) : upd (upd fs i F) i G = upd fs i (fun x => G (F x)) := by
  have e := upd_getD h F
  show (upd fs i F).set i (G ((upd fs i F).getD i ⟨0, [], 0, false⟩)) = _
  rw [e]
  unfold upd
  rw [List.set_set]
namespace RX
variable {w0 W W1 : World} {b g cf : Nat} {vt : Value} {f : Nat → Nat} {vs : Nat → Value} {fs : List Fl} {tn : List Int}
theorem q' (h : RX w0 W b g cf vt f vs fs tn) {i : Nat} (hi : i < fs.length) : W.cell? ⟨g, i * 4, none⟩ = some (.int .i64 (fs.getD i ⟨0, [], 0, false⟩).q) := by rw [getD_fl hi]; exact h.q i hi
theorem d' (h : RX w0 W b g cf vt f vs fs tn) {i : Nat} (hi : i < fs.length) : W.cell? ⟨g, i * 4 + 2, none⟩ = some (.int .i64 (fs.getD i ⟨0, [], 0, false⟩).d) := by rw [getD_fl hi]; exact h.d i hi
theorem fed' (h : RX w0 W b g cf vt f vs fs tn) {i : Nat} (hi : i < fs.length) : W.cell? ⟨g, i * 4 + 3, none⟩ = some (.bool (fs.getD i ⟨0, [], 0, false⟩).fed) := by rw [getD_fl hi]; exact h.fed i hi
theorem qs' (h : RX w0 W b g cf vt f vs fs tn) {i : Nat} (hi : i < fs.length) : iQ W w0.heap.size (fun k => f k = i + 1) (vs i) (fs.getD i ⟨0, [], 0, false⟩).ws := by rw [getD_fl hi]; exact h.qs i hi
theorem updD (h : RX w0 W b g cf vt f vs fs tn) {i : Nat} (hi : i < fs.length) (x : Int) : RX w0 (W.setCell ⟨g, i * 4 + 2, none⟩ (.int .i64 x)) b g cf vt f vs (upd fs i (fun z => { z with d := x })) tn := by
  unfold upd; rw [getD_fl hi]; exact h.setD i hi x
theorem updFed (h : RX w0 W b g cf vt f vs fs tn) {i : Nat} (hi : i < fs.length) (x : Bool) : RX w0 (W.setCell ⟨g, i * 4 + 3, none⟩ (.bool x)) b g cf vt f vs (upd fs i (fun z => { z with fed := x })) tn := by
  unfold upd; rw [getD_fl hi]; exact h.setFed i hi x
theorem updWs (h : RX w0 W b g cf vt f vs fs tn) {i : Nat} (hi : i < fs.length) (hgr : W.grownBy W1 (vs i).ownBlock) {v' : Value} {ws' : List Int} (hq' : iQ W1 w0.heap.size (fun k => f k = i + 1) v' ws') :
    RX w0 (W1.setCell ⟨g, i * 4 + 1, none⟩ v') b g cf vt f (fun j => if j = i then v' else vs j) (upd fs i (fun z => { z with ws := ws' })) tn := by
  unfold upd; rw [getD_fl hi]; exact h.newWs i hi hgr hq'
theorem flows (h : RX w0 W b g cf vt f vs fs tn) : W.cell? ⟨b, 0, none⟩ = some (.slice (some ⟨g, 0, none⟩) fs.length cf) := (blk_cell h.hb 0).trans rfl
theorem turn (h : RX w0 W b g cf vt f vs fs tn) : W.cell? ⟨b, 1, none⟩ = some vt := (blk_cell h.hb 1).trans rfl
theorem keepsG (h : RX w0 W b g cf vt f vs fs tn) (o : Nat) (u : Value) : Keeps W (W.setCell ⟨g, o, none⟩ u) := by
  obtain ⟨cur, hc⟩ := h.hg
  exact (Keeps.refl W).set (p := ⟨g, o, none⟩) hc (.inr rfl) u
theorem keepsB (h : RX w0 W b g cf vt f vs fs tn) (o : Nat) (u : Value) : Keeps W (W.setCell ⟨b, o, none⟩ u) := (Keeps.refl W).set (p := ⟨b, o, none⟩) h.hb (.inl rfl) u
end RX
theorem grown_refl (W : World) (row : Option Nat) : W.grownBy W row := ⟨rfl, rfl, rfl, Nat.le_refl _, fun _ _ _ => rfl⟩
theorem Keeps.blk {W W' : World} (h : Keeps W W') {k : Nat} {cs : Array Value} (hk : W.heap[k]? = some (.cells cs 29 (0, 0))) : W'.heap[k]? = some (.cells cs 29 (0, 0)) := h.2 k cs 29 hk (by decide) (by decide) (by decide)
def RPost (w0 W : World) (b : Nat) (o : Int × Int × Int) (fs : List Fl) (tn : List Int) (e : Ending) (W' : World) : Prop := e = .returned (.agg #[.int .i64 o.1, .int .i64 o.2.1, .int .i64 o.2.2]) ∧ (∃ g cf vt f vs, RX w0 W' b g cf vt f vs fs tn) ∧ Below w0.heap.size w0 W' ∧ Keeps W W'
theorem set_three {W : World} {g : Nat} {a0 a1 a2 c0 c1 c2 : Value} (h : W.heap[g]? = some (.cells #[a0, a1, a2] 29 (0, 0))) : (((W.setCell ⟨g, 0, none⟩ c0).setCell ⟨g, 1, none⟩ c1).setCell ⟨g, 2, none⟩ c2).heap[g]? = some (.cells #[c0, c1, c2] 29 (0, 0)) := by
  have h0 := blk_set h 0 c0
  have h1 := blk_set h0 1 c1
  have h2 := blk_set h1 2 c2
  simpa using h2
theorem RX.three {w0 W : World} {b g cf k : Nat} {vt : Value} {f : Nat → Nat} {vs : Nat → Value} {fs : List Fl} {tn : List Int} {a0 a1 a2 c0 c1 c2 : Value} (h : RX w0 W b g cf vt f vs fs tn) (hk : W.heap[k]? = some (.cells #[a0, a1, a2] 29 (0, 0))) : RX w0 (((W.setCell ⟨k, 0, none⟩ c0).setCell ⟨k, 1, none⟩ c1).setCell ⟨k, 2, none⟩ c2) b g cf vt f vs fs tn := by
  have far : ∀ (W : World) (cs : Array Value), RX w0 W b g cf vt f vs fs tn → W.heap[k]? = some (.cells cs 29 (0, 0)) → ∀ o u, RX w0 (W.setCell ⟨k, o, none⟩ u) b g cf vt f vs fs tn := by
    intro W cs h hk o u
    obtain ⟨cur, hc⟩ := h.hg
    have n1 : g ≠ k := fun e => by rw [e, hk] at hc; injection hc with hc; injection hc with _ hc; cases hc
    have n2 : b ≠ k := fun e => by have := h.hb; rw [e, hk] at this; injection this with this; injection this with _ this; cases this
    have hcg : ∀ o', (W.setCell ⟨k, o, none⟩ u).cell? ⟨g, o', none⟩ = W.cell? ⟨g, o', none⟩ := fun o' => cell_same (Below.heap_setCell _ _ _ _ n1)
    exact ⟨h.hb0, h.hg0, (Below.heap_setCell _ _ _ _ n2).trans h.hb, ⟨cur, (Below.heap_setCell _ _ _ _ n1).trans hc⟩, h.hcf, fun i hi => (hcg _).trans (h.q i hi), fun i hi => (hcg _).trans (h.w i hi), fun i hi => (hcg _).trans (h.d i hi), fun i hi => (hcg _).trans (h.fed i hi), fun i hi => q_set (h.qs i hi) hk (by decide) _ _, q_set h.qt hk (by decide) _ _⟩
  exact far _ _ (far _ _ (far _ _ h hk _ _) (blk_set hk _ _) _ _) (blk_set (blk_set hk _ _) _ _) _ _
theorem keeps_three {W W1 : World} {k : Nat} {c0 c1 c2 : Value} (h : Keeps W W1) (hk : W.heap.size ≤ k) : Keeps W (((W1.setCell ⟨k, 0, none⟩ c0).setCell ⟨k, 1, none⟩ c1).setCell ⟨k, 2, none⟩ c2) := by
  refine ⟨by simpa [World.setCell] using h.1, fun j cs t hj a b c => ?_⟩
  have hne : j ≠ k := by have := blk_ltf hj; omega
  rw [Below.heap_setCell _ _ _ _ (show j ≠ k from hne), Below.heap_setCell _ _ _ _ (show j ≠ k from hne), Below.heap_setCell _ _ _ _ (show j ≠ k from hne)]
  exact h.2 j cs t hj a b c
theorem w64f {x : Int} (h : -10000000 ≤ x) (h1 : x ≤ 10000000) : wrap64 x = x := by unfold wrap64; omega
namespace RX
variable {w0 W W1 : World} {b g cf : Nat} {vt : Value} {f : Nat → Nat} {vs : Nat → Value} {fs : List Fl} {tn : List Int}
theorem bAfter (h : RX w0 W b g cf vt f vs fs tn) (hgr : W.grownBy W1 vt.ownBlock) : W1.heap[b]? = some (.cells #[.slice (some ⟨g, 0, none⟩) fs.length cf, vt] 83 (0, 0)) :=
  (hgr.block b (blk_ltf h.hb) (fun e => by
    obtain ⟨cells, hc⟩ := Kd.Q_typed h.qt b e.symm
    rw [h.hb] at hc
    injection hc with hc
    injection hc with _ hc
    cases hc)).trans h.hb
theorem gAfter (h : RX w0 W b g cf vt f vs fs tn) {i : Nat} (hi : i < fs.length) (hgr : W.grownBy W1 (vs i).ownBlock) : W1.heap[g]? = W.heap[g]? := by
  obtain ⟨cur, hg⟩ := h.hg
  exact hgr.block g (blk_ltf hg) (fun e => by
    obtain ⟨cells, hc⟩ := Kd.Q_typed (h.qs i hi) g e.symm
    rw [hg] at hc
    injection hc with hc
    injection hc with _ hc
    cases hc)
theorem wAfter (h : RX w0 W b g cf vt f vs fs tn) {i : Nat} (hi : i < fs.length) (hgr : W.grownBy W1 (vs i).ownBlock) : W1.cell? ⟨g, i * 4 + 1, none⟩ = some (vs i) ∧ W1.frozen? ⟨g, i * 4 + 1, none⟩ = false := by
  have e := h.gAfter hi hgr
  obtain ⟨cur, hg⟩ := h.hg
  exact ⟨(cell_same e).trans (h.w i hi), blk_frozen (e.trans hg) _⟩
theorem keepsT (h : RX w0 W b g cf vt f vs fs tn) (hgr : W.grownBy W1 vt.ownBlock) : Keeps W W1 := (Keeps.refl W).grown hgr (Kd.Q_typed h.qt)
theorem keepsW (h : RX w0 W b g cf vt f vs fs tn) {i : Nat} (hi : i < fs.length) (hgr : W.grownBy W1 (vs i).ownBlock) : Keeps W W1 := (Keeps.refl W).grown hgr (Kd.Q_typed (h.qs i hi))
end RX
theorem Keeps.blk' {W W' : World} (h : Keeps W W') {k t : Nat} {cs : Array Value} (hk : W.heap[k]? = some (.cells cs t (0, 0))) (ht : t ≠ 3 ∧ t ≠ 83 ∧ t ≠ 85) : W'.heap[k]? = some (.cells cs t (0, 0)) := h.2 k cs t hk ht.1 ht.2.1 ht.2.2
def fsent.T3 : Bool × List (List Nat × List Nat) := (true, [([], []), ([0], [0]), ([1], [1]), ([2], [2]), ([], []), ([4], [4]), ([3, 5], [3, 5]), ([0, 0, 1, 2, 3, 4, 5, 6], [0]), ([7, 0, 1, 2, 3, 4, 5, 6], [7]), ([8, 6, 0, 1, 2, 3, 4, 5, 6], [6, 8])])
def fsent.B3 : List Nat := [0, 1, 3, 7, 0, 16, 63, 127, 255, 511]
theorem fsent.tab3 : rtab .any (opsOf Try.f46 3) = fsent.T3 := by kernel_rfl
theorem fsent.bits3 : waitsOk fsent.T3.2 fsent.B3 = true := by kernel_rfl
theorem info3f : (Try.prog.info? 3).map (fun i => (i.zero, i.size, i.bytes)) = some (some (.int .i64 0), 1, 8) := by kernel_rfl
def sentF (fs : List Fl) (tn : List Int) (i : Nat) : Option ((Int × Int × Int) × List Fl × List Int) :=
  if i < fs.length ∧ 0 < tn.length ∧ 0 < (fs.getD i ⟨0, [], 0, false⟩).ws.length ∧ i < 1000 ∧ -1000000 ≤ (fs.getD i ⟨0, [], 0, false⟩).d ∧ (fs.getD i ⟨0, [], 0, false⟩).d ≤ 1000000 ∧ -1000000 ≤ rd (fs.getD i ⟨0, [], 0, false⟩).ws 0 ∧ rd (fs.getD i ⟨0, [], 0, false⟩).ws 0 ≤ 1000000 then
    (if (fs.getD i ⟨0, [], 0, false⟩).ws.length = 1 then some ((0, (i : Int), rd (fs.getD i ⟨0, [], 0, false⟩).ws 0), upd fs i (fun z => { z with ws := [], d := 0, fed := false }), tn.drop 1)
     else some ((0, (i : Int), rd (fs.getD i ⟨0, [], 0, false⟩).ws 0), upd fs i (fun z => { z with ws := z.ws.drop 1, d := z.d - rd (fs.getD i ⟨0, [], 0, false⟩).ws 0 }), tn))
  else none
theorem drop_all {l : List Int} (h : l.length = 1) : l.drop 1 = [] := List.drop_eq_nil_of_le (by omega)
set_option maxHeartbeats 40000000 in
set_option maxRecDepth 100000 in
theorem sent_calls (w0 W : World) (b g cf : Nat) (vt : Value) (f : Nat → Nat) (vs : Nat → Value) (fs : List Fl) (tn : List Int) (i : Nat) (o : Int × Int × Int) (fs' : List Fl) (tn' : List Int)
    (hx : RX w0 W b g cf vt f vs fs tn) (hB : Below w0.heap.size w0 W) (h : sentF fs tn i = some (o, fs', tn')) :
    Calls Try.prog 46 #[.pointer (some ⟨b, 0, none⟩), .int .i64 (i : Int)] W (RPost w0 W b o fs' tn') := by
  unfold sentF at h
  split at h
  case isFalse => cases h
  rename_i hc
  obtain ⟨hi, htn, hws, hi1000, hd0, hd1, hp0, hp1⟩ := hc
  have HX := Aside0.mk hx
  have HB := Aside0.mk hB
  have HH := Aside0.mk h
  clear hx hB h
  obtain ⟨x, hxe⟩ : ∃ x, fs.getD i ⟨0, [], 0, false⟩ = x := ⟨_, rfl⟩
  rw [hxe] at hws hd0 hd1 hp0 hp1
  obtain ⟨p, hp⟩ : ∃ p, rd x.ws 0 = p := ⟨_, rfl⟩
  rw [hp] at hp0 hp1
  have hHH := HH.out
  rw [hxe, hp] at hHH
  clear HH
  have HH := Aside0.mk hHH
  have HXE := Aside0.mk hxe
  have HP := Aside0.mk hp
  have HI : Aside0 (i < fs.length) := ⟨hi⟩
  have HD : Aside0 (wrap64 (x.d - p) = x.d - p) := ⟨w64f (by omega) (by omega)⟩
  have HWS := Aside0.mk hws
  have HTN := Aside0.mk htn
  clear hHH hd0 hd1 hp0 hp1 hp
  have p0 : ((0 : Int) ≤ (i : Int)) = True := eq_true (by omega)
  have q0 : ((i : Int) < (fs.length : Int)) = True := eq_true (by omega)
  have q0n : (i < fs.length) = True := eq_true hi
  have hQ : iQ W w0.heap.size (fun k => f k = i + 1) (vs i) x.ws := by rw [← hxe]; exact HX.out.qs' hi
  obtain ⟨gq, oq, cq, hvs, hgq0, hgq1, hgq2⟩ := Kd.Q_form hQ hws
  have hQ2 := hQ
  rw [hvs] at hQ2
  have hc0 := (Kd.Q_cell (enc := Value.int .i64) (h1 := fun _ => rfl) (0 : Int) hQ2 0 (by omega) (by omega)).1
  have hc0 : W.cell? ⟨gq, oq, none⟩ = some (.int .i64 p) := by
    rw [← HP.out]
    have e := hc0
    simpa [rdOf, rd] using e
  have HC0 := Aside0.mk hc0
  have HQ := Aside0.mk hQ2
  have HVS := Aside0.mk hvs
  have hl1 : ((0 : Int) < (x.ws.length : Int)) = True := eq_true (by omega)
  have hl1n : (0 < x.ws.length) = True := eq_true hws
  have hfl := HX.out.flows
  have hw := (HX.out.w i hi).trans (congrArg some hvs)
  clear hxe hQ hQ2 hvs hgq0 hgq1 hgq2 hws htn hi
  go_enter Try.func46, Try.ntmps46
  go_upto_region 1 with (fail)
  obtain ⟨W1, hW1⟩ : ∃ w, W.alloc (Obj.cells #[.int .i64 0, .int .i64 0, .int .i64 0] 29) = w := ⟨_, rfl⟩
  rw [hW1]
  obtain ⟨b4, hb4⟩ : ∃ k, W.heap.size = k := ⟨_, rfl⟩
  rw [hb4]
  have HZ1 : Aside0 (W1.heap[b4]? = some (.cells #[.int .i64 0, .int .i64 0, .int .i64 0] 29 (0, 0))) := ⟨by rw [← hW1, ← hb4]; exact heap_alloc_new W _⟩
  have hl1_ : Below W.heap.size W W1 := by rw [← hW1]; exact below_alloc (Below.refl _ _) _
  have HX1 := Aside0.mk (HX.out.below hl1_)
  have HK1 := Aside0.mk ((Keeps.refl W).below hl1_)
  have HB1 := Aside0.mk (below_then HB.out HB.out.size hl1_)
  have HB4 : Aside0 (W.heap.size ≤ b4) := ⟨Nat.le_of_eq hb4⟩
  have hfl1 := HX1.out.flows
  have hw1 : W1.cell? ⟨g, i * 4 + 1, none⟩ = some (.slice (some ⟨gq, oq, none⟩) x.ws.length cq) := (HX1.out.w i HI.out).trans (congrArg some HVS.out)
  have hc1 : W1.cell? ⟨gq, oq, none⟩ = some (.int .i64 p) := (Below.cell hl1_ (p := ⟨gq, oq, none⟩) (World.block_lt_of_cell? W _ HC0.out)).trans HC0.out
  clear hW1 hb4 hl1_ hfl hw
  go_upto_region 3 with (fail)
  obtain ⟨W2, hW2⟩ : ∃ w, W1.alloc (Obj.cells #[.int .i64 0, .int .i64 (i : Int), .int .i64 p] 29) = w := ⟨_, rfl⟩
  rw [hW2]
  obtain ⟨b6, hb6⟩ : ∃ k, W1.heap.size = k := ⟨_, rfl⟩
  rw [hb6]
  have HS2 : Aside0 (W2.heap[b6]? = some (.cells #[.int .i64 0, .int .i64 (i : Int), .int .i64 p] 29 (0, 0))) := ⟨by rw [← hW2, ← hb6]; exact heap_alloc_new W1 _⟩
  have hl2_ : Below W1.heap.size W1 W2 := by rw [← hW2]; exact below_alloc (Below.refl _ _) _
  have HX2 := Aside0.mk (HX1.out.below hl2_)
  have HK2 := Aside0.mk (HK1.out.below hl2_)
  have HB2 := Aside0.mk (below_then HB1.out HB1.out.size hl2_)
  have HZ2 := Aside0.mk (blk_below HZ1.out hl2_)
  clear hW2 hb6 hl2_ hfl1 hw1 hc1
  have hD2 : W2.cell? ⟨g, i * 4 + 2, none⟩ = some (.int .i64 x.d) := by rw [← HXE.out]; exact HX2.out.d' HI.out
  have hS2 : W2.cell? ⟨b6, 2, none⟩ = some (.int .i64 p) := (blk_cell HS2.out 2).trans rfl
  have hwd := HD.out
  refine start_ (n := 10) (S := fun w' => w'.cell? ⟨g, i * 4 + 2, none⟩ = some (.int .i64 x.d) ∧ w'.cell? ⟨b6, 2, none⟩ = some (.int .i64 p)) (ds := [9]) #[false, false, false, false, false, false, false, false, false, false] (by kernel_rfl) rfl rfl ⟨hD2, hS2⟩ (fun hHeld => ?_)
  refine with_tabW fsent.tab3 fsent.bits3 (fun HT_ HW_ => ?_)
  obtain ⟨W3, hw_⟩ : ∃ w, w = W2.drew := ⟨_, rfl⟩
  have hl3_ : Below W2.heap.size W2 W3 := by rw [hw_]; exact below_drew1 (Below.refl _ _)
  rw [← hw_] at hHeld ⊢
  have HX3 := Aside0.mk (HX2.out.below hl3_)
  have HK3 := Aside0.mk (HK2.out.below hl3_)
  have HB3 := Aside0.mk (below_then HB2.out HB2.out.size hl3_)
  have HZ3 := Aside0.mk (blk_below HZ2.out hl3_)
  have HS3 := Aside0.mk (blk_below HS2.out hl3_)
  have hf3 := HX3.out.frozen_g (i * 4 + 2)
  have hD3 : W3.cell? ⟨g, i * 4 + 2, none⟩ = some (.int .i64 x.d) := by rw [← HXE.out]; exact HX3.out.d' HI.out
  clear hw_ hl3_
  refine pure_ (i := 0) (N := some 21) (v := ?_) (a' := ?_) #[true, false, false, false, false, false, false, false, false, false] rfl rfl (any_of HT_.out (by kernel_rfl)) (fun _ _ _ h => h) (Or.inl ⟨by rfl, ?_⟩) ?_ ?_
  rotate_left
  · intro w'
    go_simp
    with_reducible rfl
  rotate_left
  · simp only [Act.put, List.setIfInBounds_toArray, List.set_cons_zero, List.set_cons_succ, i64_w, i32_w, hwd]
    rfl
  refine pure_ (i := 1) (N := some 22) (v := ?_) (a' := ?_) #[true, true, false, false, false, false, false, false, false, false] rfl rfl (any_of HT_.out (by kernel_rfl)) (fun _ _ _ h => h) (Or.inl ⟨by rfl, ?_⟩) ?_ ?_
  rotate_left
  · intro w'
    go_simp
    with_reducible rfl
  rotate_left
  · simp only [Act.put, List.setIfInBounds_toArray, List.set_cons_zero, List.set_cons_succ, i64_w, i32_w, hwd]
    rfl
  refine pure_ (i := 2) (N := some 23) (v := ?_) (a' := ?_) #[true, true, true, false, false, false, false, false, false, false] rfl rfl (any_of HT_.out (by kernel_rfl)) (fun _ _ _ h => h) (Or.inl ⟨by rfl, ?_⟩) ?_ ?_
  rotate_left
  · intro w'
    go_simp
    with_reducible rfl
  rotate_left
  · simp only [Act.put, List.setIfInBounds_toArray, List.set_cons_zero, List.set_cons_succ, i64_w, i32_w, hwd]
    rfl
  refine pure_ (i := 4) (N := some 25) (v := ?_) (a' := ?_) #[true, true, true, false, true, false, false, false, false, false] rfl rfl (any_of HT_.out (by kernel_rfl)) (fun _ _ _ h => h) (Or.inl ⟨by rfl, ?_⟩) ?_ ?_
  rotate_left
  · intro w'
    go_simp
    with_reducible rfl
  rotate_left
  · simp only [Act.put, List.setIfInBounds_toArray, List.set_cons_zero, List.set_cons_succ, i64_w, i32_w, hwd]
    rfl
  refine take_ (i := 3) (N := some 24) (v := ?_) (a' := ?_) #[true, true, true, true, true, false, false, false, false, false] rfl rfl (take_ofW HT_.out HW_.out (by kernel_rfl)) (fun _ _ _ h => h) (Or.inl ⟨by rfl, ?_⟩) hHeld ?_ ?_
  rotate_left
  · rintro w' ⟨s0, s1⟩
    go_simp
    with_reducible rfl
  rotate_left
  · simp only [Act.put, List.setIfInBounds_toArray, List.set_cons_zero, List.set_cons_succ, i64_w, i32_w, hwd]
    rfl
  refine take_ (i := 5) (N := some 26) (v := ?_) (a' := ?_) #[true, true, true, true, true, true, false, false, false, false] rfl rfl (take_ofW HT_.out HW_.out (by kernel_rfl)) (fun _ _ _ h => h) (Or.inl ⟨by rfl, ?_⟩) hHeld ?_ ?_
  rotate_left
  · rintro w' ⟨s0, s1⟩
    go_simp
    with_reducible rfl
  rotate_left
  · simp only [Act.put, List.setIfInBounds_toArray, List.set_cons_zero, List.set_cons_succ, i64_w, i32_w, hwd]
    rfl
  refine pure_ (i := 6) (N := some 27) (v := ?_) (a' := ?_) #[true, true, true, true, true, true, true, false, false, false] rfl rfl (any_of HT_.out (by kernel_rfl)) (fun _ _ _ h => h) (Or.inl ⟨by rfl, ?_⟩) ?_ ?_
  rotate_left
  · intro w'
    go_simp
    with_reducible rfl
  rotate_left
  · simp only [Act.put, List.setIfInBounds_toArray, List.set_cons_zero, List.set_cons_succ, i64_w, i32_w, hwd]
    rfl
  refine pure_ (i := 7) (N := some 28) (v := ?_) (a' := ?_) #[true, true, true, true, true, true, true, true, false, false] rfl rfl (any_of HT_.out (by kernel_rfl)) (fun _ _ _ h => h) (Or.inl ⟨by rfl, ?_⟩) ?_ ?_
  rotate_left
  · intro w'
    go_simp
    with_reducible rfl
  rotate_left
  · simp only [Act.put, List.setIfInBounds_toArray, List.set_cons_zero, List.set_cons_succ, i64_w, i32_w, hwd]
    rfl
  refine pure_ (i := 8) (N := some 29) (v := ?_) (a' := ?_) #[true, true, true, true, true, true, true, true, true, false] rfl rfl (any_of HT_.out (by kernel_rfl)) (fun _ _ _ h => h) (Or.inl ⟨by rfl, ?_⟩) ?_ ?_
  rotate_left
  · intro w'
    go_simp
    with_reducible rfl
  rotate_left
  · simp only [Act.put, List.setIfInBounds_toArray, List.set_cons_zero, List.set_cons_succ, i64_w, i32_w, hwd]
    rfl
  refine last_ (i := 9) (N := none) #[true, true, true, true, true, true, true, true, true, true] rfl rfl (one_of HT_.out (by kernel_rfl)) (by decide) (fun K hK => ?_)
  refine skip_ (w1 := ?_) (by rfl) rfl ?_ ?_
  rotate_left
  · go_simp
    rfl
  refine hK.out _ _ ?_
  clear hK K
  refine done_ (done_of HT_.out (by kernel_rfl)) ?_
  clear hwd hD2 hS2
  obtain ⟨W4, hW4⟩ : ∃ w, W3.setCell ⟨g, i * 4 + 2, none⟩ (.int .i64 (x.d - p)) = w := ⟨_, rfl⟩
  rw [hW4]
  have HX4 : Aside0 (RX w0 W4 b g cf vt f vs (upd fs i (fun z => { z with d := x.d - p })) tn) := ⟨by rw [← hW4]; exact HX3.out.updD HI.out _⟩
  have hk4 : Keeps W3 W4 := by rw [← hW4]; exact HX3.out.keepsG _ _
  have HK4 := Aside0.mk (HK3.out.trans hk4)
  have HZ4 := Aside0.mk (hk4.blk HZ3.out)
  have HS4 := Aside0.mk (hk4.blk HS3.out)
  have HB4b : Aside0 (Below w0.heap.size w0 W4) := ⟨by rw [← hW4]; exact below_set HB3.out HX.out.hg0⟩
  clear hW4 hk4
  have hw4 : W4.cell? ⟨g, i * 4 + 1, none⟩ = some (.slice (some ⟨gq, oq, none⟩) x.ws.length cq) := (HX4.out.w i (by rw [upd_length]; exact HI.out)).trans (congrArg some HVS.out)
  have hf4 := HX4.out.frozen_g (i * 4 + 1)
  obtain ⟨i3, hi3, hz3⟩ := Option.map_eq_some_iff.1 info3f
  have hsz3 : i3.size = 1 := by simp only [Prod.mk.injEq] at hz3; exact hz3.2.1
  clear hz3
  have hcut := cut_from (P := Try.prog) 22 3 .i64 Try.underlying22 hi3 1 hsz3 (some ⟨gq, oq, none⟩) x.ws.length cq (1 : Int) (by omega) (by have := HWS.out; omega)
  rw [show (1 : Int).toNat = 1 from rfl] at hcut
  have hQ4 : iQ W4 w0.heap.size (fun k => f k = i + 1) (.slice (some ⟨gq, oq, none⟩) x.ws.length cq) x.ws := by
    have h1 := HX4.out.qs' (i := i) (by rw [upd_length]; exact HI.out)
    rw [upd_getD HI.out, HXE.out, HVS.out] at h1
    exact h1
  have hQd := Kd.Q_drop (k := 1) hQ4 (by have := HWS.out; omega)
  rw [show (Kd.int .i64).sz = 1 from rfl] at hQd
  have HQD := Aside0.mk hQd
  generalize (if cq = 1 then (some (⟨gq, oq, none⟩ : Addr)) else (some (⟨gq, oq, none⟩ : Addr)).map (·.add (1 * 1))) = A5 at hcut HQD
  obtain ⟨L1, hL1⟩ : ∃ m : Nat, x.ws.length - 1 = m := ⟨_, rfl⟩
  obtain ⟨C1, hC1⟩ : ∃ m : Nat, cq - 1 = m := ⟨_, rfl⟩
  rw [hL1, hC1] at hcut HQD
  have HL1 := Aside0.mk hL1
  clear hQ4 hQd hL1 hC1 hi3 hsz3
  go_upto_region 5 with (fail)
  obtain ⟨W5, hW5⟩ : ∃ w, W4.setCell ⟨g, i * 4 + 1, none⟩ (.slice A5 L1 C1) = w := ⟨_, rfl⟩
  rw [hW5]
  obtain ⟨vs5, hvs5⟩ : ∃ v : Nat → Value, (fun j => if j = i then (.slice A5 L1 C1 : Value) else vs j) = v := ⟨_, rfl⟩
  have HX5 : Aside0 (RX w0 W5 b g cf vt f vs5 (upd fs i (fun z => { z with ws := x.ws.drop 1, d := x.d - p })) tn) := ⟨by rw [← hW5, ← hvs5]; have h1 := HX4.out.updWs (i := i) (by rw [upd_length]; exact HI.out) (grown_refl W4 _) HQD.out; rw [upd_upd HI.out] at h1; exact h1⟩
  have hk5 : Keeps W4 W5 := by rw [← hW5]; exact HX4.out.keepsG _ _
  have HK5 := Aside0.mk (HK4.out.trans hk5)
  have HZ5 := Aside0.mk (hk5.blk HZ4.out)
  have HS5 := Aside0.mk (hk5.blk HS4.out)
  have HB5 : Aside0 (Below w0.heap.size w0 W5) := ⟨by rw [← hW5]; exact below_set HB4b.out HX.out.hg0⟩
  have hv5 : vs5 i = .slice A5 L1 C1 := by rw [← hvs5]; simp
  have hw5 : W5.cell? ⟨g, i * 4 + 1, none⟩ = some (.slice A5 L1 C1) := (HX5.out.w i (by rw [upd_length]; exact HI.out)).trans (congrArg some hv5)
  have hcs0 := (blk_cell HS5.out 0).trans rfl
  clear hW5 hk5 hw4 hf4 hcut hvs5 hv5
  by_cases hl : x.ws.length = 1
  · have hHH := HH.out
    rw [if_pos hl] at hHH
    simp only [Option.some.injEq, Prod.mk.injEq] at hHH
    obtain ⟨rfl, rfl, rfl⟩ := hHH
    have e5_ : ((L1 : Int) == 0) = true := beq_iff_eq.2 (by have := HL1.out; omega)
    have e5n_ : (L1 == 0) = true := beq_iff_eq.2 (by have := HL1.out; omega)
    have hd5 : W5.cell? ⟨g, i * 4 + 2, none⟩ = some (.int .i64 (x.d - p)) := by have h1 := HX5.out.d' (i := i) (by rw [upd_length]; exact HI.out); rw [upd_getD HI.out] at h1; exact h1
    have he5 : W5.cell? ⟨g, i * 4 + 3, none⟩ = some (.bool x.fed) := by have h1 := HX5.out.fed' (i := i) (by rw [upd_length]; exact HI.out); rw [upd_getD HI.out, HXE.out] at h1; exact h1
    have hfa := HX5.out.frozen_g (i * 4 + 2)
    have hfb := HX5.out.frozen_g (i * 4 + 3)
    have HLw : Aside0 (x.ws.drop 1 = []) := ⟨drop_all hl⟩
    clear hl
    go_upto_region 7 with (fail)
    obtain ⟨W6, hW6⟩ : ∃ w, (W5.setCell ⟨g, i * 4 + 2, none⟩ (.int .i64 0)).setCell ⟨g, i * 4 + 3, none⟩ (.bool false) = w := ⟨_, rfl⟩
    rw [hW6]
    have HX6 : Aside0 (RX w0 W6 b g cf vt f vs5 (upd fs i (fun z => { z with ws := [], d := 0, fed := false })) tn) := ⟨by
      rw [← hW6]
      have h1 := (HX5.out.updD (i := i) (by rw [upd_length]; exact HI.out) 0).updFed (i := i) (by rw [upd_length, upd_length]; exact HI.out) false
      rw [upd_upd (by rw [upd_length]; exact HI.out), upd_upd HI.out] at h1
      rw [← HLw.out]
      exact h1⟩
    have hk6 : Keeps W5 W6 := by rw [← hW6]; exact (HX5.out.keepsG _ _).trans ((HX5.out.updD (i := i) (by rw [upd_length]; exact HI.out) 0).keepsG _ _)
    have HK6 := Aside0.mk (HK5.out.trans hk6)
    have HZ6 := Aside0.mk (hk6.blk HZ5.out)
    have HS6 := Aside0.mk (hk6.blk HS5.out)
    have HB6 : Aside0 (Below w0.heap.size w0 W6) := ⟨by rw [← hW6]; exact below_set (below_set HB5.out HX.out.hg0) HX.out.hg0⟩
    clear hW6 hk6 hd5 he5 hfa hfb hw5 hcs0
    obtain ⟨gt, ot, ct, hvt, _, _, _⟩ := Kd.Q_form HX6.out.qt HTN.out
    have HVT := Aside0.mk hvt
    have htu := HX6.out.turn.trans (congrArg some hvt)
    have hfB := blk_frozen HX6.out.hb 1
    obtain ⟨i3, hi3, hz3⟩ := Option.map_eq_some_iff.1 info3f
    have hsz3 : i3.size = 1 := by simp only [Prod.mk.injEq] at hz3; exact hz3.2.1
    clear hz3 hvt
    have hcut := cut_from (P := Try.prog) 22 3 .i64 Try.underlying22 hi3 1 hsz3 (some ⟨gt, ot, none⟩) tn.length ct (1 : Int) (by omega) (by have := HTN.out; omega)
    rw [show (1 : Int).toNat = 1 from rfl] at hcut
    have hQ6 : iQ W6 w0.heap.size (fun k => f k = 0) (.slice (some ⟨gt, ot, none⟩) tn.length ct) tn := by have h1 := HX6.out.qt; rw [HVT.out] at h1; exact h1
    have hQd := Kd.Q_drop (k := 1) hQ6 (by have := HTN.out; omega)
    rw [show (Kd.int .i64).sz = 1 from rfl] at hQd
    have HQT := Aside0.mk hQd
    generalize (if ct = 1 then (some (⟨gt, ot, none⟩ : Addr)) else (some (⟨gt, ot, none⟩ : Addr)).map (·.add (1 * 1))) = A7 at hcut HQT
    obtain ⟨L7, hL7⟩ : ∃ m : Nat, tn.length - 1 = m := ⟨_, rfl⟩
    obtain ⟨C7, hC7⟩ : ∃ m : Nat, ct - 1 = m := ⟨_, rfl⟩
    rw [hL7, hC7] at hcut HQT
    clear hQ6 hQd hL7 hC7 hi3 hsz3
    go_upto_region 8 with (fail)
    obtain ⟨W7, hW7⟩ : ∃ w, W6.setCell ⟨b, 1, none⟩ (.slice A7 L7 C7) = w := ⟨_, rfl⟩
    rw [hW7]
    have HX7 : Aside0 (RX w0 W7 b g cf (.slice A7 L7 C7) f vs5 (upd fs i (fun z => { z with ws := [], d := 0, fed := false })) (tn.drop 1)) := ⟨by rw [← hW7]; exact HX6.out.newTn (grown_refl W6 _) HQT.out⟩
    have hk7 : Keeps W6 W7 := by rw [← hW7]; exact HX6.out.keepsB _ _
    have HK7 := Aside0.mk (HK6.out.trans hk7)
    have HZ7 := Aside0.mk (hk7.blk HZ6.out)
    have HS7 := Aside0.mk (hk7.blk HS6.out)
    have HB7 : Aside0 (Below w0.heap.size w0 W7) := ⟨by rw [← hW7]; exact below_set HB6.out HX.out.hb0⟩
    clear hW7 hk7 htu hfB hcut
    have hs0 := (blk_cell HS7.out 0).trans rfl
    have hs1 := (blk_cell HS7.out 1).trans rfl
    have hs2 := (blk_cell HS7.out 2).trans rfl
    have hz0 := (blk_cell HZ7.out 0).trans rfl
    have hz1 := (blk_cell HZ7.out 1).trans rfl
    have hz2 := (blk_cell HZ7.out 2).trans rfl
    have hf0 := blk_frozen HZ7.out 0
    have hf1 := blk_frozen HZ7.out 1
    have hf2 := blk_frozen HZ7.out 2
    go_wp2
    (try simp only [Exit.inBlock, Exit.then])
    refine bodyPost_ret (results_cell_row rfl _ _ b4 29 #[.int .i64 0, .int .i64 (i : Int), .int .i64 p] (0, 0) _ rfl (set_three HZ7.out) Try.underlying29 rfl (by kernel_rfl)) rfl ?_
    refine ⟨rfl, ⟨g, cf, _, f, vs5, HX7.out.three (c0 := .int .i64 0) (c1 := .int .i64 (i : Int)) (c2 := .int .i64 p) HZ7.out⟩, ?_, keeps_three HK7.out HB4.out⟩
    exact below_set (below_set (below_set HB7.out (Nat.le_trans HB.out.size HB4.out)) (Nat.le_trans HB.out.size HB4.out)) (Nat.le_trans HB.out.size HB4.out)
  · have hHH := HH.out
    rw [if_neg hl] at hHH
    simp only [Option.some.injEq, Prod.mk.injEq] at hHH
    obtain ⟨rfl, rfl, rfl⟩ := hHH
    have e5_ : ((L1 : Int) == 0) = false := beq_eq_false_iff_ne.2 (by have := HL1.out; have := HWS.out; omega)
    have e5n_ : (L1 == 0) = false := beq_eq_false_iff_ne.2 (by have := HL1.out; have := HWS.out; omega)
    have hs0 := (blk_cell HS5.out 0).trans rfl
    have hs1 := (blk_cell HS5.out 1).trans rfl
    have hs2 := (blk_cell HS5.out 2).trans rfl
    have hz0 := (blk_cell HZ5.out 0).trans rfl
    have hz1 := (blk_cell HZ5.out 1).trans rfl
    have hz2 := (blk_cell HZ5.out 2).trans rfl
    have hf0 := blk_frozen HZ5.out 0
    have hf1 := blk_frozen HZ5.out 1
    have hf2 := blk_frozen HZ5.out 2
    clear hl
    go_wp2
    (try simp only [Exit.inBlock, Exit.then])
    refine bodyPost_ret (results_cell_row rfl _ _ b4 29 #[.int .i64 0, .int .i64 (i : Int), .int .i64 p] (0, 0) _ rfl (set_three HZ5.out) Try.underlying29 rfl (by kernel_rfl)) rfl ?_
    refine ⟨rfl, ⟨g, cf, vt, f, vs5, ?_⟩, ?_, keeps_three HK5.out HB4.out⟩
    · have h1 := HX5.out.three (c0 := .int .i64 0) (c1 := .int .i64 (i : Int)) (c2 := .int .i64 p) HZ5.out
      refine cast (congrArg (fun l => RX w0 _ b g cf vt f vs5 l tn) ?_) h1
      unfold upd
      rw [HXE.out]
    · exact below_set (below_set (below_set HB5.out (Nat.le_trans HB.out.size HB4.out)) (Nat.le_trans HB.out.size HB4.out)) (Nat.le_trans HB.out.size HB4.out)
def fcomes.T1 : Bool × List (List Nat × List Nat) := (true, [([], []), ([0], [0]), ([1], [1]), ([2], [2]), ([3], [3]), ([4, 3], [3, 4]), ([3], [3]), ([6, 3], [3, 6]), ([7, 3], [3, 7]), ([8, 3], [3, 8]), ([9, 3], [3, 9]), ([5, 10, 3], [3, 5, 10]), ([3, 11], [3, 11]), ([12, 3], [12]), ([13], [13]), ([14, 13], [13, 14]), ([15, 13], [13, 15]), ([13, 16], [13, 16])])
def fcomes.B1 : List Nat := [0, 1, 3, 7, 15, 31, 15, 79, 207, 463, 975, 2047, 4095, 8191, 16383, 32767, 65535, 131071]
theorem fcomes.tab1 : rtab .any (opsOf Try.f27 1) = fcomes.T1 := by kernel_rfl
theorem fcomes.bits1 : waitsOk fcomes.T1.2 fcomes.B1 = true := by kernel_rfl
def fcomes.T3 : Bool × List (List Nat × List Nat) := (true, [([], []), ([0], [0]), ([1], [1]), ([2], [2]), ([], []), ([4], [4]), ([3, 5], [3, 5]), ([6, 0, 1, 2, 3, 4, 5, 6], [6])])
def fcomes.B3 : List Nat := [0, 1, 3, 7, 0, 16, 63, 127]
theorem fcomes.tab3 : rtab .any (opsOf Try.f27 3) = fcomes.T3 := by kernel_rfl
theorem fcomes.bits3 : waitsOk fcomes.T3.2 fcomes.B3 = true := by kernel_rfl
def fcomes.T8 : Bool × List (List Nat × List Nat) := (true, [([], []), ([], []), ([1], [1]), ([2], [2]), ([3], [3]), ([], []), ([5], [5]), ([6], [6]), ([4, 7], [4, 7]), ([0, 0, 1, 2, 3, 4, 5, 6, 7, 8], [0]), ([9, 0, 1, 2, 3, 4, 5, 6, 7, 8], [9]), ([10, 8, 8, 0, 1, 2, 3, 4, 5, 6, 7, 8], [8, 10])])
def fcomes.B8 : List Nat := [0, 0, 2, 6, 14, 0, 32, 96, 254, 511, 1023, 2047]
theorem fcomes.tab8 : rtab .any (opsOf Try.f27 8) = fcomes.T8 := by kernel_rfl
theorem fcomes.bits8 : waitsOk fcomes.T8.2 fcomes.B8 = true := by kernel_rfl
def fcomes.T9 : Bool × List (List Nat × List Nat) := (true, [([], []), ([], []), ([1], [1]), ([2], [2]), ([3], [3]), ([], []), ([5], [5]), ([6], [6]), ([4, 7], [4, 7]), ([0, 0, 1, 2, 3, 4, 5, 6, 7, 8], [0]), ([9, 0, 1, 2, 3, 4, 5, 6, 7, 8], [9]), ([10, 8, 8, 0, 1, 2, 3, 4, 5, 6, 7, 8], [8, 10])])
def fcomes.B9 : List Nat := [0, 0, 2, 6, 14, 0, 32, 96, 254, 511, 1023, 2047]
theorem fcomes.tab9 : rtab .any (opsOf Try.f27 9) = fcomes.T9 := by kernel_rfl
theorem fcomes.bits9 : waitsOk fcomes.T9.2 fcomes.B9 = true := by kernel_rfl
def comesF (fs : List Fl) (tn : List Int) (fl sz : Int) : Option ((Int × Int × Int) × List Fl × List Int) :=
  if fl < 0 ∨ (fs.length : Int) ≤ fl ∨ 1500 < sz then some ((2, 0, 0), fs, tn)
  else if fs.length < 1000 ∧ tn.length < 1000000 ∧ (fs.getD fl.toNat ⟨0, [], 0, false⟩).ws.length < 1000000 then
    (if (fs.getD fl.toNat ⟨0, [], 0, false⟩).ws.length = 40 then some ((9, 0, 0), fs, tn)
     else some ((0, 0, 0), upd fs fl.toNat (fun z => { z with ws := z.ws ++ [sz] }), if (fs.getD fl.toNat ⟨0, [], 0, false⟩).ws.length = 0 then tn ++ [fl] else tn))
  else none
set_option maxHeartbeats 40000000 in
set_option maxRecDepth 100000 in
theorem comes_calls (w0 W : World) (b g cf : Nat) (vt : Value) (f : Nat → Nat) (vs : Nat → Value) (fs : List Fl) (tn : List Int) (fl sz : Int) (o : Int × Int × Int) (fs' : List Fl) (tn' : List Int)
    (hx : RX w0 W b g cf vt f vs fs tn) (hB : Below w0.heap.size w0 W) (h : comesF fs tn fl sz = some (o, fs', tn')) :
    Calls Try.prog 27 #[.pointer (some ⟨b, 0, none⟩), .agg #[.int .i64 fl, .int .i64 sz]] W (RPost w0 W b o fs' tn') := by
  unfold comesF at h
  have HX := Aside0.mk hx
  have HB := Aside0.mk hB
  have HH := Aside0.mk h
  clear hx hB h
  go_enter Try.func27, Try.ntmps27
  go_upto_region 1 with (fail)
  obtain ⟨W1, hW1⟩ : ∃ w, (W.alloc (Obj.cells #[.int .i64 fl, .int .i64 sz] 35)).alloc (Obj.cells #[.int .i64 0, .int .i64 0, .int .i64 0] 29) = w := ⟨_, rfl⟩
  try rw [hW1]
  obtain ⟨b3, hb3⟩ : ∃ k, W.heap.size = k := ⟨_, rfl⟩
  obtain ⟨b4, hb4⟩ : ∃ k, W.heap.size + 1 = k := ⟨_, rfl⟩
  try rw [hb4]
  have HZ1 : Aside0 (W1.heap[b4]? = some (.cells #[.int .i64 0, .int .i64 0, .int .i64 0] 29 (0, 0))) := ⟨by rw [← hW1, ← hb4]; have := heap_alloc_new (W.alloc (Obj.cells #[.int .i64 fl, .int .i64 sz] 35)) (Obj.cells #[.int .i64 0, .int .i64 0, .int .i64 0] 29); simpa using this⟩
  have HF1 : Aside0 (W1.heap[b3]? = some (.cells #[.int .i64 fl, .int .i64 sz] 35 (0, 0))) := ⟨by rw [← hW1, ← hb3]; exact ((below_alloc (Below.refl (W.alloc (Obj.cells #[.int .i64 fl, .int .i64 sz] 35)).heap.size _) _).block W.heap.size (by simp)).trans (heap_alloc_new W _)⟩
  have hl_ : Below W.heap.size W W1 := by rw [← hW1]; exact below_alloc (below_alloc (Below.refl _ _) _) _
  have HX1 := Aside0.mk (HX.out.below hl_)
  have HK1 := Aside0.mk ((Keeps.refl W).below hl_)
  have HB1 := Aside0.mk (below_then HB.out HB.out.size hl_)
  have HB4 : Aside0 (W.heap.size ≤ b4) := ⟨by omega⟩
  rw [hb3]
  clear hW1 hb4 hb3 hl_
  have hF0 := (blk_cell HF1.out 0).trans rfl
  have hF1 := (blk_cell HF1.out 1).trans rfl
  have hfl1 := HX1.out.flows
  by_cases h0 : fl < 0
  · have e0_ : decide (fl < 0) = true := decide_eq_true h0
    have hHH := HH.out
    rw [if_pos (.inl h0)] at hHH
    simp only [Option.some.injEq, Prod.mk.injEq] at hHH
    obtain ⟨rfl, rfl, rfl⟩ := hHH
    clear h0
    refine start_ (n := 18) (S := fun w' => w'.cell? ⟨b3, 0, none⟩ = some (.int .i64 fl) ∧ w'.cell? ⟨b3, 1, none⟩ = some (.int .i64 sz) ∧ w'.cell? ⟨b, 0, none⟩ = some (.slice (some ⟨g, 0, none⟩) fs.length cf)) (ds := []) #[false, false, false, false, false, false, false, false, false, false, false, false, false, false, false, false, false, false] (by kernel_rfl) rfl rfl ⟨hF0, hF1, hfl1⟩ (fun hHeld => ?_)
    refine with_tabW fcomes.tab1 fcomes.bits1 (fun HT_ HW_ => ?_)
    obtain ⟨W2, hw_⟩ : ∃ w, w = W1.drew := ⟨_, rfl⟩
    have hl_ : Below W1.heap.size W1 W2 := by rw [hw_]; exact below_drew1 (Below.refl _ _)
    rw [← hw_] at hHeld ⊢
    have HX2 := Aside0.mk (HX1.out.below hl_)
    have HK2 := Aside0.mk (HK1.out.below hl_)
    have HB2 := Aside0.mk (below_then HB1.out HB1.out.size hl_)
    have HF2 := Aside0.mk (blk_below HF1.out hl_)
    have HZ2 := Aside0.mk (blk_below HZ1.out hl_)
    clear hw_ hl_
    refine pure_ (i := 0) (N := some 6) (v := ?_) (a' := ?_) #[true, false, false, false, false, false, false, false, false, false, false, false, false, false, false, false, false, false] rfl rfl (any_of HT_.out (by kernel_rfl)) (fun _ _ _ h => h) (Or.inl ⟨by rfl, ?_⟩) ?_ ?_
    rotate_left
    · intro w'
      go_simp
      with_reducible rfl
    rotate_left
    · simp only [Act.put, List.setIfInBounds_toArray, List.set_cons_zero, List.set_cons_succ, i64_w, i32_w]
      rfl
    refine take_ (i := 1) (N := some 7) (v := ?_) (a' := ?_) #[true, true, false, false, false, false, false, false, false, false, false, false, false, false, false, false, false, false] rfl rfl (take_ofW HT_.out HW_.out (by kernel_rfl)) (fun _ _ _ h => h) (Or.inl ⟨by rfl, ?_⟩) hHeld ?_ ?_
    rotate_left
    · rintro w' ⟨s0, s1, s2⟩
      go_simp
      with_reducible rfl
    rotate_left
    · simp only [Act.put, List.setIfInBounds_toArray, List.set_cons_zero, List.set_cons_succ, i64_w, i32_w]
      rfl
    refine pure_ (i := 2) (N := some 8) (v := ?_) (a' := ?_) #[true, true, true, false, false, false, false, false, false, false, false, false, false, false, false, false, false, false] rfl rfl (any_of HT_.out (by kernel_rfl)) (fun _ _ _ h => h) (Or.inl ⟨by rfl, ?_⟩) ?_ ?_
    rotate_left
    · intro w'
      go_simp
      with_reducible rfl
    rotate_left
    · simp only [Act.put, List.setIfInBounds_toArray, List.set_cons_zero, List.set_cons_succ, i64_w, i32_w]
      rfl
    refine pure_ (i := 3) (N := some 9) (v := ?_) (a' := ?_) #[true, true, true, true, false, false, false, false, false, false, false, false, false, false, false, false, false, false] rfl rfl (any_of HT_.out (by kernel_rfl)) (fun _ _ _ h => h) (Or.inl ⟨by rfl, ?_⟩) ?_ ?_
    rotate_left
    · intro w'
      go_simp
      with_reducible rfl
    rotate_left
    · simp only [Act.put, List.setIfInBounds_toArray, List.set_cons_zero, List.set_cons_succ, i64_w, i32_w]
      rfl
    refine pure_ (i := 4) (N := some 10) (v := undef) (a' := ?_) #[true, true, true, true, true, false, false, false, false, false, false, false, false, false, false, false, false, false] rfl rfl (any_of HT_.out (by kernel_rfl)) (fun _ _ _ h => h) (Or.inr ⟨by rfl, rfl⟩) ?_ ?_
    rotate_left
    · simp only [Act.put, List.setIfInBounds_toArray, List.set_cons_zero, List.set_cons_succ, i64_w, i32_w]
      rfl
    refine pure_ (i := 5) (N := some 11) (v := undef) (a' := ?_) #[true, true, true, true, true, true, false, false, false, false, false, false, false, false, false, false, false, false] rfl rfl (any_of HT_.out (by kernel_rfl)) (fun _ _ _ h => h) (Or.inr ⟨by rfl, rfl⟩) ?_ ?_
    rotate_left
    · simp only [Act.put, List.setIfInBounds_toArray, List.set_cons_zero, List.set_cons_succ, i64_w, i32_w]
      rfl
    refine pure_ (i := 6) (N := some 12) (v := undef) (a' := ?_) #[true, true, true, true, true, true, true, false, false, false, false, false, false, false, false, false, false, false] rfl rfl (any_of HT_.out (by kernel_rfl)) (fun _ _ _ h => h) (Or.inr ⟨by rfl, rfl⟩) ?_ ?_
    rotate_left
    · simp only [Act.put, List.setIfInBounds_toArray, List.set_cons_zero, List.set_cons_succ, i64_w, i32_w]
      rfl
    refine pure_ (i := 7) (N := some 13) (v := undef) (a' := ?_) #[true, true, true, true, true, true, true, true, false, false, false, false, false, false, false, false, false, false] rfl rfl (any_of HT_.out (by kernel_rfl)) (fun _ _ _ h => h) (Or.inr ⟨by rfl, rfl⟩) ?_ ?_
    rotate_left
    · simp only [Act.put, List.setIfInBounds_toArray, List.set_cons_zero, List.set_cons_succ, i64_w, i32_w]
      rfl
    refine pure_ (i := 8) (N := some 14) (v := undef) (a' := ?_) #[true, true, true, true, true, true, true, true, true, false, false, false, false, false, false, false, false, false] rfl rfl (any_of HT_.out (by kernel_rfl)) (fun _ _ _ h => h) (Or.inr ⟨by rfl, rfl⟩) ?_ ?_
    rotate_left
    · simp only [Act.put, List.setIfInBounds_toArray, List.set_cons_zero, List.set_cons_succ, i64_w, i32_w]
      rfl
    refine pure_ (i := 9) (N := some 15) (v := undef) (a' := ?_) #[true, true, true, true, true, true, true, true, true, true, false, false, false, false, false, false, false, false] rfl rfl (any_of HT_.out (by kernel_rfl)) (fun _ _ _ h => h) (Or.inr ⟨by rfl, rfl⟩) ?_ ?_
    rotate_left
    · simp only [Act.put, List.setIfInBounds_toArray, List.set_cons_zero, List.set_cons_succ, i64_w, i32_w]
      rfl
    refine pure_ (i := 10) (N := some 16) (v := undef) (a' := ?_) #[true, true, true, true, true, true, true, true, true, true, true, false, false, false, false, false, false, false] rfl rfl (any_of HT_.out (by kernel_rfl)) (fun _ _ _ h => h) (Or.inr ⟨by rfl, rfl⟩) ?_ ?_
    rotate_left
    · simp only [Act.put, List.setIfInBounds_toArray, List.set_cons_zero, List.set_cons_succ, i64_w, i32_w]
      rfl
    refine pure_ (i := 11) (N := some 17) (v := undef) (a' := ?_) #[true, true, true, true, true, true, true, true, true, true, true, true, false, false, false, false, false, false] rfl rfl (any_of HT_.out (by kernel_rfl)) (fun _ _ _ h => h) (Or.inr ⟨by rfl, rfl⟩) ?_ ?_
    rotate_left
    · simp only [Act.put, List.setIfInBounds_toArray, List.set_cons_zero, List.set_cons_succ, i64_w, i32_w]
      rfl
    refine pure_ (i := 12) (N := some 18) (v := ?_) (a' := ?_) #[true, true, true, true, true, true, true, true, true, true, true, true, true, false, false, false, false, false] rfl rfl (any_of HT_.out (by kernel_rfl)) (fun _ _ _ h => h) (Or.inl ⟨by rfl, ?_⟩) ?_ ?_
    rotate_left
    · intro w'
      go_simp
      with_reducible rfl
    rotate_left
    · simp only [Act.put, List.setIfInBounds_toArray, List.set_cons_zero, List.set_cons_succ, i64_w, i32_w]
      rfl
    refine pure_ (i := 13) (N := some 19) (v := ?_) (a' := ?_) #[true, true, true, true, true, true, true, true, true, true, true, true, true, true, false, false, false, false] rfl rfl (any_of HT_.out (by kernel_rfl)) (fun _ _ _ h => h) (Or.inl ⟨by rfl, ?_⟩) ?_ ?_
    rotate_left
    · intro w'
      go_simp
      with_reducible rfl
    rotate_left
    · simp only [Act.put, List.setIfInBounds_toArray, List.set_cons_zero, List.set_cons_succ, i64_w, i32_w]
      rfl
    refine pure_ (i := 14) (N := some 20) (v := undef) (a' := ?_) #[true, true, true, true, true, true, true, true, true, true, true, true, true, true, true, false, false, false] rfl rfl (any_of HT_.out (by kernel_rfl)) (fun _ _ _ h => h) (Or.inr ⟨by rfl, rfl⟩) ?_ ?_
    rotate_left
    · simp only [Act.put, List.setIfInBounds_toArray, List.set_cons_zero, List.set_cons_succ, i64_w, i32_w]
      rfl
    refine pure_ (i := 15) (N := some 21) (v := undef) (a' := ?_) #[true, true, true, true, true, true, true, true, true, true, true, true, true, true, true, true, false, false] rfl rfl (any_of HT_.out (by kernel_rfl)) (fun _ _ _ h => h) (Or.inr ⟨by rfl, rfl⟩) ?_ ?_
    rotate_left
    · simp only [Act.put, List.setIfInBounds_toArray, List.set_cons_zero, List.set_cons_succ, i64_w, i32_w]
      rfl
    refine pure_ (i := 16) (N := some 22) (v := undef) (a' := ?_) #[true, true, true, true, true, true, true, true, true, true, true, true, true, true, true, true, true, false] rfl rfl (any_of HT_.out (by kernel_rfl)) (fun _ _ _ h => h) (Or.inr ⟨by rfl, rfl⟩) ?_ ?_
    rotate_left
    · simp only [Act.put, List.setIfInBounds_toArray, List.set_cons_zero, List.set_cons_succ, i64_w, i32_w]
      rfl
    refine pure_ (i := 17) (N := some 23) (v := ?_) (a' := ?_) #[true, true, true, true, true, true, true, true, true, true, true, true, true, true, true, true, true, true] rfl rfl (any_of HT_.out (by kernel_rfl)) (fun _ _ _ h => h) (Or.inl ⟨by rfl, ?_⟩) ?_ ?_
    rotate_left
    · intro w'
      go_simp
      with_reducible rfl
    rotate_left
    · simp only [Act.put, List.setIfInBounds_toArray, List.set_cons_zero, List.set_cons_succ, i64_w, i32_w]
      rfl
    refine done_ (done_of HT_.out (by kernel_rfl)) ?_
    have hz0 := (blk_cell HZ2.out 0).trans rfl
    have hz1 := (blk_cell HZ2.out 1).trans rfl
    have hz2 := (blk_cell HZ2.out 2).trans rfl
    have hf0 := blk_frozen HZ2.out 0
    have hf1 := blk_frozen HZ2.out 1
    have hf2 := blk_frozen HZ2.out 2
    clear hF0 hF1 hfl1
    go_wp2_with (first | ((with_reducible refine gate_callee (f := 28) rfl ?_); refine goesL_ (some 24) rfl rfl Try.func28 (by kernel_rfl) rfl #[.int .i64 2] rfl (by (try simp only [List.map_toArray, List.map_cons, List.map_nil]); first | done | rfl) ?_; refine (fair_no.calls 2 2 0 0 _ (by rfl)).mono ?_; rintro e' W9 ⟨rfl, hl_⟩; refine ⟨_, rfl, ?_⟩; have HX9 := Aside0.mk (HX2.out.below hl_); have HK9 := Aside0.mk (HK2.out.below hl_); have HB9 := Aside0.mk (below_then HB2.out HB2.out.size hl_); have HZ9 := Aside0.mk (blk_below HZ2.out hl_); have hz0_ := (blk_cell HZ9.out 0).trans rfl; have hz1_ := (blk_cell HZ9.out 1).trans rfl; have hz2_ := (blk_cell HZ9.out 2).trans rfl; have hf0_ := blk_frozen HZ9.out 0; have hf1_ := blk_frozen HZ9.out 1; have hf2_ := blk_frozen HZ9.out 2; clear hl_))
    (try simp only [Exit.inBlock, Exit.then])
    refine bodyPost_ret (results_cell_row rfl _ _ b4 29 #[.int .i64 2, .int .i64 0, .int .i64 0] (0, 0) _ rfl (set_three HZ9.out) Try.underlying29 rfl (by kernel_rfl)) rfl ?_
    refine ⟨rfl, ⟨g, cf, _, _, _, HX9.out.three (c0 := .int .i64 2) (c1 := .int .i64 0) (c2 := .int .i64 0) HZ9.out⟩, ?_, keeps_three HK9.out HB4.out⟩
    exact below_set (below_set (below_set HB9.out (Nat.le_trans HB.out.size HB4.out)) (Nat.le_trans HB.out.size HB4.out)) (Nat.le_trans HB.out.size HB4.out)
  by_cases h1 : (fs.length : Int) ≤ fl
  · have e0_ : decide (fl < 0) = false := decide_eq_false h0
    have e1_ : decide ((fs.length : Int) ≤ fl) = true := decide_eq_true h1
    have hHH := HH.out
    rw [if_pos (.inr (.inl h1))] at hHH
    simp only [Option.some.injEq, Prod.mk.injEq] at hHH
    obtain ⟨rfl, rfl, rfl⟩ := hHH
    clear h0 h1
    refine start_ (n := 18) (S := fun w' => w'.cell? ⟨b3, 0, none⟩ = some (.int .i64 fl) ∧ w'.cell? ⟨b3, 1, none⟩ = some (.int .i64 sz) ∧ w'.cell? ⟨b, 0, none⟩ = some (.slice (some ⟨g, 0, none⟩) fs.length cf)) (ds := []) #[false, false, false, false, false, false, false, false, false, false, false, false, false, false, false, false, false, false] (by kernel_rfl) rfl rfl ⟨hF0, hF1, hfl1⟩ (fun hHeld => ?_)
    refine with_tabW fcomes.tab1 fcomes.bits1 (fun HT_ HW_ => ?_)
    obtain ⟨W2, hw_⟩ : ∃ w, w = W1.drew := ⟨_, rfl⟩
    have hl_ : Below W1.heap.size W1 W2 := by rw [hw_]; exact below_drew1 (Below.refl _ _)
    rw [← hw_] at hHeld ⊢
    have HX2 := Aside0.mk (HX1.out.below hl_)
    have HK2 := Aside0.mk (HK1.out.below hl_)
    have HB2 := Aside0.mk (below_then HB1.out HB1.out.size hl_)
    have HF2 := Aside0.mk (blk_below HF1.out hl_)
    have HZ2 := Aside0.mk (blk_below HZ1.out hl_)
    clear hw_ hl_
    refine pure_ (i := 0) (N := some 6) (v := ?_) (a' := ?_) #[true, false, false, false, false, false, false, false, false, false, false, false, false, false, false, false, false, false] rfl rfl (any_of HT_.out (by kernel_rfl)) (fun _ _ _ h => h) (Or.inl ⟨by rfl, ?_⟩) ?_ ?_
    rotate_left
    · intro w'
      go_simp
      with_reducible rfl
    rotate_left
    · simp only [Act.put, List.setIfInBounds_toArray, List.set_cons_zero, List.set_cons_succ, i64_w, i32_w]
      rfl
    refine take_ (i := 1) (N := some 7) (v := ?_) (a' := ?_) #[true, true, false, false, false, false, false, false, false, false, false, false, false, false, false, false, false, false] rfl rfl (take_ofW HT_.out HW_.out (by kernel_rfl)) (fun _ _ _ h => h) (Or.inl ⟨by rfl, ?_⟩) hHeld ?_ ?_
    rotate_left
    · rintro w' ⟨s0, s1, s2⟩
      go_simp
      with_reducible rfl
    rotate_left
    · simp only [Act.put, List.setIfInBounds_toArray, List.set_cons_zero, List.set_cons_succ, i64_w, i32_w]
      rfl
    refine pure_ (i := 2) (N := some 8) (v := ?_) (a' := ?_) #[true, true, true, false, false, false, false, false, false, false, false, false, false, false, false, false, false, false] rfl rfl (any_of HT_.out (by kernel_rfl)) (fun _ _ _ h => h) (Or.inl ⟨by rfl, ?_⟩) ?_ ?_
    rotate_left
    · intro w'
      go_simp
      with_reducible rfl
    rotate_left
    · simp only [Act.put, List.setIfInBounds_toArray, List.set_cons_zero, List.set_cons_succ, i64_w, i32_w]
      rfl
    refine pure_ (i := 3) (N := some 9) (v := ?_) (a' := ?_) #[true, true, true, true, false, false, false, false, false, false, false, false, false, false, false, false, false, false] rfl rfl (any_of HT_.out (by kernel_rfl)) (fun _ _ _ h => h) (Or.inl ⟨by rfl, ?_⟩) ?_ ?_
    rotate_left
    · intro w'
      go_simp
      with_reducible rfl
    rotate_left
    · simp only [Act.put, List.setIfInBounds_toArray, List.set_cons_zero, List.set_cons_succ, i64_w, i32_w]
      rfl
    refine pure_ (i := 4) (N := some 10) (v := ?_) (a' := ?_) #[true, true, true, true, true, false, false, false, false, false, false, false, false, false, false, false, false, false] rfl rfl (any_of HT_.out (by kernel_rfl)) (fun _ _ _ h => h) (Or.inl ⟨by rfl, ?_⟩) ?_ ?_
    rotate_left
    · intro w'
      go_simp
      with_reducible rfl
    rotate_left
    · simp only [Act.put, List.setIfInBounds_toArray, List.set_cons_zero, List.set_cons_succ, i64_w, i32_w]
      rfl
    refine pure_ (i := 6) (N := some 12) (v := ?_) (a' := ?_) #[true, true, true, true, true, false, true, false, false, false, false, false, false, false, false, false, false, false] rfl rfl (any_of HT_.out (by kernel_rfl)) (fun _ _ _ h => h) (Or.inl ⟨by rfl, ?_⟩) ?_ ?_
    rotate_left
    · intro w'
      go_simp
      with_reducible rfl
    rotate_left
    · simp only [Act.put, List.setIfInBounds_toArray, List.set_cons_zero, List.set_cons_succ, i64_w, i32_w]
      rfl
    refine pure_ (i := 7) (N := some 13) (v := ?_) (a' := ?_) #[true, true, true, true, true, false, true, true, false, false, false, false, false, false, false, false, false, false] rfl rfl (any_of HT_.out (by kernel_rfl)) (fun _ _ _ h => h) (Or.inl ⟨by rfl, ?_⟩) ?_ ?_
    rotate_left
    · intro w'
      go_simp
      with_reducible rfl
    rotate_left
    · simp only [Act.put, List.setIfInBounds_toArray, List.set_cons_zero, List.set_cons_succ, i64_w, i32_w]
      rfl
    refine pure_ (i := 8) (N := some 14) (v := ?_) (a' := ?_) #[true, true, true, true, true, false, true, true, true, false, false, false, false, false, false, false, false, false] rfl rfl (any_of HT_.out (by kernel_rfl)) (fun _ _ _ h => h) (Or.inl ⟨by rfl, ?_⟩) ?_ ?_
    rotate_left
    · intro w'
      go_simp
      with_reducible rfl
    rotate_left
    · simp only [Act.put, List.setIfInBounds_toArray, List.set_cons_zero, List.set_cons_succ, i64_w, i32_w]
      rfl
    refine take_ (i := 5) (N := some 11) (v := ?_) (a' := ?_) #[true, true, true, true, true, true, true, true, true, false, false, false, false, false, false, false, false, false] rfl rfl (take_ofW HT_.out HW_.out (by kernel_rfl)) (fun _ _ _ h => h) (Or.inl ⟨by rfl, ?_⟩) hHeld ?_ ?_
    rotate_left
    · rintro w' ⟨s0, s1, s2⟩
      go_simp
      with_reducible rfl
    rotate_left
    · simp only [Act.put, List.setIfInBounds_toArray, List.set_cons_zero, List.set_cons_succ, i64_w, i32_w]
      rfl
    refine take_ (i := 9) (N := some 15) (v := ?_) (a' := ?_) #[true, true, true, true, true, true, true, true, true, true, false, false, false, false, false, false, false, false] rfl rfl (take_ofW HT_.out HW_.out (by kernel_rfl)) (fun _ _ _ h => h) (Or.inl ⟨by rfl, ?_⟩) hHeld ?_ ?_
    rotate_left
    · rintro w' ⟨s0, s1, s2⟩
      go_simp
      with_reducible rfl
    rotate_left
    · simp only [Act.put, List.setIfInBounds_toArray, List.set_cons_zero, List.set_cons_succ, i64_w, i32_w]
      rfl
    refine pure_ (i := 10) (N := some 16) (v := ?_) (a' := ?_) #[true, true, true, true, true, true, true, true, true, true, true, false, false, false, false, false, false, false] rfl rfl (any_of HT_.out (by kernel_rfl)) (fun _ _ _ h => h) (Or.inl ⟨by rfl, ?_⟩) ?_ ?_
    rotate_left
    · intro w'
      go_simp
      with_reducible rfl
    rotate_left
    · simp only [Act.put, List.setIfInBounds_toArray, List.set_cons_zero, List.set_cons_succ, i64_w, i32_w]
      rfl
    refine pure_ (i := 11) (N := some 17) (v := ?_) (a' := ?_) #[true, true, true, true, true, true, true, true, true, true, true, true, false, false, false, false, false, false] rfl rfl (any_of HT_.out (by kernel_rfl)) (fun _ _ _ h => h) (Or.inl ⟨by rfl, ?_⟩) ?_ ?_
    rotate_left
    · intro w'
      go_simp
      with_reducible rfl
    rotate_left
    · simp only [Act.put, List.setIfInBounds_toArray, List.set_cons_zero, List.set_cons_succ, i64_w, i32_w]
      rfl
    refine pure_ (i := 12) (N := some 18) (v := ?_) (a' := ?_) #[true, true, true, true, true, true, true, true, true, true, true, true, true, false, false, false, false, false] rfl rfl (any_of HT_.out (by kernel_rfl)) (fun _ _ _ h => h) (Or.inl ⟨by rfl, ?_⟩) ?_ ?_
    rotate_left
    · intro w'
      go_simp
      with_reducible rfl
    rotate_left
    · simp only [Act.put, List.setIfInBounds_toArray, List.set_cons_zero, List.set_cons_succ, i64_w, i32_w]
      rfl
    refine pure_ (i := 13) (N := some 19) (v := ?_) (a' := ?_) #[true, true, true, true, true, true, true, true, true, true, true, true, true, true, false, false, false, false] rfl rfl (any_of HT_.out (by kernel_rfl)) (fun _ _ _ h => h) (Or.inl ⟨by rfl, ?_⟩) ?_ ?_
    rotate_left
    · intro w'
      go_simp
      with_reducible rfl
    rotate_left
    · simp only [Act.put, List.setIfInBounds_toArray, List.set_cons_zero, List.set_cons_succ, i64_w, i32_w]
      rfl
    refine pure_ (i := 14) (N := some 20) (v := undef) (a' := ?_) #[true, true, true, true, true, true, true, true, true, true, true, true, true, true, true, false, false, false] rfl rfl (any_of HT_.out (by kernel_rfl)) (fun _ _ _ h => h) (Or.inr ⟨by rfl, rfl⟩) ?_ ?_
    rotate_left
    · simp only [Act.put, List.setIfInBounds_toArray, List.set_cons_zero, List.set_cons_succ, i64_w, i32_w]
      rfl
    refine pure_ (i := 15) (N := some 21) (v := undef) (a' := ?_) #[true, true, true, true, true, true, true, true, true, true, true, true, true, true, true, true, false, false] rfl rfl (any_of HT_.out (by kernel_rfl)) (fun _ _ _ h => h) (Or.inr ⟨by rfl, rfl⟩) ?_ ?_
    rotate_left
    · simp only [Act.put, List.setIfInBounds_toArray, List.set_cons_zero, List.set_cons_succ, i64_w, i32_w]
      rfl
    refine pure_ (i := 16) (N := some 22) (v := undef) (a' := ?_) #[true, true, true, true, true, true, true, true, true, true, true, true, true, true, true, true, true, false] rfl rfl (any_of HT_.out (by kernel_rfl)) (fun _ _ _ h => h) (Or.inr ⟨by rfl, rfl⟩) ?_ ?_
    rotate_left
    · simp only [Act.put, List.setIfInBounds_toArray, List.set_cons_zero, List.set_cons_succ, i64_w, i32_w]
      rfl
    refine pure_ (i := 17) (N := some 23) (v := ?_) (a' := ?_) #[true, true, true, true, true, true, true, true, true, true, true, true, true, true, true, true, true, true] rfl rfl (any_of HT_.out (by kernel_rfl)) (fun _ _ _ h => h) (Or.inl ⟨by rfl, ?_⟩) ?_ ?_
    rotate_left
    · intro w'
      go_simp
      with_reducible rfl
    rotate_left
    · simp only [Act.put, List.setIfInBounds_toArray, List.set_cons_zero, List.set_cons_succ, i64_w, i32_w]
      rfl
    refine done_ (done_of HT_.out (by kernel_rfl)) ?_
    have hz0 := (blk_cell HZ2.out 0).trans rfl
    have hz1 := (blk_cell HZ2.out 1).trans rfl
    have hz2 := (blk_cell HZ2.out 2).trans rfl
    have hf0 := blk_frozen HZ2.out 0
    have hf1 := blk_frozen HZ2.out 1
    have hf2 := blk_frozen HZ2.out 2
    clear hF0 hF1 hfl1
    go_wp2_with (first | ((with_reducible refine gate_callee (f := 28) rfl ?_); refine goesL_ (some 24) rfl rfl Try.func28 (by kernel_rfl) rfl #[.int .i64 2] rfl (by (try simp only [List.map_toArray, List.map_cons, List.map_nil]); first | done | rfl) ?_; refine (fair_no.calls 2 2 0 0 _ (by rfl)).mono ?_; rintro e' W9 ⟨rfl, hl_⟩; refine ⟨_, rfl, ?_⟩; have HX9 := Aside0.mk (HX2.out.below hl_); have HK9 := Aside0.mk (HK2.out.below hl_); have HB9 := Aside0.mk (below_then HB2.out HB2.out.size hl_); have HZ9 := Aside0.mk (blk_below HZ2.out hl_); have hz0_ := (blk_cell HZ9.out 0).trans rfl; have hz1_ := (blk_cell HZ9.out 1).trans rfl; have hz2_ := (blk_cell HZ9.out 2).trans rfl; have hf0_ := blk_frozen HZ9.out 0; have hf1_ := blk_frozen HZ9.out 1; have hf2_ := blk_frozen HZ9.out 2; clear hl_))
    (try simp only [Exit.inBlock, Exit.then])
    refine bodyPost_ret (results_cell_row rfl _ _ b4 29 #[.int .i64 2, .int .i64 0, .int .i64 0] (0, 0) _ rfl (set_three HZ9.out) Try.underlying29 rfl (by kernel_rfl)) rfl ?_
    refine ⟨rfl, ⟨g, cf, _, _, _, HX9.out.three (c0 := .int .i64 2) (c1 := .int .i64 0) (c2 := .int .i64 0) HZ9.out⟩, ?_, keeps_three HK9.out HB4.out⟩
    exact below_set (below_set (below_set HB9.out (Nat.le_trans HB.out.size HB4.out)) (Nat.le_trans HB.out.size HB4.out)) (Nat.le_trans HB.out.size HB4.out)
  obtain ⟨i, hi⟩ : ∃ i : Nat, fl = (i : Int) := ⟨fl.toNat, by omega⟩
  subst hi
  have e0_ : decide ((i : Int) < 0) = false := decide_eq_false h0
  have e1_ : decide ((fs.length : Int) ≤ (i : Int)) = false := decide_eq_false h1
  have e1n_ : decide (fs.length ≤ i) = false := decide_eq_false (by omega)
  have HI : Aside0 (i < fs.length) := ⟨by omega⟩
  by_cases h2 : 1500 < sz
  · have e2_ : decide (1500 < sz) = true := decide_eq_true h2
    have hHH := HH.out
    rw [if_pos (.inr (.inr h2))] at hHH
    simp only [Option.some.injEq, Prod.mk.injEq] at hHH
    obtain ⟨rfl, rfl, rfl⟩ := hHH
    clear h0 h1 h2
    refine start_ (n := 18) (S := fun w' => w'.cell? ⟨b3, 0, none⟩ = some (.int .i64 (i : Int)) ∧ w'.cell? ⟨b3, 1, none⟩ = some (.int .i64 sz) ∧ w'.cell? ⟨b, 0, none⟩ = some (.slice (some ⟨g, 0, none⟩) fs.length cf)) (ds := []) #[false, false, false, false, false, false, false, false, false, false, false, false, false, false, false, false, false, false] (by kernel_rfl) rfl rfl ⟨hF0, hF1, hfl1⟩ (fun hHeld => ?_)
    refine with_tabW fcomes.tab1 fcomes.bits1 (fun HT_ HW_ => ?_)
    obtain ⟨W2, hw_⟩ : ∃ w, w = W1.drew := ⟨_, rfl⟩
    have hl_ : Below W1.heap.size W1 W2 := by rw [hw_]; exact below_drew1 (Below.refl _ _)
    rw [← hw_] at hHeld ⊢
    have HX2 := Aside0.mk (HX1.out.below hl_)
    have HK2 := Aside0.mk (HK1.out.below hl_)
    have HB2 := Aside0.mk (below_then HB1.out HB1.out.size hl_)
    have HF2 := Aside0.mk (blk_below HF1.out hl_)
    have HZ2 := Aside0.mk (blk_below HZ1.out hl_)
    clear hw_ hl_
    refine pure_ (i := 0) (N := some 6) (v := ?_) (a' := ?_) #[true, false, false, false, false, false, false, false, false, false, false, false, false, false, false, false, false, false] rfl rfl (any_of HT_.out (by kernel_rfl)) (fun _ _ _ h => h) (Or.inl ⟨by rfl, ?_⟩) ?_ ?_
    rotate_left
    · intro w'
      go_simp
      with_reducible rfl
    rotate_left
    · simp only [Act.put, List.setIfInBounds_toArray, List.set_cons_zero, List.set_cons_succ, i64_w, i32_w]
      rfl
    refine take_ (i := 1) (N := some 7) (v := ?_) (a' := ?_) #[true, true, false, false, false, false, false, false, false, false, false, false, false, false, false, false, false, false] rfl rfl (take_ofW HT_.out HW_.out (by kernel_rfl)) (fun _ _ _ h => h) (Or.inl ⟨by rfl, ?_⟩) hHeld ?_ ?_
    rotate_left
    · rintro w' ⟨s0, s1, s2⟩
      go_simp
      with_reducible rfl
    rotate_left
    · simp only [Act.put, List.setIfInBounds_toArray, List.set_cons_zero, List.set_cons_succ, i64_w, i32_w]
      rfl
    refine pure_ (i := 2) (N := some 8) (v := ?_) (a' := ?_) #[true, true, true, false, false, false, false, false, false, false, false, false, false, false, false, false, false, false] rfl rfl (any_of HT_.out (by kernel_rfl)) (fun _ _ _ h => h) (Or.inl ⟨by rfl, ?_⟩) ?_ ?_
    rotate_left
    · intro w'
      go_simp
      with_reducible rfl
    rotate_left
    · simp only [Act.put, List.setIfInBounds_toArray, List.set_cons_zero, List.set_cons_succ, i64_w, i32_w]
      rfl
    refine pure_ (i := 3) (N := some 9) (v := ?_) (a' := ?_) #[true, true, true, true, false, false, false, false, false, false, false, false, false, false, false, false, false, false] rfl rfl (any_of HT_.out (by kernel_rfl)) (fun _ _ _ h => h) (Or.inl ⟨by rfl, ?_⟩) ?_ ?_
    rotate_left
    · intro w'
      go_simp
      with_reducible rfl
    rotate_left
    · simp only [Act.put, List.setIfInBounds_toArray, List.set_cons_zero, List.set_cons_succ, i64_w, i32_w]
      rfl
    refine pure_ (i := 4) (N := some 10) (v := ?_) (a' := ?_) #[true, true, true, true, true, false, false, false, false, false, false, false, false, false, false, false, false, false] rfl rfl (any_of HT_.out (by kernel_rfl)) (fun _ _ _ h => h) (Or.inl ⟨by rfl, ?_⟩) ?_ ?_
    rotate_left
    · intro w'
      go_simp
      with_reducible rfl
    rotate_left
    · simp only [Act.put, List.setIfInBounds_toArray, List.set_cons_zero, List.set_cons_succ, i64_w, i32_w]
      rfl
    refine pure_ (i := 6) (N := some 12) (v := ?_) (a' := ?_) #[true, true, true, true, true, false, true, false, false, false, false, false, false, false, false, false, false, false] rfl rfl (any_of HT_.out (by kernel_rfl)) (fun _ _ _ h => h) (Or.inl ⟨by rfl, ?_⟩) ?_ ?_
    rotate_left
    · intro w'
      go_simp
      with_reducible rfl
    rotate_left
    · simp only [Act.put, List.setIfInBounds_toArray, List.set_cons_zero, List.set_cons_succ, i64_w, i32_w]
      rfl
    refine pure_ (i := 7) (N := some 13) (v := ?_) (a' := ?_) #[true, true, true, true, true, false, true, true, false, false, false, false, false, false, false, false, false, false] rfl rfl (any_of HT_.out (by kernel_rfl)) (fun _ _ _ h => h) (Or.inl ⟨by rfl, ?_⟩) ?_ ?_
    rotate_left
    · intro w'
      go_simp
      with_reducible rfl
    rotate_left
    · simp only [Act.put, List.setIfInBounds_toArray, List.set_cons_zero, List.set_cons_succ, i64_w, i32_w]
      rfl
    refine pure_ (i := 8) (N := some 14) (v := ?_) (a' := ?_) #[true, true, true, true, true, false, true, true, true, false, false, false, false, false, false, false, false, false] rfl rfl (any_of HT_.out (by kernel_rfl)) (fun _ _ _ h => h) (Or.inl ⟨by rfl, ?_⟩) ?_ ?_
    rotate_left
    · intro w'
      go_simp
      with_reducible rfl
    rotate_left
    · simp only [Act.put, List.setIfInBounds_toArray, List.set_cons_zero, List.set_cons_succ, i64_w, i32_w]
      rfl
    refine take_ (i := 5) (N := some 11) (v := ?_) (a' := ?_) #[true, true, true, true, true, true, true, true, true, false, false, false, false, false, false, false, false, false] rfl rfl (take_ofW HT_.out HW_.out (by kernel_rfl)) (fun _ _ _ h => h) (Or.inl ⟨by rfl, ?_⟩) hHeld ?_ ?_
    rotate_left
    · rintro w' ⟨s0, s1, s2⟩
      go_simp
      with_reducible rfl
    rotate_left
    · simp only [Act.put, List.setIfInBounds_toArray, List.set_cons_zero, List.set_cons_succ, i64_w, i32_w]
      rfl
    refine take_ (i := 9) (N := some 15) (v := ?_) (a' := ?_) #[true, true, true, true, true, true, true, true, true, true, false, false, false, false, false, false, false, false] rfl rfl (take_ofW HT_.out HW_.out (by kernel_rfl)) (fun _ _ _ h => h) (Or.inl ⟨by rfl, ?_⟩) hHeld ?_ ?_
    rotate_left
    · rintro w' ⟨s0, s1, s2⟩
      go_simp
      with_reducible rfl
    rotate_left
    · simp only [Act.put, List.setIfInBounds_toArray, List.set_cons_zero, List.set_cons_succ, i64_w, i32_w]
      rfl
    refine pure_ (i := 10) (N := some 16) (v := ?_) (a' := ?_) #[true, true, true, true, true, true, true, true, true, true, true, false, false, false, false, false, false, false] rfl rfl (any_of HT_.out (by kernel_rfl)) (fun _ _ _ h => h) (Or.inl ⟨by rfl, ?_⟩) ?_ ?_
    rotate_left
    · intro w'
      go_simp
      with_reducible rfl
    rotate_left
    · simp only [Act.put, List.setIfInBounds_toArray, List.set_cons_zero, List.set_cons_succ, i64_w, i32_w]
      rfl
    refine pure_ (i := 11) (N := some 17) (v := ?_) (a' := ?_) #[true, true, true, true, true, true, true, true, true, true, true, true, false, false, false, false, false, false] rfl rfl (any_of HT_.out (by kernel_rfl)) (fun _ _ _ h => h) (Or.inl ⟨by rfl, ?_⟩) ?_ ?_
    rotate_left
    · intro w'
      go_simp
      with_reducible rfl
    rotate_left
    · simp only [Act.put, List.setIfInBounds_toArray, List.set_cons_zero, List.set_cons_succ, i64_w, i32_w]
      rfl
    refine pure_ (i := 12) (N := some 18) (v := ?_) (a' := ?_) #[true, true, true, true, true, true, true, true, true, true, true, true, true, false, false, false, false, false] rfl rfl (any_of HT_.out (by kernel_rfl)) (fun _ _ _ h => h) (Or.inl ⟨by rfl, ?_⟩) ?_ ?_
    rotate_left
    · intro w'
      go_simp
      with_reducible rfl
    rotate_left
    · simp only [Act.put, List.setIfInBounds_toArray, List.set_cons_zero, List.set_cons_succ, i64_w, i32_w]
      rfl
    refine pure_ (i := 13) (N := some 19) (v := ?_) (a' := ?_) #[true, true, true, true, true, true, true, true, true, true, true, true, true, true, false, false, false, false] rfl rfl (any_of HT_.out (by kernel_rfl)) (fun _ _ _ h => h) (Or.inl ⟨by rfl, ?_⟩) ?_ ?_
    rotate_left
    · intro w'
      go_simp
      with_reducible rfl
    rotate_left
    · simp only [Act.put, List.setIfInBounds_toArray, List.set_cons_zero, List.set_cons_succ, i64_w, i32_w]
      rfl
    refine pure_ (i := 14) (N := some 20) (v := ?_) (a' := ?_) #[true, true, true, true, true, true, true, true, true, true, true, true, true, true, true, false, false, false] rfl rfl (any_of HT_.out (by kernel_rfl)) (fun _ _ _ h => h) (Or.inl ⟨by rfl, ?_⟩) ?_ ?_
    rotate_left
    · intro w'
      go_simp
      with_reducible rfl
    rotate_left
    · simp only [Act.put, List.setIfInBounds_toArray, List.set_cons_zero, List.set_cons_succ, i64_w, i32_w]
      rfl
    refine take_ (i := 15) (N := some 21) (v := ?_) (a' := ?_) #[true, true, true, true, true, true, true, true, true, true, true, true, true, true, true, true, false, false] rfl rfl (take_ofW HT_.out HW_.out (by kernel_rfl)) (fun _ _ _ h => h) (Or.inl ⟨by rfl, ?_⟩) hHeld ?_ ?_
    rotate_left
    · rintro w' ⟨s0, s1, s2⟩
      go_simp
      with_reducible rfl
    rotate_left
    · simp only [Act.put, List.setIfInBounds_toArray, List.set_cons_zero, List.set_cons_succ, i64_w, i32_w]
      rfl
    refine pure_ (i := 16) (N := some 22) (v := ?_) (a' := ?_) #[true, true, true, true, true, true, true, true, true, true, true, true, true, true, true, true, true, false] rfl rfl (any_of HT_.out (by kernel_rfl)) (fun _ _ _ h => h) (Or.inl ⟨by rfl, ?_⟩) ?_ ?_
    rotate_left
    · intro w'
      go_simp
      with_reducible rfl
    rotate_left
    · simp only [Act.put, List.setIfInBounds_toArray, List.set_cons_zero, List.set_cons_succ, i64_w, i32_w]
      rfl
    refine pure_ (i := 17) (N := some 23) (v := ?_) (a' := ?_) #[true, true, true, true, true, true, true, true, true, true, true, true, true, true, true, true, true, true] rfl rfl (any_of HT_.out (by kernel_rfl)) (fun _ _ _ h => h) (Or.inl ⟨by rfl, ?_⟩) ?_ ?_
    rotate_left
    · intro w'
      go_simp
      with_reducible rfl
    rotate_left
    · simp only [Act.put, List.setIfInBounds_toArray, List.set_cons_zero, List.set_cons_succ, i64_w, i32_w]
      rfl
    refine done_ (done_of HT_.out (by kernel_rfl)) ?_
    have hz0 := (blk_cell HZ2.out 0).trans rfl
    have hz1 := (blk_cell HZ2.out 1).trans rfl
    have hz2 := (blk_cell HZ2.out 2).trans rfl
    have hf0 := blk_frozen HZ2.out 0
    have hf1 := blk_frozen HZ2.out 1
    have hf2 := blk_frozen HZ2.out 2
    clear hF0 hF1 hfl1
    go_wp2_with (first | ((with_reducible refine gate_callee (f := 28) rfl ?_); refine goesL_ (some 24) rfl rfl Try.func28 (by kernel_rfl) rfl #[.int .i64 2] rfl (by (try simp only [List.map_toArray, List.map_cons, List.map_nil]); first | done | rfl) ?_; refine (fair_no.calls 2 2 0 0 _ (by rfl)).mono ?_; rintro e' W9 ⟨rfl, hl_⟩; refine ⟨_, rfl, ?_⟩; have HX9 := Aside0.mk (HX2.out.below hl_); have HK9 := Aside0.mk (HK2.out.below hl_); have HB9 := Aside0.mk (below_then HB2.out HB2.out.size hl_); have HZ9 := Aside0.mk (blk_below HZ2.out hl_); have hz0_ := (blk_cell HZ9.out 0).trans rfl; have hz1_ := (blk_cell HZ9.out 1).trans rfl; have hz2_ := (blk_cell HZ9.out 2).trans rfl; have hf0_ := blk_frozen HZ9.out 0; have hf1_ := blk_frozen HZ9.out 1; have hf2_ := blk_frozen HZ9.out 2; clear hl_))
    (try simp only [Exit.inBlock, Exit.then])
    refine bodyPost_ret (results_cell_row rfl _ _ b4 29 #[.int .i64 2, .int .i64 0, .int .i64 0] (0, 0) _ rfl (set_three HZ9.out) Try.underlying29 rfl (by kernel_rfl)) rfl ?_
    refine ⟨rfl, ⟨g, cf, _, _, _, HX9.out.three (c0 := .int .i64 2) (c1 := .int .i64 0) (c2 := .int .i64 0) HZ9.out⟩, ?_, keeps_three HK9.out HB4.out⟩
    exact below_set (below_set (below_set HB9.out (Nat.le_trans HB.out.size HB4.out)) (Nat.le_trans HB.out.size HB4.out)) (Nat.le_trans HB.out.size HB4.out)
  have e2_ : decide (1500 < sz) = false := decide_eq_false h2
  have hHH := HH.out
  rw [if_neg (by omega)] at hHH
  split at hHH
  case isFalse => cases hHH
  rename_i hlim
  rw [Int.toNat_natCast] at hHH hlim
  obtain ⟨x, hxe⟩ : ∃ x, fs.getD i ⟨0, [], 0, false⟩ = x := ⟨_, rfl⟩
  rw [hxe] at hHH hlim
  have HXE := Aside0.mk hxe
  have HLIM := Aside0.mk hlim
  clear HH
  have HH := Aside0.mk hHH
  have p0 : ((0 : Int) ≤ (i : Int)) = True := eq_true (by omega)
  have q0 : ((i : Int) < (fs.length : Int)) = True := eq_true (by omega)
  have q0n : (i < fs.length) = True := eq_true HI.out
  clear h0 h1 h2 hHH hlim hxe
  refine start_ (n := 18) (S := fun w' => w'.cell? ⟨b3, 0, none⟩ = some (.int .i64 (i : Int)) ∧ w'.cell? ⟨b3, 1, none⟩ = some (.int .i64 sz) ∧ w'.cell? ⟨b, 0, none⟩ = some (.slice (some ⟨g, 0, none⟩) fs.length cf)) (ds := []) #[false, false, false, false, false, false, false, false, false, false, false, false, false, false, false, false, false, false] (by kernel_rfl) rfl rfl ⟨hF0, hF1, hfl1⟩ (fun hHeld => ?_)
  refine with_tabW fcomes.tab1 fcomes.bits1 (fun HT_ HW_ => ?_)
  obtain ⟨W2, hw_⟩ : ∃ w, w = W1.drew := ⟨_, rfl⟩
  have hl_ : Below W1.heap.size W1 W2 := by rw [hw_]; exact below_drew1 (Below.refl _ _)
  rw [← hw_] at hHeld ⊢
  have HX2 := Aside0.mk (HX1.out.below hl_)
  have HK2 := Aside0.mk (HK1.out.below hl_)
  have HB2 := Aside0.mk (below_then HB1.out HB1.out.size hl_)
  have HF2 := Aside0.mk (blk_below HF1.out hl_)
  have HZ2 := Aside0.mk (blk_below HZ1.out hl_)
  clear hw_ hl_
  refine pure_ (i := 0) (N := some 6) (v := ?_) (a' := ?_) #[true, false, false, false, false, false, false, false, false, false, false, false, false, false, false, false, false, false] rfl rfl (any_of HT_.out (by kernel_rfl)) (fun _ _ _ h => h) (Or.inl ⟨by rfl, ?_⟩) ?_ ?_
  rotate_left
  · intro w'
    go_simp
    with_reducible rfl
  rotate_left
  · simp only [Act.put, List.setIfInBounds_toArray, List.set_cons_zero, List.set_cons_succ, i64_w, i32_w]
    rfl
  refine take_ (i := 1) (N := some 7) (v := ?_) (a' := ?_) #[true, true, false, false, false, false, false, false, false, false, false, false, false, false, false, false, false, false] rfl rfl (take_ofW HT_.out HW_.out (by kernel_rfl)) (fun _ _ _ h => h) (Or.inl ⟨by rfl, ?_⟩) hHeld ?_ ?_
  rotate_left
  · rintro w' ⟨s0, s1, s2⟩
    go_simp
    with_reducible rfl
  rotate_left
  · simp only [Act.put, List.setIfInBounds_toArray, List.set_cons_zero, List.set_cons_succ, i64_w, i32_w]
    rfl
  refine pure_ (i := 2) (N := some 8) (v := ?_) (a' := ?_) #[true, true, true, false, false, false, false, false, false, false, false, false, false, false, false, false, false, false] rfl rfl (any_of HT_.out (by kernel_rfl)) (fun _ _ _ h => h) (Or.inl ⟨by rfl, ?_⟩) ?_ ?_
  rotate_left
  · intro w'
    go_simp
    with_reducible rfl
  rotate_left
  · simp only [Act.put, List.setIfInBounds_toArray, List.set_cons_zero, List.set_cons_succ, i64_w, i32_w]
    rfl
  refine pure_ (i := 3) (N := some 9) (v := ?_) (a' := ?_) #[true, true, true, true, false, false, false, false, false, false, false, false, false, false, false, false, false, false] rfl rfl (any_of HT_.out (by kernel_rfl)) (fun _ _ _ h => h) (Or.inl ⟨by rfl, ?_⟩) ?_ ?_
  rotate_left
  · intro w'
    go_simp
    with_reducible rfl
  rotate_left
  · simp only [Act.put, List.setIfInBounds_toArray, List.set_cons_zero, List.set_cons_succ, i64_w, i32_w]
    rfl
  refine pure_ (i := 4) (N := some 10) (v := ?_) (a' := ?_) #[true, true, true, true, true, false, false, false, false, false, false, false, false, false, false, false, false, false] rfl rfl (any_of HT_.out (by kernel_rfl)) (fun _ _ _ h => h) (Or.inl ⟨by rfl, ?_⟩) ?_ ?_
  rotate_left
  · intro w'
    go_simp
    with_reducible rfl
  rotate_left
  · simp only [Act.put, List.setIfInBounds_toArray, List.set_cons_zero, List.set_cons_succ, i64_w, i32_w]
    rfl
  refine pure_ (i := 6) (N := some 12) (v := ?_) (a' := ?_) #[true, true, true, true, true, false, true, false, false, false, false, false, false, false, false, false, false, false] rfl rfl (any_of HT_.out (by kernel_rfl)) (fun _ _ _ h => h) (Or.inl ⟨by rfl, ?_⟩) ?_ ?_
  rotate_left
  · intro w'
    go_simp
    with_reducible rfl
  rotate_left
  · simp only [Act.put, List.setIfInBounds_toArray, List.set_cons_zero, List.set_cons_succ, i64_w, i32_w]
    rfl
  refine pure_ (i := 7) (N := some 13) (v := ?_) (a' := ?_) #[true, true, true, true, true, false, true, true, false, false, false, false, false, false, false, false, false, false] rfl rfl (any_of HT_.out (by kernel_rfl)) (fun _ _ _ h => h) (Or.inl ⟨by rfl, ?_⟩) ?_ ?_
  rotate_left
  · intro w'
    go_simp
    with_reducible rfl
  rotate_left
  · simp only [Act.put, List.setIfInBounds_toArray, List.set_cons_zero, List.set_cons_succ, i64_w, i32_w]
    rfl
  refine pure_ (i := 8) (N := some 14) (v := ?_) (a' := ?_) #[true, true, true, true, true, false, true, true, true, false, false, false, false, false, false, false, false, false] rfl rfl (any_of HT_.out (by kernel_rfl)) (fun _ _ _ h => h) (Or.inl ⟨by rfl, ?_⟩) ?_ ?_
  rotate_left
  · intro w'
    go_simp
    with_reducible rfl
  rotate_left
  · simp only [Act.put, List.setIfInBounds_toArray, List.set_cons_zero, List.set_cons_succ, i64_w, i32_w]
    rfl
  refine take_ (i := 5) (N := some 11) (v := ?_) (a' := ?_) #[true, true, true, true, true, true, true, true, true, false, false, false, false, false, false, false, false, false] rfl rfl (take_ofW HT_.out HW_.out (by kernel_rfl)) (fun _ _ _ h => h) (Or.inl ⟨by rfl, ?_⟩) hHeld ?_ ?_
  rotate_left
  · rintro w' ⟨s0, s1, s2⟩
    go_simp
    with_reducible rfl
  rotate_left
  · simp only [Act.put, List.setIfInBounds_toArray, List.set_cons_zero, List.set_cons_succ, i64_w, i32_w]
    rfl
  refine take_ (i := 9) (N := some 15) (v := ?_) (a' := ?_) #[true, true, true, true, true, true, true, true, true, true, false, false, false, false, false, false, false, false] rfl rfl (take_ofW HT_.out HW_.out (by kernel_rfl)) (fun _ _ _ h => h) (Or.inl ⟨by rfl, ?_⟩) hHeld ?_ ?_
  rotate_left
  · rintro w' ⟨s0, s1, s2⟩
    go_simp
    with_reducible rfl
  rotate_left
  · simp only [Act.put, List.setIfInBounds_toArray, List.set_cons_zero, List.set_cons_succ, i64_w, i32_w]
    rfl
  refine pure_ (i := 10) (N := some 16) (v := ?_) (a' := ?_) #[true, true, true, true, true, true, true, true, true, true, true, false, false, false, false, false, false, false] rfl rfl (any_of HT_.out (by kernel_rfl)) (fun _ _ _ h => h) (Or.inl ⟨by rfl, ?_⟩) ?_ ?_
  rotate_left
  · intro w'
    go_simp
    with_reducible rfl
  rotate_left
  · simp only [Act.put, List.setIfInBounds_toArray, List.set_cons_zero, List.set_cons_succ, i64_w, i32_w]
    rfl
  refine pure_ (i := 11) (N := some 17) (v := ?_) (a' := ?_) #[true, true, true, true, true, true, true, true, true, true, true, true, false, false, false, false, false, false] rfl rfl (any_of HT_.out (by kernel_rfl)) (fun _ _ _ h => h) (Or.inl ⟨by rfl, ?_⟩) ?_ ?_
  rotate_left
  · intro w'
    go_simp
    with_reducible rfl
  rotate_left
  · simp only [Act.put, List.setIfInBounds_toArray, List.set_cons_zero, List.set_cons_succ, i64_w, i32_w]
    rfl
  refine pure_ (i := 12) (N := some 18) (v := ?_) (a' := ?_) #[true, true, true, true, true, true, true, true, true, true, true, true, true, false, false, false, false, false] rfl rfl (any_of HT_.out (by kernel_rfl)) (fun _ _ _ h => h) (Or.inl ⟨by rfl, ?_⟩) ?_ ?_
  rotate_left
  · intro w'
    go_simp
    with_reducible rfl
  rotate_left
  · simp only [Act.put, List.setIfInBounds_toArray, List.set_cons_zero, List.set_cons_succ, i64_w, i32_w]
    rfl
  refine pure_ (i := 13) (N := some 19) (v := ?_) (a' := ?_) #[true, true, true, true, true, true, true, true, true, true, true, true, true, true, false, false, false, false] rfl rfl (any_of HT_.out (by kernel_rfl)) (fun _ _ _ h => h) (Or.inl ⟨by rfl, ?_⟩) ?_ ?_
  rotate_left
  · intro w'
    go_simp
    with_reducible rfl
  rotate_left
  · simp only [Act.put, List.setIfInBounds_toArray, List.set_cons_zero, List.set_cons_succ, i64_w, i32_w]
    rfl
  refine pure_ (i := 14) (N := some 20) (v := ?_) (a' := ?_) #[true, true, true, true, true, true, true, true, true, true, true, true, true, true, true, false, false, false] rfl rfl (any_of HT_.out (by kernel_rfl)) (fun _ _ _ h => h) (Or.inl ⟨by rfl, ?_⟩) ?_ ?_
  rotate_left
  · intro w'
    go_simp
    with_reducible rfl
  rotate_left
  · simp only [Act.put, List.setIfInBounds_toArray, List.set_cons_zero, List.set_cons_succ, i64_w, i32_w]
    rfl
  refine take_ (i := 15) (N := some 21) (v := ?_) (a' := ?_) #[true, true, true, true, true, true, true, true, true, true, true, true, true, true, true, true, false, false] rfl rfl (take_ofW HT_.out HW_.out (by kernel_rfl)) (fun _ _ _ h => h) (Or.inl ⟨by rfl, ?_⟩) hHeld ?_ ?_
  rotate_left
  · rintro w' ⟨s0, s1, s2⟩
    go_simp
    with_reducible rfl
  rotate_left
  · simp only [Act.put, List.setIfInBounds_toArray, List.set_cons_zero, List.set_cons_succ, i64_w, i32_w]
    rfl
  refine pure_ (i := 16) (N := some 22) (v := ?_) (a' := ?_) #[true, true, true, true, true, true, true, true, true, true, true, true, true, true, true, true, true, false] rfl rfl (any_of HT_.out (by kernel_rfl)) (fun _ _ _ h => h) (Or.inl ⟨by rfl, ?_⟩) ?_ ?_
  rotate_left
  · intro w'
    go_simp
    with_reducible rfl
  rotate_left
  · simp only [Act.put, List.setIfInBounds_toArray, List.set_cons_zero, List.set_cons_succ, i64_w, i32_w]
    rfl
  refine pure_ (i := 17) (N := some 23) (v := ?_) (a' := ?_) #[true, true, true, true, true, true, true, true, true, true, true, true, true, true, true, true, true, true] rfl rfl (any_of HT_.out (by kernel_rfl)) (fun _ _ _ h => h) (Or.inl ⟨by rfl, ?_⟩) ?_ ?_
  rotate_left
  · intro w'
    go_simp
    with_reducible rfl
  rotate_left
  · simp only [Act.put, List.setIfInBounds_toArray, List.set_cons_zero, List.set_cons_succ, i64_w, i32_w]
    rfl
  refine done_ (done_of HT_.out (by kernel_rfl)) ?_
  clear hF0 hF1 hfl1
  go_upto_region 3 with (fail)
  have hF0 := (blk_cell HF2.out 0).trans rfl
  have hF1 := (blk_cell HF2.out 1).trans rfl
  have hfl1 := HX2.out.flows
  refine start_ (n := 8) (S := fun w' => w'.cell? ⟨b3, 0, none⟩ = some (.int .i64 (i : Int)) ∧ w'.cell? ⟨b3, 1, none⟩ = some (.int .i64 sz) ∧ w'.cell? ⟨b, 0, none⟩ = some (.slice (some ⟨g, 0, none⟩) fs.length cf)) (ds := []) #[false, false, false, false, false, false, false, false] (by kernel_rfl) rfl rfl ⟨hF0, hF1, hfl1⟩ (fun hHeld => ?_)
  refine with_tabW fcomes.tab3 fcomes.bits3 (fun HT_ HW_ => ?_)
  obtain ⟨W3, hw_⟩ : ∃ w, w = W2.drew := ⟨_, rfl⟩
  have hl_ : Below W2.heap.size W2 W3 := by rw [hw_]; exact below_drew1 (Below.refl _ _)
  rw [← hw_] at hHeld ⊢
  have HX3 := Aside0.mk (HX2.out.below hl_)
  have HK3 := Aside0.mk (HK2.out.below hl_)
  have HB3 := Aside0.mk (below_then HB2.out HB2.out.size hl_)
  have HF3 := Aside0.mk (blk_below HF2.out hl_)
  have HZ3 := Aside0.mk (blk_below HZ2.out hl_)
  clear hw_ hl_
  refine pure_ (i := 0) (N := some 25) (v := ?_) (a' := ?_) #[true, false, false, false, false, false, false, false] rfl rfl (any_of HT_.out (by kernel_rfl)) (fun _ _ _ h => h) (Or.inl ⟨by rfl, ?_⟩) ?_ ?_
  rotate_left
  · intro w'
    go_simp
    with_reducible rfl
  rotate_left
  · simp only [Act.put, List.setIfInBounds_toArray, List.set_cons_zero, List.set_cons_succ, i64_w, i32_w]
    rfl
  refine pure_ (i := 1) (N := some 26) (v := ?_) (a' := ?_) #[true, true, false, false, false, false, false, false] rfl rfl (any_of HT_.out (by kernel_rfl)) (fun _ _ _ h => h) (Or.inl ⟨by rfl, ?_⟩) ?_ ?_
  rotate_left
  · intro w'
    go_simp
    with_reducible rfl
  rotate_left
  · simp only [Act.put, List.setIfInBounds_toArray, List.set_cons_zero, List.set_cons_succ, i64_w, i32_w]
    rfl
  refine pure_ (i := 2) (N := some 27) (v := ?_) (a' := ?_) #[true, true, true, false, false, false, false, false] rfl rfl (any_of HT_.out (by kernel_rfl)) (fun _ _ _ h => h) (Or.inl ⟨by rfl, ?_⟩) ?_ ?_
  rotate_left
  · intro w'
    go_simp
    with_reducible rfl
  rotate_left
  · simp only [Act.put, List.setIfInBounds_toArray, List.set_cons_zero, List.set_cons_succ, i64_w, i32_w]
    rfl
  refine pure_ (i := 4) (N := some 29) (v := ?_) (a' := ?_) #[true, true, true, false, true, false, false, false] rfl rfl (any_of HT_.out (by kernel_rfl)) (fun _ _ _ h => h) (Or.inl ⟨by rfl, ?_⟩) ?_ ?_
  rotate_left
  · intro w'
    go_simp
    with_reducible rfl
  rotate_left
  · simp only [Act.put, List.setIfInBounds_toArray, List.set_cons_zero, List.set_cons_succ, i64_w, i32_w]
    rfl
  refine take_ (i := 3) (N := some 28) (v := ?_) (a' := ?_) #[true, true, true, true, true, false, false, false] rfl rfl (take_ofW HT_.out HW_.out (by kernel_rfl)) (fun _ _ _ h => h) (Or.inl ⟨by rfl, ?_⟩) hHeld ?_ ?_
  rotate_left
  · rintro w' ⟨s0, s1, s2⟩
    go_simp
    with_reducible rfl
  rotate_left
  · simp only [Act.put, List.setIfInBounds_toArray, List.set_cons_zero, List.set_cons_succ, i64_w, i32_w]
    rfl
  refine take_ (i := 5) (N := some 30) (v := ?_) (a' := ?_) #[true, true, true, true, true, true, false, false] rfl rfl (take_ofW HT_.out HW_.out (by kernel_rfl)) (fun _ _ _ h => h) (Or.inl ⟨by rfl, ?_⟩) hHeld ?_ ?_
  rotate_left
  · rintro w' ⟨s0, s1, s2⟩
    go_simp
    with_reducible rfl
  rotate_left
  · simp only [Act.put, List.setIfInBounds_toArray, List.set_cons_zero, List.set_cons_succ, i64_w, i32_w]
    rfl
  refine pure_ (i := 6) (N := some 31) (v := ?_) (a' := ?_) #[true, true, true, true, true, true, true, false] rfl rfl (any_of HT_.out (by kernel_rfl)) (fun _ _ _ h => h) (Or.inl ⟨by rfl, ?_⟩) ?_ ?_
  rotate_left
  · intro w'
    go_simp
    with_reducible rfl
  rotate_left
  · simp only [Act.put, List.setIfInBounds_toArray, List.set_cons_zero, List.set_cons_succ, i64_w, i32_w]
    rfl
  refine pure_ (i := 7) (N := some 5) (v := ?_) (a' := ?_) #[true, true, true, true, true, true, true, true] rfl rfl (any_of HT_.out (by kernel_rfl)) (fun _ _ _ h => h) (Or.inl ⟨by rfl, ?_⟩) ?_ ?_
  rotate_left
  · intro w'
    go_simp
    with_reducible rfl
  rotate_left
  · simp only [Act.put, List.setIfInBounds_toArray, List.set_cons_zero, List.set_cons_succ, i64_w, i32_w]
    rfl
  refine done_ (done_of HT_.out (by kernel_rfl)) ?_
  clear hF0 hF1 hfl1
  have hQ : iQ W3 w0.heap.size (fun k => f k = i + 1) (vs i) x.ws := by rw [← HXE.out]; exact HX3.out.qs' HI.out
  obtain ⟨Aw, cw, hvs, hcw⟩ := Kd.Q_slice hQ
  have HVS := Aside0.mk hvs
  have hw3 : W3.cell? ⟨g, i * 4 + 1, none⟩ = some (.slice Aw x.ws.length cw) := (HX3.out.w i HI.out).trans (congrArg some hvs)
  obtain ⟨L, hL⟩ : ∃ m : Nat, x.ws.length = m := ⟨_, rfl⟩
  rw [hL] at hw3 hcw
  rw [hL] at hvs
  have HVSL := Aside0.mk hvs
  have HL := Aside0.mk hL
  clear hQ hvs hcw hL
  by_cases h40 : L = 40
  · have hHH := HH.out
    rw [if_pos (HL.out.trans h40)] at hHH
    simp only [Option.some.injEq, Prod.mk.injEq] at hHH
    obtain ⟨rfl, rfl, rfl⟩ := hHH
    have e4_ : ((L : Int) == 40) = true := beq_iff_eq.2 (by omega)
    have e4n_ : (L == 40) = true := beq_iff_eq.2 h40
    clear h40
    go_upto_region 6 with (fail)
    have hz0 := (blk_cell HZ3.out 0).trans rfl
    have hz1 := (blk_cell HZ3.out 1).trans rfl
    have hz2 := (blk_cell HZ3.out 2).trans rfl
    have hf0 := blk_frozen HZ3.out 0
    have hf1 := blk_frozen HZ3.out 1
    have hf2 := blk_frozen HZ3.out 2

    go_wp2_with (first | ((with_reducible refine gate_callee (f := 28) rfl ?_); refine goesL_ (some 39) rfl rfl Try.func28 (by kernel_rfl) rfl #[.int .i64 9] rfl (by (try simp only [List.map_toArray, List.map_cons, List.map_nil]); first | done | rfl) ?_; refine (fair_no.calls 9 9 0 0 _ (by rfl)).mono ?_; rintro e' W9 ⟨rfl, hl_⟩; refine ⟨_, rfl, ?_⟩; have HX9 := Aside0.mk (HX3.out.below hl_); have HK9 := Aside0.mk (HK3.out.below hl_); have HB9 := Aside0.mk (below_then HB3.out HB3.out.size hl_); have HZ9 := Aside0.mk (blk_below HZ3.out hl_); have hz0_ := (blk_cell HZ9.out 0).trans rfl; have hz1_ := (blk_cell HZ9.out 1).trans rfl; have hz2_ := (blk_cell HZ9.out 2).trans rfl; have hf0_ := blk_frozen HZ9.out 0; have hf1_ := blk_frozen HZ9.out 1; have hf2_ := blk_frozen HZ9.out 2; clear hl_))
    (try simp only [Exit.inBlock, Exit.then])
    refine bodyPost_ret (results_cell_row rfl _ _ b4 29 #[.int .i64 9, .int .i64 0, .int .i64 0] (0, 0) _ rfl (set_three HZ9.out) Try.underlying29 rfl (by kernel_rfl)) rfl ?_
    refine ⟨rfl, ⟨g, cf, _, _, _, HX9.out.three (c0 := .int .i64 9) (c1 := .int .i64 0) (c2 := .int .i64 0) HZ9.out⟩, ?_, keeps_three HK9.out HB4.out⟩
    exact below_set (below_set (below_set HB9.out (Nat.le_trans HB.out.size HB4.out)) (Nat.le_trans HB.out.size HB4.out)) (Nat.le_trans HB.out.size HB4.out)
  have hHH := HH.out
  rw [if_neg (fun h => h40 (HL.out.symm.trans h))] at hHH
  obtain ⟨tnE, htnE⟩ : ∃ y, (if x.ws.length = 0 then tn ++ [(i : Int)] else tn) = y := ⟨_, rfl⟩
  rw [htnE] at hHH
  have HTNE := Aside0.mk htnE
  clear htnE
  simp only [Option.some.injEq, Prod.mk.injEq] at hHH
  obtain ⟨rfl, rfl, rfl⟩ := hHH
  have e4_ : ((L : Int) == 40) = false := beq_eq_false_iff_ne.2 (by omega)
  have e4n_ : (L == 40) = false := beq_eq_false_iff_ne.2 h40
  clear h40
  by_cases hL0 : L = 0
  · have HTE : Aside0 (tn ++ [(i : Int)] = tnE) := ⟨by have h1 := HTNE.out; rw [if_pos (HL.out.trans hL0)] at h1; exact h1⟩
    have e5_ : ((L : Int) == 0) = true := beq_iff_eq.2 (by omega)
    have e5n_ : (L == 0) = true := beq_iff_eq.2 hL0
    clear hL0
    go_upto_region 8 with (fail)
    clear hw3
    have hF0 := (blk_cell HF3.out 0).trans rfl
    have htu3 := HX3.out.turn
    refine start_ (n := 12) (S := fun w' => w'.cell? ⟨b, 1, none⟩ = some vt ∧ w'.cell? ⟨b3, 0, none⟩ = some (.int .i64 (i : Int))) (ds := [11]) #[false, false, false, false, false, false, false, false, false, false, false, false] (by kernel_rfl) rfl rfl ⟨htu3, hF0⟩ (fun hHeld => ?_)
    refine with_tabW fcomes.tab8 fcomes.bits8 (fun HT_ HW_ => ?_)
    obtain ⟨W4, hw_⟩ : ∃ w, w = W3.drew := ⟨_, rfl⟩
    have hl_ : Below W3.heap.size W3 W4 := by rw [hw_]; exact below_drew1 (Below.refl _ _)
    rw [← hw_] at hHeld ⊢
    have HX4 := Aside0.mk (HX3.out.below hl_)
    have HK4 := Aside0.mk (HK3.out.below hl_)
    have HB4d := Aside0.mk (below_then HB3.out HB3.out.size hl_)
    have HF4 := Aside0.mk (blk_below HF3.out hl_)
    have HZ4 := Aside0.mk (blk_below HZ3.out hl_)
    obtain ⟨f', hf'⟩ : ∃ f' : Nat → Nat, (fun k => if k < W4.heap.size then f k else 0) = f' := ⟨_, rfl⟩
    have HXf : Aside0 (RX w0 W4 b g cf vt f' vs fs tn) := ⟨by rw [← hf']; exact HX4.out.fresh 0⟩
    have HFR : Aside0 (∀ k, W4.heap.size ≤ k → f' k = 0) := ⟨fun k hk => by rw [← hf']; simp [Nat.not_lt.2 hk]⟩
    have HT4 := Aside0.mk HX4.out.turn
    have HFa4 : Aside0 (W4.cell? ⟨b3, 0, none⟩ = some (.int .i64 (i : Int))) := ⟨(blk_cell HF4.out 0).trans rfl⟩
    clear hf'
    clear hw_ hl_
    refine pure_ (i := 0) (N := some 42) (v := ?_) (a' := ?_) #[true, false, false, false, false, false, false, false, false, false, false, false] rfl rfl (any_of HT_.out (by kernel_rfl)) (fun _ _ _ h => h) (Or.inl ⟨by rfl, ?_⟩) ?_ ?_
    rotate_left
    · intro w'
      go_simp
      with_reducible rfl
    rotate_left
    · simp only [Act.put, List.setIfInBounds_toArray, List.set_cons_zero, List.set_cons_succ, i64_w, i32_w]
      rfl
    refine pure_ (i := 1) (N := some 43) (v := ?_) (a' := ?_) #[true, true, false, false, false, false, false, false, false, false, false, false] rfl rfl (any_of HT_.out (by kernel_rfl)) (fun _ _ _ h => h) (Or.inl ⟨by rfl, ?_⟩) ?_ ?_
    rotate_left
    · intro w'
      go_simp
      with_reducible rfl
    rotate_left
    · simp only [Act.put, List.setIfInBounds_toArray, List.set_cons_zero, List.set_cons_succ, i64_w, i32_w]
      rfl
    refine pure_ (i := 2) (N := some 44) (v := ?_) (a' := ?_) #[true, true, true, false, false, false, false, false, false, false, false, false] rfl rfl (any_of HT_.out (by kernel_rfl)) (fun _ _ _ h => h) (Or.inl ⟨by rfl, ?_⟩) ?_ ?_
    rotate_left
    · intro w'
      go_simp
      with_reducible rfl
    rotate_left
    · simp only [Act.put, List.setIfInBounds_toArray, List.set_cons_zero, List.set_cons_succ, i64_w, i32_w]
      rfl
    refine pure_ (i := 3) (N := some 45) (v := ?_) (a' := ?_) #[true, true, true, true, false, false, false, false, false, false, false, false] rfl rfl (any_of HT_.out (by kernel_rfl)) (fun _ _ _ h => h) (Or.inl ⟨by rfl, ?_⟩) ?_ ?_
    rotate_left
    · intro w'
      go_simp
      with_reducible rfl
    rotate_left
    · simp only [Act.put, List.setIfInBounds_toArray, List.set_cons_zero, List.set_cons_succ, i64_w, i32_w]
      rfl
    refine pure_ (i := 5) (N := some 47) (v := ?_) (a' := ?_) #[true, true, true, true, false, true, false, false, false, false, false, false] rfl rfl (any_of HT_.out (by kernel_rfl)) (fun _ _ _ h => h) (Or.inl ⟨by rfl, ?_⟩) ?_ ?_
    rotate_left
    · intro w'
      go_simp
      with_reducible rfl
    rotate_left
    · simp only [Act.put, List.setIfInBounds_toArray, List.set_cons_zero, List.set_cons_succ, i64_w, i32_w]
      rfl
    refine take_ (i := 4) (N := some 46) (v := ?_) (a' := ?_) #[true, true, true, true, true, true, false, false, false, false, false, false] rfl rfl (take_ofW HT_.out HW_.out (by kernel_rfl)) (fun _ _ _ h => h) (Or.inl ⟨by rfl, ?_⟩) hHeld ?_ ?_
    rotate_left
    · rintro w' ⟨s0, s1⟩
      go_simp
      with_reducible rfl
    rotate_left
    · simp only [Act.put, List.setIfInBounds_toArray, List.set_cons_zero, List.set_cons_succ, i64_w, i32_w]
      rfl
    refine take_ (i := 6) (N := some 48) (v := ?_) (a' := ?_) #[true, true, true, true, true, true, true, false, false, false, false, false] rfl rfl (take_ofW HT_.out HW_.out (by kernel_rfl)) (fun _ _ _ h => h) (Or.inl ⟨by rfl, ?_⟩) hHeld ?_ ?_
    rotate_left
    · rintro w' ⟨s0, s1⟩
      go_simp
      with_reducible rfl
    rotate_left
    · simp only [Act.put, List.setIfInBounds_toArray, List.set_cons_zero, List.set_cons_succ, i64_w, i32_w]
      rfl
    refine one_ (i := 7) (N := some 49) #[true, true, true, true, true, true, true, true, false, false, false, false] rfl rfl (one_of HT_.out (by kernel_rfl)) (by decide) (fun K hK => ?_)
    refine value_ (w1 := ?_) (v := ?_) (by rfl) rfl ?_ ?_
    rotate_left 2
    · go_simp
      constructor
      · rfl
      · rfl
    refine hK.out _ _ ⟨(Below.cell (below_alloc (Below.refl W4.heap.size W4) _) (p := ⟨b, 1, none⟩) (World.block_lt_of_cell? W4 _ HT4.out)).trans HT4.out, (Below.cell (below_alloc (Below.refl W4.heap.size W4) _) (p := ⟨b3, 0, none⟩) (World.block_lt_of_cell? W4 _ HFa4.out)).trans HFa4.out⟩ (fun hHeld => ?_)
    clear hK K
    refine norm_ (a' := ?_) ?_ ?_
    rotate_left
    · show Act.put _ (some 49) _ = _
      simp only [Act.put, List.setIfInBounds_toArray, List.set_cons_zero, List.set_cons_succ, i64_w, i32_w]
      rfl
    refine one_ (i := 8) (N := some 50) #[true, true, true, true, true, true, true, true, true, false, false, false] rfl rfl (one_of HT_.out (by kernel_rfl)) (by decide) (fun K hK => ?_)
    refine Kd.Q_append_step (Kd.int .i64) (w0 := w0) (W := W4) w0.heap.size (by rfl) (.tmp 46) (.tmp 49) 22 3 (.int .i64 0) 8 rfl Try.underlying22 info3f rfl (by decide) (by omega) vt tn (i : Int) [.int .i64 (i : Int)] (fun k => f' k = 0) (fun _ => False) rfl rfl rfl (fun _ h => h.elim) HFR.out HXf.out.qt HB4d.out HB4d.out.size ?aQ8 ?_
    (case aQ8 => have := HLIM.out; omega)
    intro v50 We ho hb hg hat
    obtain ⟨tn2, htn2⟩ : ∃ y, tn ++ [(i : Int)] = y := ⟨_, rfl⟩
    rw [htn2] at ho
    have HTN2 := Aside0.mk htn2
    obtain ⟨A5, c5, e5, hc5⟩ := Kd.Q_slice ho
    subst e5
    have HOe := Aside0.mk ho
    have HGe := Aside0.mk hg
    have HBe := Aside0.mk hb
    have htu := (blk_cell (HXf.out.bAfter hg) 1).trans rfl
    have hfz := blk_frozen (HXf.out.bAfter hg) 1
    have HFe := Aside0.mk ((HXf.out.keepsT hg).blk' HF4.out (by decide))
    clear ho hb hg hat hc5 htn2
    refine hK.out _ _ ⟨htu, (blk_cell HFe.out 0).trans rfl⟩ (fun hHeld => ?_)
    clear hK K
    refine norm_ (a' := ?_) ?_ ?_
    rotate_left
    · show Act.put _ (some 50) _ = _
      simp only [Act.put, List.setIfInBounds_toArray, List.set_cons_zero, List.set_cons_succ, i64_w, i32_w]
      rfl
    refine pure_ (i := 9) (N := some 51) (v := ?_) (a' := ?_) #[true, true, true, true, true, true, true, true, true, true, false, false] rfl rfl (any_of HT_.out (by kernel_rfl)) (fun _ _ _ h => h) (Or.inl ⟨by rfl, ?_⟩) ?_ ?_
    rotate_left
    · intro w'
      go_simp
      with_reducible rfl
    rotate_left
    · simp only [Act.put, List.setIfInBounds_toArray, List.set_cons_zero, List.set_cons_succ, i64_w, i32_w]
      rfl
    refine pure_ (i := 10) (N := some 52) (v := ?_) (a' := ?_) #[true, true, true, true, true, true, true, true, true, true, true, false] rfl rfl (any_of HT_.out (by kernel_rfl)) (fun _ _ _ h => h) (Or.inl ⟨by rfl, ?_⟩) ?_ ?_
    rotate_left
    · intro w'
      go_simp
      with_reducible rfl
    rotate_left
    · simp only [Act.put, List.setIfInBounds_toArray, List.set_cons_zero, List.set_cons_succ, i64_w, i32_w]
      rfl
    refine last_ (i := 11) (N := none) #[true, true, true, true, true, true, true, true, true, true, true, true] rfl rfl (one_of HT_.out (by kernel_rfl)) (by decide) (fun K hK => ?_)
    refine skip_ (w1 := ?_) (by rfl) rfl ?_ ?_
    rotate_left
    · go_simp
      rfl
    refine hK.out _ _ ?_
    clear hK K
    refine done_ (done_of HT_.out (by kernel_rfl)) ?_
    clear hF0 htu3 htu hfz
    obtain ⟨W5, hW5⟩ : ∃ w, We.setCell ⟨b, 1, none⟩ (.slice A5 tn2.length c5) = w := ⟨_, rfl⟩
    rw [hW5]
    have HX5 : Aside0 (RX w0 W5 b g cf (.slice A5 tn2.length c5) f' vs fs tn2) := ⟨by rw [← hW5]; exact HXf.out.newTn HGe.out HOe.out⟩
    have hk5 : Keeps W4 W5 := by rw [← hW5]; exact (HXf.out.keepsT HGe.out).set (p := ⟨b, 1, none⟩) (HXf.out.bAfter HGe.out) (.inl rfl) _
    have HK5 := Aside0.mk (HK4.out.trans hk5)
    have HF5 := Aside0.mk (hk5.blk' HF4.out (by decide))
    have HZ5 := Aside0.mk (hk5.blk' HZ4.out (by decide))
    have HB5 : Aside0 (Below w0.heap.size w0 W5) := ⟨by rw [← hW5]; exact below_set HBe.out HX.out.hb0⟩
    clear hW5 hk5
    go_upto_region 9 with (fail)
    have hF1 := (blk_cell HF5.out 1).trans rfl
    have hwL : W5.cell? ⟨g, i * 4 + 1, none⟩ = some (.slice Aw L cw) := (HX5.out.w i HI.out).trans (congrArg some HVSL.out)
    refine start_ (n := 12) (S := fun w' => w'.cell? ⟨g, i * 4 + 1, none⟩ = some (.slice Aw L cw) ∧ w'.cell? ⟨b3, 1, none⟩ = some (.int .i64 sz)) (ds := [11]) #[false, false, false, false, false, false, false, false, false, false, false, false] (by kernel_rfl) rfl rfl ⟨hwL, hF1⟩ (fun hHeld => ?_)
    refine with_tabW fcomes.tab9 fcomes.bits9 (fun HT_ HW_ => ?_)
    obtain ⟨W6, hw_⟩ : ∃ w, w = W5.drew := ⟨_, rfl⟩
    have hl_ : Below W5.heap.size W5 W6 := by rw [hw_]; exact below_drew1 (Below.refl _ _)
    rw [← hw_] at hHeld ⊢
    have HX6 := Aside0.mk (HX5.out.below hl_)
    have HK6 := Aside0.mk (HK5.out.below hl_)
    have HB6 := Aside0.mk (below_then HB5.out HB5.out.size hl_)
    have HF6 := Aside0.mk (blk_below HF5.out hl_)
    have HZ6 := Aside0.mk (blk_below HZ5.out hl_)
    obtain ⟨f2, hf2⟩ : ∃ f2 : Nat → Nat, (fun k => if k < W6.heap.size then f' k else i + 1) = f2 := ⟨_, rfl⟩
    have HXg : Aside0 (RX w0 W6 b g cf (.slice A5 tn2.length c5) f2 vs fs tn2) := ⟨by rw [← hf2]; exact HX6.out.fresh (i + 1)⟩
    have HFR2 : Aside0 (∀ k, W6.heap.size ≤ k → f2 k = i + 1) := ⟨fun k hk => by rw [← hf2]; simp [Nat.not_lt.2 hk]⟩
    have HQ6 : Aside0 (iQ W6 w0.heap.size (fun k => f2 k = i + 1) (.slice Aw L cw) x.ws) := ⟨by rw [← HVSL.out, ← HXE.out]; exact HXg.out.qs' HI.out⟩
    have HW6 : Aside0 (W6.cell? ⟨g, i * 4 + 1, none⟩ = some (.slice Aw L cw)) := ⟨(HXg.out.w i HI.out).trans (congrArg some HVSL.out)⟩
    have HFa6 : Aside0 (W6.cell? ⟨b3, 1, none⟩ = some (.int .i64 sz)) := ⟨(blk_cell HF6.out 1).trans rfl⟩
    clear hf2
    clear hw_ hl_
    refine pure_ (i := 0) (N := some 53) (v := ?_) (a' := ?_) #[true, false, false, false, false, false, false, false, false, false, false, false] rfl rfl (any_of HT_.out (by kernel_rfl)) (fun _ _ _ h => h) (Or.inl ⟨by rfl, ?_⟩) ?_ ?_
    rotate_left
    · intro w'
      go_simp
      with_reducible rfl
    rotate_left
    · simp only [Act.put, List.setIfInBounds_toArray, List.set_cons_zero, List.set_cons_succ, i64_w, i32_w]
      rfl
    refine pure_ (i := 1) (N := some 54) (v := ?_) (a' := ?_) #[true, true, false, false, false, false, false, false, false, false, false, false] rfl rfl (any_of HT_.out (by kernel_rfl)) (fun _ _ _ h => h) (Or.inl ⟨by rfl, ?_⟩) ?_ ?_
    rotate_left
    · intro w'
      go_simp
      with_reducible rfl
    rotate_left
    · simp only [Act.put, List.setIfInBounds_toArray, List.set_cons_zero, List.set_cons_succ, i64_w, i32_w]
      rfl
    refine pure_ (i := 2) (N := some 55) (v := ?_) (a' := ?_) #[true, true, true, false, false, false, false, false, false, false, false, false] rfl rfl (any_of HT_.out (by kernel_rfl)) (fun _ _ _ h => h) (Or.inl ⟨by rfl, ?_⟩) ?_ ?_
    rotate_left
    · intro w'
      go_simp
      with_reducible rfl
    rotate_left
    · simp only [Act.put, List.setIfInBounds_toArray, List.set_cons_zero, List.set_cons_succ, i64_w, i32_w]
      rfl
    refine pure_ (i := 3) (N := some 56) (v := ?_) (a' := ?_) #[true, true, true, true, false, false, false, false, false, false, false, false] rfl rfl (any_of HT_.out (by kernel_rfl)) (fun _ _ _ h => h) (Or.inl ⟨by rfl, ?_⟩) ?_ ?_
    rotate_left
    · intro w'
      go_simp
      with_reducible rfl
    rotate_left
    · simp only [Act.put, List.setIfInBounds_toArray, List.set_cons_zero, List.set_cons_succ, i64_w, i32_w]
      rfl
    refine pure_ (i := 5) (N := some 58) (v := ?_) (a' := ?_) #[true, true, true, true, false, true, false, false, false, false, false, false] rfl rfl (any_of HT_.out (by kernel_rfl)) (fun _ _ _ h => h) (Or.inl ⟨by rfl, ?_⟩) ?_ ?_
    rotate_left
    · intro w'
      go_simp
      with_reducible rfl
    rotate_left
    · simp only [Act.put, List.setIfInBounds_toArray, List.set_cons_zero, List.set_cons_succ, i64_w, i32_w]
      rfl
    refine take_ (i := 4) (N := some 57) (v := ?_) (a' := ?_) #[true, true, true, true, true, true, false, false, false, false, false, false] rfl rfl (take_ofW HT_.out HW_.out (by kernel_rfl)) (fun _ _ _ h => h) (Or.inl ⟨by rfl, ?_⟩) hHeld ?_ ?_
    rotate_left
    · rintro w' ⟨s0, s1⟩
      go_simp
      with_reducible rfl
    rotate_left
    · simp only [Act.put, List.setIfInBounds_toArray, List.set_cons_zero, List.set_cons_succ, i64_w, i32_w]
      rfl
    refine take_ (i := 6) (N := some 59) (v := ?_) (a' := ?_) #[true, true, true, true, true, true, true, false, false, false, false, false] rfl rfl (take_ofW HT_.out HW_.out (by kernel_rfl)) (fun _ _ _ h => h) (Or.inl ⟨by rfl, ?_⟩) hHeld ?_ ?_
    rotate_left
    · rintro w' ⟨s0, s1⟩
      go_simp
      with_reducible rfl
    rotate_left
    · simp only [Act.put, List.setIfInBounds_toArray, List.set_cons_zero, List.set_cons_succ, i64_w, i32_w]
      rfl
    refine one_ (i := 7) (N := some 60) #[true, true, true, true, true, true, true, true, false, false, false, false] rfl rfl (one_of HT_.out (by kernel_rfl)) (by decide) (fun K hK => ?_)
    refine value_ (w1 := ?_) (v := ?_) (by rfl) rfl ?_ ?_
    rotate_left 2
    · go_simp
      constructor
      · rfl
      · rfl
    refine hK.out _ _ ⟨(Below.cell (below_alloc (Below.refl W6.heap.size W6) _) (p := ⟨g, i * 4 + 1, none⟩) (World.block_lt_of_cell? W6 _ HW6.out)).trans HW6.out, (Below.cell (below_alloc (Below.refl W6.heap.size W6) _) (p := ⟨b3, 1, none⟩) (World.block_lt_of_cell? W6 _ HFa6.out)).trans HFa6.out⟩ (fun hHeld => ?_)
    clear hK K
    refine norm_ (a' := ?_) ?_ ?_
    rotate_left
    · show Act.put _ (some 60) _ = _
      simp only [Act.put, List.setIfInBounds_toArray, List.set_cons_zero, List.set_cons_succ, i64_w, i32_w]
      rfl
    refine one_ (i := 8) (N := some 61) #[true, true, true, true, true, true, true, true, true, false, false, false] rfl rfl (one_of HT_.out (by kernel_rfl)) (by decide) (fun K hK => ?_)
    refine Kd.Q_append_step (Kd.int .i64) (w0 := w0) (W := W6) w0.heap.size (by rfl) (.tmp 57) (.tmp 60) 22 3 (.int .i64 0) 8 rfl Try.underlying22 info3f rfl (by decide) (by omega) (.slice Aw L cw) x.ws sz [.int .i64 sz] (fun k => f2 k = i + 1) (fun _ => False) rfl rfl rfl (fun _ h => h.elim) HFR2.out HQ6.out HB6.out HB6.out.size ?aQ95 ?_
    (case aQ95 => have := HLIM.out; omega)
    intro v61 Wf ho hb hg hat
    rw [← HVSL.out] at hg
    obtain ⟨ws2, hws2⟩ : ∃ y, x.ws ++ [sz] = y := ⟨_, rfl⟩
    rw [hws2] at ho
    have HWS2 := Aside0.mk hws2
    obtain ⟨A8, c8, e8, hc8⟩ := Kd.Q_slice ho
    subst e8
    have HOf := Aside0.mk ho
    have HGf := Aside0.mk hg
    have HBf := Aside0.mk hb
    have hwf := (HXg.out.wAfter HI.out hg).1.trans (congrArg some HVSL.out)
    have hff := (HXg.out.wAfter HI.out hg).2
    have HFf := Aside0.mk ((HXg.out.keepsW HI.out hg).blk' HF6.out (by decide))
    clear ho hb hg hat hc8 hws2
    refine hK.out _ _ ⟨hwf, (blk_cell HFf.out 1).trans rfl⟩ (fun hHeld => ?_)
    clear hK K
    refine norm_ (a' := ?_) ?_ ?_
    rotate_left
    · show Act.put _ (some 61) _ = _
      simp only [Act.put, List.setIfInBounds_toArray, List.set_cons_zero, List.set_cons_succ, i64_w, i32_w]
      rfl
    refine pure_ (i := 9) (N := some 62) (v := ?_) (a' := ?_) #[true, true, true, true, true, true, true, true, true, true, false, false] rfl rfl (any_of HT_.out (by kernel_rfl)) (fun _ _ _ h => h) (Or.inl ⟨by rfl, ?_⟩) ?_ ?_
    rotate_left
    · intro w'
      go_simp
      with_reducible rfl
    rotate_left
    · simp only [Act.put, List.setIfInBounds_toArray, List.set_cons_zero, List.set_cons_succ, i64_w, i32_w]
      rfl
    refine pure_ (i := 10) (N := some 63) (v := ?_) (a' := ?_) #[true, true, true, true, true, true, true, true, true, true, true, false] rfl rfl (any_of HT_.out (by kernel_rfl)) (fun _ _ _ h => h) (Or.inl ⟨by rfl, ?_⟩) ?_ ?_
    rotate_left
    · intro w'
      go_simp
      with_reducible rfl
    rotate_left
    · simp only [Act.put, List.setIfInBounds_toArray, List.set_cons_zero, List.set_cons_succ, i64_w, i32_w]
      rfl
    refine last_ (i := 11) (N := none) #[true, true, true, true, true, true, true, true, true, true, true, true] rfl rfl (one_of HT_.out (by kernel_rfl)) (by decide) (fun K hK => ?_)
    refine skip_ (w1 := ?_) (by rfl) rfl ?_ ?_
    rotate_left
    · go_simp
      rfl
    refine hK.out _ _ ?_
    clear hK K
    refine done_ (done_of HT_.out (by kernel_rfl)) ?_
    clear hF1 hwL hwf hff
    obtain ⟨W7, hW7⟩ : ∃ w, Wf.setCell ⟨g, i * 4 + 1, none⟩ (.slice A8 ws2.length c8) = w := ⟨_, rfl⟩
    rw [hW7]
    have HX7 : Aside0 (RX w0 W7 b g cf _ f2 (fun j => if j = i then (.slice A8 ws2.length c8 : Value) else vs j) (upd fs i (fun z => { z with ws := z.ws ++ [sz] })) tn2) := ⟨by
      rw [← hW7]
      have h1 := HXg.out.updWs HI.out HGf.out HOf.out
      have e : upd fs i (fun z => { z with ws := z.ws ++ [sz] }) = upd fs i (fun z => { z with ws := ws2 }) := by unfold upd; rw [HXE.out, ← HWS2.out]
      rw [e]
      exact h1⟩
    have hk7 : Keeps W6 W7 := by
      obtain ⟨cur, hgc⟩ := HXg.out.hg
      rw [← hW7]
      exact (HXg.out.keepsW HI.out HGf.out).set (p := ⟨g, i * 4 + 1, none⟩) ((HXg.out.gAfter HI.out HGf.out).trans hgc) (.inr rfl) _
    have HK7 := Aside0.mk (HK6.out.trans hk7)
    have HZ7 := Aside0.mk (hk7.blk' HZ6.out (by decide))
    have HB7 : Aside0 (Below w0.heap.size w0 W7) := ⟨by rw [← hW7]; exact below_set HBf.out HX.out.hg0⟩
    clear hW7 hk7
    rw [← HTN2.out, HTE.out] at HX7
    have hz0 := (blk_cell HZ7.out 0).trans rfl
    have hz1 := (blk_cell HZ7.out 1).trans rfl
    have hz2 := (blk_cell HZ7.out 2).trans rfl
    have hf0 := blk_frozen HZ7.out 0
    have hf1 := blk_frozen HZ7.out 1
    have hf2 := blk_frozen HZ7.out 2
    go_wp2
    (try simp only [Exit.inBlock, Exit.then])
    refine bodyPost_ret (results_cell_row rfl _ _ b4 29 #[.int .i64 0, .int .i64 0, .int .i64 0] (0, 0) _ rfl (set_three HZ7.out) Try.underlying29 rfl (by kernel_rfl)) rfl ?_
    refine ⟨rfl, ⟨g, cf, _, _, _, HX7.out.three (c0 := .int .i64 0) (c1 := .int .i64 0) (c2 := .int .i64 0) HZ7.out⟩, ?_, keeps_three HK7.out HB4.out⟩
    exact below_set (below_set (below_set HB7.out (Nat.le_trans HB.out.size HB4.out)) (Nat.le_trans HB.out.size HB4.out)) (Nat.le_trans HB.out.size HB4.out)
  · have HTE : Aside0 (tn = tnE) := ⟨by have h1 := HTNE.out; rw [if_neg (fun h => hL0 (HL.out.symm.trans h))] at h1; exact h1⟩
    have e5_ : ((L : Int) == 0) = false := beq_eq_false_iff_ne.2 (by omega)
    have e5n_ : (L == 0) = false := beq_eq_false_iff_ne.2 hL0
    clear hL0
    go_upto_region 9 with (fail)
    have hF1 := (blk_cell HF3.out 1).trans rfl
    have hwL : W3.cell? ⟨g, i * 4 + 1, none⟩ = some (.slice Aw L cw) := hw3
    refine start_ (n := 12) (S := fun w' => w'.cell? ⟨g, i * 4 + 1, none⟩ = some (.slice Aw L cw) ∧ w'.cell? ⟨b3, 1, none⟩ = some (.int .i64 sz)) (ds := [11]) #[false, false, false, false, false, false, false, false, false, false, false, false] (by kernel_rfl) rfl rfl ⟨hwL, hF1⟩ (fun hHeld => ?_)
    refine with_tabW fcomes.tab9 fcomes.bits9 (fun HT_ HW_ => ?_)
    obtain ⟨W6, hw_⟩ : ∃ w, w = W3.drew := ⟨_, rfl⟩
    have hl_ : Below W3.heap.size W3 W6 := by rw [hw_]; exact below_drew1 (Below.refl _ _)
    rw [← hw_] at hHeld ⊢
    have HX6 := Aside0.mk (HX3.out.below hl_)
    have HK6 := Aside0.mk (HK3.out.below hl_)
    have HB6 := Aside0.mk (below_then HB3.out HB3.out.size hl_)
    have HF6 := Aside0.mk (blk_below HF3.out hl_)
    have HZ6 := Aside0.mk (blk_below HZ3.out hl_)
    obtain ⟨f2, hf2⟩ : ∃ f2 : Nat → Nat, (fun k => if k < W6.heap.size then f k else i + 1) = f2 := ⟨_, rfl⟩
    have HXg : Aside0 (RX w0 W6 b g cf vt f2 vs fs tn) := ⟨by rw [← hf2]; exact HX6.out.fresh (i + 1)⟩
    have HFR2 : Aside0 (∀ k, W6.heap.size ≤ k → f2 k = i + 1) := ⟨fun k hk => by rw [← hf2]; simp [Nat.not_lt.2 hk]⟩
    have HQ6 : Aside0 (iQ W6 w0.heap.size (fun k => f2 k = i + 1) (.slice Aw L cw) x.ws) := ⟨by rw [← HVSL.out, ← HXE.out]; exact HXg.out.qs' HI.out⟩
    have HW6 : Aside0 (W6.cell? ⟨g, i * 4 + 1, none⟩ = some (.slice Aw L cw)) := ⟨(HXg.out.w i HI.out).trans (congrArg some HVSL.out)⟩
    have HFa6 : Aside0 (W6.cell? ⟨b3, 1, none⟩ = some (.int .i64 sz)) := ⟨(blk_cell HF6.out 1).trans rfl⟩
    clear hf2
    clear hw_ hl_
    refine pure_ (i := 0) (N := some 53) (v := ?_) (a' := ?_) #[true, false, false, false, false, false, false, false, false, false, false, false] rfl rfl (any_of HT_.out (by kernel_rfl)) (fun _ _ _ h => h) (Or.inl ⟨by rfl, ?_⟩) ?_ ?_
    rotate_left
    · intro w'
      go_simp
      with_reducible rfl
    rotate_left
    · simp only [Act.put, List.setIfInBounds_toArray, List.set_cons_zero, List.set_cons_succ, i64_w, i32_w]
      rfl
    refine pure_ (i := 1) (N := some 54) (v := ?_) (a' := ?_) #[true, true, false, false, false, false, false, false, false, false, false, false] rfl rfl (any_of HT_.out (by kernel_rfl)) (fun _ _ _ h => h) (Or.inl ⟨by rfl, ?_⟩) ?_ ?_
    rotate_left
    · intro w'
      go_simp
      with_reducible rfl
    rotate_left
    · simp only [Act.put, List.setIfInBounds_toArray, List.set_cons_zero, List.set_cons_succ, i64_w, i32_w]
      rfl
    refine pure_ (i := 2) (N := some 55) (v := ?_) (a' := ?_) #[true, true, true, false, false, false, false, false, false, false, false, false] rfl rfl (any_of HT_.out (by kernel_rfl)) (fun _ _ _ h => h) (Or.inl ⟨by rfl, ?_⟩) ?_ ?_
    rotate_left
    · intro w'
      go_simp
      with_reducible rfl
    rotate_left
    · simp only [Act.put, List.setIfInBounds_toArray, List.set_cons_zero, List.set_cons_succ, i64_w, i32_w]
      rfl
    refine pure_ (i := 3) (N := some 56) (v := ?_) (a' := ?_) #[true, true, true, true, false, false, false, false, false, false, false, false] rfl rfl (any_of HT_.out (by kernel_rfl)) (fun _ _ _ h => h) (Or.inl ⟨by rfl, ?_⟩) ?_ ?_
    rotate_left
    · intro w'
      go_simp
      with_reducible rfl
    rotate_left
    · simp only [Act.put, List.setIfInBounds_toArray, List.set_cons_zero, List.set_cons_succ, i64_w, i32_w]
      rfl
    refine pure_ (i := 5) (N := some 58) (v := ?_) (a' := ?_) #[true, true, true, true, false, true, false, false, false, false, false, false] rfl rfl (any_of HT_.out (by kernel_rfl)) (fun _ _ _ h => h) (Or.inl ⟨by rfl, ?_⟩) ?_ ?_
    rotate_left
    · intro w'
      go_simp
      with_reducible rfl
    rotate_left
    · simp only [Act.put, List.setIfInBounds_toArray, List.set_cons_zero, List.set_cons_succ, i64_w, i32_w]
      rfl
    refine take_ (i := 4) (N := some 57) (v := ?_) (a' := ?_) #[true, true, true, true, true, true, false, false, false, false, false, false] rfl rfl (take_ofW HT_.out HW_.out (by kernel_rfl)) (fun _ _ _ h => h) (Or.inl ⟨by rfl, ?_⟩) hHeld ?_ ?_
    rotate_left
    · rintro w' ⟨s0, s1⟩
      go_simp
      with_reducible rfl
    rotate_left
    · simp only [Act.put, List.setIfInBounds_toArray, List.set_cons_zero, List.set_cons_succ, i64_w, i32_w]
      rfl
    refine take_ (i := 6) (N := some 59) (v := ?_) (a' := ?_) #[true, true, true, true, true, true, true, false, false, false, false, false] rfl rfl (take_ofW HT_.out HW_.out (by kernel_rfl)) (fun _ _ _ h => h) (Or.inl ⟨by rfl, ?_⟩) hHeld ?_ ?_
    rotate_left
    · rintro w' ⟨s0, s1⟩
      go_simp
      with_reducible rfl
    rotate_left
    · simp only [Act.put, List.setIfInBounds_toArray, List.set_cons_zero, List.set_cons_succ, i64_w, i32_w]
      rfl
    refine one_ (i := 7) (N := some 60) #[true, true, true, true, true, true, true, true, false, false, false, false] rfl rfl (one_of HT_.out (by kernel_rfl)) (by decide) (fun K hK => ?_)
    refine value_ (w1 := ?_) (v := ?_) (by rfl) rfl ?_ ?_
    rotate_left 2
    · go_simp
      constructor
      · rfl
      · rfl
    refine hK.out _ _ ⟨(Below.cell (below_alloc (Below.refl W6.heap.size W6) _) (p := ⟨g, i * 4 + 1, none⟩) (World.block_lt_of_cell? W6 _ HW6.out)).trans HW6.out, (Below.cell (below_alloc (Below.refl W6.heap.size W6) _) (p := ⟨b3, 1, none⟩) (World.block_lt_of_cell? W6 _ HFa6.out)).trans HFa6.out⟩ (fun hHeld => ?_)
    clear hK K
    refine norm_ (a' := ?_) ?_ ?_
    rotate_left
    · show Act.put _ (some 60) _ = _
      simp only [Act.put, List.setIfInBounds_toArray, List.set_cons_zero, List.set_cons_succ, i64_w, i32_w]
      rfl
    refine one_ (i := 8) (N := some 61) #[true, true, true, true, true, true, true, true, true, false, false, false] rfl rfl (one_of HT_.out (by kernel_rfl)) (by decide) (fun K hK => ?_)
    refine Kd.Q_append_step (Kd.int .i64) (w0 := w0) (W := W6) w0.heap.size (by rfl) (.tmp 57) (.tmp 60) 22 3 (.int .i64 0) 8 rfl Try.underlying22 info3f rfl (by decide) (by omega) (.slice Aw L cw) x.ws sz [.int .i64 sz] (fun k => f2 k = i + 1) (fun _ => False) rfl rfl rfl (fun _ h => h.elim) HFR2.out HQ6.out HB6.out HB6.out.size ?aQ93 ?_
    (case aQ93 => have := HLIM.out; omega)
    intro v61 Wf ho hb hg hat
    rw [← HVSL.out] at hg
    obtain ⟨ws2, hws2⟩ : ∃ y, x.ws ++ [sz] = y := ⟨_, rfl⟩
    rw [hws2] at ho
    have HWS2 := Aside0.mk hws2
    obtain ⟨A8, c8, e8, hc8⟩ := Kd.Q_slice ho
    subst e8
    have HOf := Aside0.mk ho
    have HGf := Aside0.mk hg
    have HBf := Aside0.mk hb
    have hwf := (HXg.out.wAfter HI.out hg).1.trans (congrArg some HVSL.out)
    have hff := (HXg.out.wAfter HI.out hg).2
    have HFf := Aside0.mk ((HXg.out.keepsW HI.out hg).blk' HF6.out (by decide))
    clear ho hb hg hat hc8 hws2
    refine hK.out _ _ ⟨hwf, (blk_cell HFf.out 1).trans rfl⟩ (fun hHeld => ?_)
    clear hK K
    refine norm_ (a' := ?_) ?_ ?_
    rotate_left
    · show Act.put _ (some 61) _ = _
      simp only [Act.put, List.setIfInBounds_toArray, List.set_cons_zero, List.set_cons_succ, i64_w, i32_w]
      rfl
    refine pure_ (i := 9) (N := some 62) (v := ?_) (a' := ?_) #[true, true, true, true, true, true, true, true, true, true, false, false] rfl rfl (any_of HT_.out (by kernel_rfl)) (fun _ _ _ h => h) (Or.inl ⟨by rfl, ?_⟩) ?_ ?_
    rotate_left
    · intro w'
      go_simp
      with_reducible rfl
    rotate_left
    · simp only [Act.put, List.setIfInBounds_toArray, List.set_cons_zero, List.set_cons_succ, i64_w, i32_w]
      rfl
    refine pure_ (i := 10) (N := some 63) (v := ?_) (a' := ?_) #[true, true, true, true, true, true, true, true, true, true, true, false] rfl rfl (any_of HT_.out (by kernel_rfl)) (fun _ _ _ h => h) (Or.inl ⟨by rfl, ?_⟩) ?_ ?_
    rotate_left
    · intro w'
      go_simp
      with_reducible rfl
    rotate_left
    · simp only [Act.put, List.setIfInBounds_toArray, List.set_cons_zero, List.set_cons_succ, i64_w, i32_w]
      rfl
    refine last_ (i := 11) (N := none) #[true, true, true, true, true, true, true, true, true, true, true, true] rfl rfl (one_of HT_.out (by kernel_rfl)) (by decide) (fun K hK => ?_)
    refine skip_ (w1 := ?_) (by rfl) rfl ?_ ?_
    rotate_left
    · go_simp
      rfl
    refine hK.out _ _ ?_
    clear hK K
    refine done_ (done_of HT_.out (by kernel_rfl)) ?_
    clear hF1 hwL hwf hff
    obtain ⟨W7, hW7⟩ : ∃ w, Wf.setCell ⟨g, i * 4 + 1, none⟩ (.slice A8 ws2.length c8) = w := ⟨_, rfl⟩
    rw [hW7]
    have HX7 : Aside0 (RX w0 W7 b g cf _ f2 (fun j => if j = i then (.slice A8 ws2.length c8 : Value) else vs j) (upd fs i (fun z => { z with ws := z.ws ++ [sz] })) tn) := ⟨by
      rw [← hW7]
      have h1 := HXg.out.updWs HI.out HGf.out HOf.out
      have e : upd fs i (fun z => { z with ws := z.ws ++ [sz] }) = upd fs i (fun z => { z with ws := ws2 }) := by unfold upd; rw [HXE.out, ← HWS2.out]
      rw [e]
      exact h1⟩
    have hk7 : Keeps W6 W7 := by
      obtain ⟨cur, hgc⟩ := HXg.out.hg
      rw [← hW7]
      exact (HXg.out.keepsW HI.out HGf.out).set (p := ⟨g, i * 4 + 1, none⟩) ((HXg.out.gAfter HI.out HGf.out).trans hgc) (.inr rfl) _
    have HK7 := Aside0.mk (HK6.out.trans hk7)
    have HZ7 := Aside0.mk (hk7.blk' HZ6.out (by decide))
    have HB7 : Aside0 (Below w0.heap.size w0 W7) := ⟨by rw [← hW7]; exact below_set HBf.out HX.out.hg0⟩
    clear hW7 hk7
    rw [HTE.out] at HX7
    have hz0 := (blk_cell HZ7.out 0).trans rfl
    have hz1 := (blk_cell HZ7.out 1).trans rfl
    have hz2 := (blk_cell HZ7.out 2).trans rfl
    have hf0 := blk_frozen HZ7.out 0
    have hf1 := blk_frozen HZ7.out 1
    have hf2 := blk_frozen HZ7.out 2
    go_wp2
    (try simp only [Exit.inBlock, Exit.then])
    refine bodyPost_ret (results_cell_row rfl _ _ b4 29 #[.int .i64 0, .int .i64 0, .int .i64 0] (0, 0) _ rfl (set_three HZ7.out) Try.underlying29 rfl (by kernel_rfl)) rfl ?_
    refine ⟨rfl, ⟨g, cf, _, _, _, HX7.out.three (c0 := .int .i64 0) (c1 := .int .i64 0) (c2 := .int .i64 0) HZ7.out⟩, ?_, keeps_three HK7.out HB4.out⟩
    exact below_set (below_set (below_set HB7.out (Nat.le_trans HB.out.size HB4.out)) (Nat.le_trans HB.out.size HB4.out)) (Nat.le_trans HB.out.size HB4.out)
def fsends.T7 : Bool × List (List Nat × List Nat) := (true, [([], []), ([0], [0]), ([1], [1]), ([2], [2]), ([], []), ([4], [4]), ([5], [5]), ([6], [6]), ([3, 7], [3, 7]), ([0, 0, 1, 2, 3, 4, 5, 6, 7, 8], [0]), ([9, 0, 1, 2, 3, 4, 5, 6, 7, 8], [9]), ([10, 8, 0, 1, 2, 3, 4, 5, 6, 7, 8], [8, 10])])
def fsends.B7 : List Nat := [0, 1, 3, 7, 0, 16, 48, 112, 255, 511, 1023, 2047]
theorem fsends.tab7 : rtab .any (opsOf Try.f29 7) = fsends.T7 := by kernel_rfl
theorem fsends.bits7 : waitsOk fsends.T7.2 fsends.B7 = true := by kernel_rfl
def fsends.T8 : Bool × List (List Nat × List Nat) := (true, [([], []), ([0], [0]), ([1], [1]), ([2], [2]), ([3], [3]), ([4], [4]), ([], []), ([6], [6]), ([7], [7]), ([8], [8]), ([5, 9], [5, 9])])
def fsends.B8 : List Nat := [0, 1, 3, 7, 15, 31, 0, 64, 192, 448, 1023]
theorem fsends.tab8 : rtab .any (opsOf Try.f29 8) = fsends.T8 := by kernel_rfl
theorem fsends.bits8 : waitsOk fsends.T8.2 fsends.B8 = true := by kernel_rfl
theorem cut_own (A : Option Addr) (n m c c2 : Nat) : (Value.slice A n c).ownBlock = (Value.slice (if c = 1 then A else A.map (·.add (1 * 1))) m c2).ownBlock := by
  cases A with
  | none => split <;> rfl
  | some a => split <;> rfl
def fedUp (z : Fl) : Fl := if z.fed = true then z else { z with fed := true, d := z.d + z.q }
theorem upd_same {fs : List Fl} {i : Nat} (h : i < fs.length) {F : Fl → Fl} (hF : F (fs.getD i ⟨0, [], 0, false⟩) = fs.getD i ⟨0, [], 0, false⟩) : upd fs i F = fs := by
  unfold upd
  rw [hF, getD_fl h, List.set_getElem_self]
def okX (x : Fl) : Prop := 0 < x.ws.length ∧ -1000000 ≤ x.d ∧ x.d ≤ 1000000 ∧ -1000000 ≤ x.q ∧ x.q ≤ 1000000 ∧ -1000000 ≤ rd x.ws 0 ∧ rd x.ws 0 ≤ 1000000
instance (x : Fl) : Decidable (okX x) := by unfold okX; infer_instance
def sendsL : Nat → List Fl → List Int → Option ((Int × Int × Int) × List Fl × List Int)
  | 0, _, _ => none
  | k + 1, fs, tn =>
    if 0 < tn.length ∧ tn.length < 1000000 ∧ 0 ≤ rd tn 0 ∧ rd tn 0 < (fs.length : Int) ∧ fs.length < 1000 ∧ okX (fs.getD (rd tn 0).toNat ⟨0, [], 0, false⟩) then
      (if rd (fs.getD (rd tn 0).toNat ⟨0, [], 0, false⟩).ws 0 ≤ (fedUp (fs.getD (rd tn 0).toNat ⟨0, [], 0, false⟩)).d then sentF (upd fs (rd tn 0).toNat fedUp) tn (rd tn 0).toNat
       else sendsL k (upd (upd fs (rd tn 0).toNat fedUp) (rd tn 0).toNat (fun z => { z with fed := false })) (tn.drop 1 ++ [rd tn 0]))
    else none
def sendsF (k : Nat) (fs : List Fl) (tn : List Int) : Option ((Int × Int × Int) × List Fl × List Int) := if tn.length = 0 then some ((7, 0, 0), fs, tn) else sendsL k fs tn
set_option maxHeartbeats 40000000 in
set_option maxRecDepth 100000 in
theorem sends_calls (k : Nat) (w0 W : World) (b : Nat) (fs : List Fl) (tn : List Int) (o : Int × Int × Int) (fs' : List Fl) (tn' : List Int)
    (hx : ∃ g cf vt f vs, RX w0 W b g cf vt f vs fs tn) (hB : Below w0.heap.size w0 W) (h : sendsF k fs tn = some (o, fs', tn')) :
    Calls Try.prog 29 #[.pointer (some ⟨b, 0, none⟩)] W (RPost w0 W b o fs' tn') := by
  obtain ⟨g, cf, vt, f, vs, hx⟩ := hx
  have HX := Aside0.mk hx
  have HB := Aside0.mk hB
  unfold sendsF at h
  have HH := Aside0.mk h
  clear hx hB h
  go_enter Try.func29, Try.ntmps29
  go_upto_region 1 with (fail)
  obtain ⟨W1, hW1⟩ : ∃ w, W.alloc (Obj.cells #[.int .i64 0, .int .i64 0, .int .i64 0] 29) = w := ⟨_, rfl⟩
  rw [hW1]
  obtain ⟨b4, hb4⟩ : ∃ k, W.heap.size = k := ⟨_, rfl⟩
  rw [hb4]
  have HZ1 : Aside0 (W1.heap[b4]? = some (.cells #[.int .i64 0, .int .i64 0, .int .i64 0] 29 (0, 0))) := ⟨by rw [← hW1, ← hb4]; exact heap_alloc_new W _⟩
  have hl_ : Below W.heap.size W W1 := by rw [← hW1]; exact below_alloc (Below.refl _ _) _
  have HX1 := Aside0.mk (HX.out.below hl_)
  have HK1 := Aside0.mk ((Keeps.refl W).below hl_)
  have HB1 := Aside0.mk (below_then HB.out HB.out.size hl_)
  have HB4 : Aside0 (W.heap.size ≤ b4) := ⟨Nat.le_of_eq hb4⟩
  clear hW1 hb4 hl_
  obtain ⟨At, ct0, hvt, hct⟩ := Kd.Q_slice HX1.out.qt
  have htu := HX1.out.turn.trans (congrArg some hvt)
  obtain ⟨L, hL⟩ : ∃ m : Nat, tn.length = m := ⟨_, rfl⟩
  rw [hL] at htu
  have HL := Aside0.mk hL
  clear hvt hct hL
  by_cases hL0 : L = 0
  · have hHH := HH.out
    rw [if_pos (HL.out.trans hL0)] at hHH
    simp only [Option.some.injEq, Prod.mk.injEq] at hHH
    obtain ⟨rfl, rfl, rfl⟩ := hHH
    have e5_ : ((L : Int) == 0) = true := beq_iff_eq.2 (by omega)
    have e5n_ : (L == 0) = true := beq_iff_eq.2 hL0
    clear hL0
    go_wp2_with (first | ((with_reducible refine gate_callee (f := 28) rfl ?_); refine goesL_ (some 11) rfl rfl Try.func28 (by kernel_rfl) rfl #[.int .i64 7] rfl (by (try simp only [List.map_toArray, List.map_cons, List.map_nil]); first | done | rfl) ?_; refine (fair_no.calls 7 7 0 0 _ (by rfl)).mono ?_; rintro e' W9 ⟨rfl, hl_⟩; refine ⟨_, rfl, ?_⟩; have HX9 := Aside0.mk (HX1.out.below hl_); have HK9 := Aside0.mk (HK1.out.below hl_); have HB9 := Aside0.mk (below_then HB1.out HB1.out.size hl_); have HZ9 := Aside0.mk (blk_below HZ1.out hl_); have hz0_ := (blk_cell HZ9.out 0).trans rfl; have hf0_ := blk_frozen HZ9.out 0; have hz1_ := (blk_cell HZ9.out 1).trans rfl; have hf1_ := blk_frozen HZ9.out 1; have hz2_ := (blk_cell HZ9.out 2).trans rfl; have hf2_ := blk_frozen HZ9.out 2; clear hl_))
    (try simp only [Exit.inBlock, Exit.then])
    refine bodyPost_ret (results_cell_row rfl _ _ b4 29 #[.int .i64 7, .int .i64 0, .int .i64 0] (0, 0) _ rfl (set_three HZ9.out) Try.underlying29 rfl (by kernel_rfl)) rfl ?_
    refine ⟨rfl, ⟨g, cf, _, _, _, HX9.out.three (c0 := .int .i64 7) (c1 := .int .i64 0) (c2 := .int .i64 0) HZ9.out⟩, ?_, keeps_three HK9.out HB4.out⟩
    exact below_set (below_set (below_set HB9.out (Nat.le_trans HB.out.size HB4.out)) (Nat.le_trans HB.out.size HB4.out)) (Nat.le_trans HB.out.size HB4.out)
  have hHH := HH.out
  rw [if_neg (fun h => hL0 (HL.out.symm.trans h))] at hHH
  clear HH
  have HH := Aside0.mk hHH
  have e5_ : ((L : Int) == 0) = false := beq_eq_false_iff_ne.2 (by omega)
  have e5n_ : (L == 0) = false := beq_eq_false_iff_ne.2 hL0
  clear hL0 hHH
  go_wp2
  go_loopg [3] k (fun kq v3 wr => ∃ (fs1 : List Fl) (tn1 : List Int) (g cf : Nat) (vt : Value) (f : Nat → Nat) (vs : Nat → Value), Aside0 (RX w0 wr b g cf vt f vs fs1 tn1) ∧ Aside0 (sendsL kq fs1 tn1 = some (o, fs', tn')) ∧ Aside0 (Below w0.heap.size w0 wr) ∧ Aside0 (Keeps W wr) ∧ Aside0 (wr.heap[b4]? = some (.cells #[.int .i64 0, .int .i64 0, .int .i64 0] 29 (0, 0))))
  case atStart => exact ⟨fs, tn, g, cf, vt, f, vs, HX1, HH, HB1, HK1, HZ1⟩
  case round =>
    clear HX HH HX1 HB1 HK1 HZ1 htu HL e5_ e5n_
    obtain ⟨fs1, tn1, g, cf, vt, f, vs, HXr, HHr, HBr, HKr, HZr⟩ := hrel
    cases gk with
    | zero => have := HHr.out; simp [sendsL] at this
    | succ gk =>
    have hHH := HHr.out
    rw [sendsL] at hHH
    split at hHH
    case isFalse => cases hHH
    rename_i hc
    obtain ⟨ht0, ht1, hi0, hi1, hf1, hok⟩ := hc
    obtain ⟨n, hn⟩ : ∃ n : Nat, rd tn1 0 = (n : Int) := ⟨(rd tn1 0).toNat, by omega⟩
    rw [hn, Int.toNat_natCast] at hHH hok
    obtain ⟨x, hxe⟩ : ∃ x, fs1.getD n ⟨0, [], 0, false⟩ = x := ⟨_, rfl⟩
    rw [hxe] at hHH hok
    obtain ⟨hws, hd0, hd1, hq0, hq1, hr0, hr1⟩ := hok
    obtain ⟨p, hp⟩ : ∃ p, rd x.ws 0 = p := ⟨_, rfl⟩
    rw [hp] at hHH hr0 hr1
    have HI : Aside0 (n < fs1.length) := ⟨by omega⟩
    have HN := Aside0.mk hn
    have HP := Aside0.mk hp
    have HXE := Aside0.mk hxe
    have HT := Aside0.mk (And.intro ht0 ht1)
    have HWS := Aside0.mk hws
    have HWQ : Aside0 (wrap64 (x.d + x.q) = x.d + x.q) := ⟨w64f (by omega) (by omega)⟩
    obtain ⟨d1, hd1e⟩ : ∃ d, (fedUp x).d = d := ⟨_, rfl⟩
    obtain ⟨fsU, hfsU⟩ : ∃ y, upd fs1 n fedUp = y := ⟨_, rfl⟩
    rw [hd1e, hfsU] at hHH
    have HH := Aside0.mk hHH
    have HD1 := Aside0.mk hd1e
    have HFU := Aside0.mk hfsU
    have p0 : ((0 : Int) ≤ (n : Int)) = True := eq_true (by omega)
    have q0 : ((n : Int) < (fs1.length : Int)) = True := eq_true (by omega)
    have q0n : (n < fs1.length) = True := eq_true HI.out
    obtain ⟨gt, ot, ct, hvt, _, _, _⟩ := Kd.Q_form HXr.out.qt ht0
    have HVT := Aside0.mk hvt
    have htu := HXr.out.turn.trans (congrArg some hvt)
    have hQt : iQ wr w0.heap.size (fun k => f k = 0) (.slice (some ⟨gt, ot, none⟩) tn1.length ct) tn1 := by have h1 := HXr.out.qt; rw [hvt] at h1; exact h1
    have ht0c : wr.cell? ⟨gt, ot, none⟩ = some (.int .i64 (n : Int)) := by
      rw [← hn]
      have e := (Kd.Q_cell (enc := Value.int .i64) (h1 := fun _ => rfl) (0 : Int) hQt 0 (by omega) (by omega)).1
      simpa [rdOf, rd] using e
    have htl : ((0 : Int) < (tn1.length : Int)) = True := eq_true (by omega)
    have htln : (0 < tn1.length) = True := eq_true ht0
    have hfl := HXr.out.flows
    clear ht0 ht1 hi0 hi1 hf1 hws hd0 hd1 hq0 hq1 hr0 hr1 hn hp hxe hd1e hfsU hHH hvt hQt
    cases hfed : x.fed with
    | true =>
      have hcf : wr.cell? ⟨g, n * 4 + 3, none⟩ = some (.bool true) := by have h1 := HXr.out.fed' HI.out; rw [HXE.out, hfed] at h1; exact h1
      have HX8 : Aside0 (RX w0 wr b g cf vt f vs fsU tn1) := ⟨by
        have e : upd fs1 n fedUp = fs1 := upd_same HI.out (by rw [HXE.out]; simp [fedUp, hfed])
        rw [← HFU.out, e]
        exact HXr.out⟩
      have HB8 := HBr
      have HK8 := HKr
      have HZ8 := HZr
      clear hfed
      go_upto_region 8 with (fail)
      clear htu ht0c hfl hcf
      have hnU : n < fsU.length := by rw [← HFU.out, upd_length]; exact HI.out
      have HNU := Aside0.mk hnU
      have hyd : fsU.getD n ⟨0, [], 0, false⟩ = fedUp x := by rw [← HFU.out, upd_getD HI.out, HXE.out]
      have hyw : (fedUp x).ws = x.ws := by unfold fedUp; split <;> rfl
      have hQw : iQ wr w0.heap.size (fun k => f k = n + 1) (vs n) x.ws := by have h1 := HX8.out.qs' hnU; rw [hyd, hyw] at h1; exact h1
      obtain ⟨gq, oq, cq, hvs, _, _, _⟩ := Kd.Q_form hQw HWS.out
      have hQw2 := hQw
      rw [hvs] at hQw2
      have hw8 : wr.cell? ⟨g, n * 4 + 1, none⟩ = some (.slice (some ⟨gq, oq, none⟩) x.ws.length cq) := (HX8.out.w n hnU).trans (congrArg some hvs)
      have hc8 : wr.cell? ⟨gq, oq, none⟩ = some (.int .i64 p) := by
        rw [← HP.out]
        have e := (Kd.Q_cell (enc := Value.int .i64) (h1 := fun _ => rfl) (0 : Int) hQw2 0 (by omega) (by have := HWS.out; omega)).1
        simpa [rdOf, rd] using e
      have hd8 : wr.cell? ⟨g, n * 4 + 2, none⟩ = some (.int .i64 d1) := by have h1 := HX8.out.d' hnU; rw [hyd, HD1.out] at h1; exact h1
      have hwl : ((0 : Int) < (x.ws.length : Int)) = True := eq_true (by have := HWS.out; omega)
      have hwln : (0 < x.ws.length) = True := eq_true HWS.out
      obtain ⟨le, hle⟩ : ∃ t : Bool, decide (p ≤ d1) = t := ⟨_, rfl⟩
      clear hnU hyd hyw hQw hQw2 hvs
      refine start_ (n := 11) (S := fun w' => w'.cell? ⟨g, n * 4 + 1, none⟩ = some (.slice (some ⟨gq, oq, none⟩) x.ws.length cq) ∧ w'.cell? ⟨gq, oq, none⟩ = some (.int .i64 p) ∧ w'.cell? ⟨g, n * 4 + 2, none⟩ = some (.int .i64 d1)) (ds := []) #[false, false, false, false, false, false, false, false, false, false, false] (by kernel_rfl) rfl rfl ⟨hw8, hc8, hd8⟩ (fun hHeld => ?_)
      refine with_tabW fsends.tab8 fsends.bits8 (fun HT_ HW_ => ?_)
      obtain ⟨W9, hw_⟩ : ∃ w, w = wr.drew := ⟨_, rfl⟩
      have hl_ : Below wr.heap.size wr W9 := by rw [hw_]; exact below_drew1 (Below.refl _ _)
      rw [← hw_] at hHeld ⊢
      have HX9 := Aside0.mk (HX8.out.below hl_)
      have HK9 := Aside0.mk (HK8.out.below hl_)
      have HB9 := Aside0.mk (below_then HB8.out HB8.out.size hl_)
      have HZ9 := Aside0.mk (blk_below HZ8.out hl_)
      clear hw_ hl_
      refine pure_ (i := 0) (N := some 43) (v := ?_) (a' := ?_) #[true, false, false, false, false, false, false, false, false, false, false] rfl rfl (any_of HT_.out (by kernel_rfl)) (fun _ _ _ h => h) (Or.inl ⟨by rfl, ?_⟩) ?_ ?_
      rotate_left
      · intro w'
        go_simp
        with_reducible rfl
      rotate_left
      · simp only [Act.put, List.setIfInBounds_toArray, List.set_cons_zero, List.set_cons_succ, i64_w, i32_w]
        rfl
      refine pure_ (i := 1) (N := some 44) (v := ?_) (a' := ?_) #[true, true, false, false, false, false, false, false, false, false, false] rfl rfl (any_of HT_.out (by kernel_rfl)) (fun _ _ _ h => h) (Or.inl ⟨by rfl, ?_⟩) ?_ ?_
      rotate_left
      · intro w'
        go_simp
        with_reducible rfl
      rotate_left
      · simp only [Act.put, List.setIfInBounds_toArray, List.set_cons_zero, List.set_cons_succ, i64_w, i32_w]
        rfl
      refine pure_ (i := 2) (N := some 45) (v := ?_) (a' := ?_) #[true, true, true, false, false, false, false, false, false, false, false] rfl rfl (any_of HT_.out (by kernel_rfl)) (fun _ _ _ h => h) (Or.inl ⟨by rfl, ?_⟩) ?_ ?_
      rotate_left
      · intro w'
        go_simp
        with_reducible rfl
      rotate_left
      · simp only [Act.put, List.setIfInBounds_toArray, List.set_cons_zero, List.set_cons_succ, i64_w, i32_w]
        rfl
      refine pure_ (i := 6) (N := some 49) (v := ?_) (a' := ?_) #[true, true, true, false, false, false, true, false, false, false, false] rfl rfl (any_of HT_.out (by kernel_rfl)) (fun _ _ _ h => h) (Or.inl ⟨by rfl, ?_⟩) ?_ ?_
      rotate_left
      · intro w'
        go_simp
        with_reducible rfl
      rotate_left
      · simp only [Act.put, List.setIfInBounds_toArray, List.set_cons_zero, List.set_cons_succ, i64_w, i32_w]
        rfl
      refine pure_ (i := 7) (N := some 50) (v := ?_) (a' := ?_) #[true, true, true, false, false, false, true, true, false, false, false] rfl rfl (any_of HT_.out (by kernel_rfl)) (fun _ _ _ h => h) (Or.inl ⟨by rfl, ?_⟩) ?_ ?_
      rotate_left
      · intro w'
        go_simp
        with_reducible rfl
      rotate_left
      · simp only [Act.put, List.setIfInBounds_toArray, List.set_cons_zero, List.set_cons_succ, i64_w, i32_w]
        rfl
      refine pure_ (i := 8) (N := some 51) (v := ?_) (a' := ?_) #[true, true, true, false, false, false, true, true, true, false, false] rfl rfl (any_of HT_.out (by kernel_rfl)) (fun _ _ _ h => h) (Or.inl ⟨by rfl, ?_⟩) ?_ ?_
      rotate_left
      · intro w'
        go_simp
        with_reducible rfl
      rotate_left
      · simp only [Act.put, List.setIfInBounds_toArray, List.set_cons_zero, List.set_cons_succ, i64_w, i32_w]
        rfl
      refine take_ (i := 3) (N := some 46) (v := ?_) (a' := ?_) #[true, true, true, true, false, false, true, true, true, false, false] rfl rfl (take_ofW HT_.out HW_.out (by kernel_rfl)) (fun _ _ _ h => h) (Or.inl ⟨by rfl, ?_⟩) hHeld ?_ ?_
      rotate_left
      · rintro w' ⟨s0, s1, s2⟩
        go_simp
        with_reducible rfl
      rotate_left
      · simp only [Act.put, List.setIfInBounds_toArray, List.set_cons_zero, List.set_cons_succ, i64_w, i32_w]
        rfl
      refine pure_ (i := 4) (N := some 47) (v := ?_) (a' := ?_) #[true, true, true, true, true, false, true, true, true, false, false] rfl rfl (any_of HT_.out (by kernel_rfl)) (fun _ _ _ h => h) (Or.inl ⟨by rfl, ?_⟩) ?_ ?_
      rotate_left
      · intro w'
        go_simp
        with_reducible rfl
      rotate_left
      · simp only [Act.put, List.setIfInBounds_toArray, List.set_cons_zero, List.set_cons_succ, i64_w, i32_w]
        rfl
      refine take_ (i := 5) (N := some 48) (v := ?_) (a' := ?_) #[true, true, true, true, true, true, true, true, true, false, false] rfl rfl (take_ofW HT_.out HW_.out (by kernel_rfl)) (fun _ _ _ h => h) (Or.inl ⟨by rfl, ?_⟩) hHeld ?_ ?_
      rotate_left
      · rintro w' ⟨s0, s1, s2⟩
        go_simp
        with_reducible rfl
      rotate_left
      · simp only [Act.put, List.setIfInBounds_toArray, List.set_cons_zero, List.set_cons_succ, i64_w, i32_w]
        rfl
      refine take_ (i := 9) (N := some 52) (v := ?_) (a' := ?_) #[true, true, true, true, true, true, true, true, true, true, false] rfl rfl (take_ofW HT_.out HW_.out (by kernel_rfl)) (fun _ _ _ h => h) (Or.inl ⟨by rfl, ?_⟩) hHeld ?_ ?_
      rotate_left
      · rintro w' ⟨s0, s1, s2⟩
        go_simp
        with_reducible rfl
      rotate_left
      · simp only [Act.put, List.setIfInBounds_toArray, List.set_cons_zero, List.set_cons_succ, i64_w, i32_w]
        rfl
      refine pure_ (i := 10) (N := some 53) (v := ?_) (a' := ?_) #[true, true, true, true, true, true, true, true, true, true, true] rfl rfl (any_of HT_.out (by kernel_rfl)) (fun _ _ _ h => h) (Or.inl ⟨by rfl, ?_⟩) ?_ ?_
      rotate_left
      · intro w'
        go_simp
        with_reducible rfl
      rotate_left
      · simp only [Act.put, List.setIfInBounds_toArray, List.set_cons_zero, List.set_cons_succ, i64_w, i32_w]
        rfl
      refine done_ (done_of HT_.out (by kernel_rfl)) ?_
      clear hw8 hc8 hd8
      cases le with
      | true =>
        have HS : Aside0 (sentF fsU tn1 n = some (o, fs', tn')) := ⟨by have h1 := HH.out; rw [if_pos (of_decide_eq_true hle)] at h1; exact h1⟩
        go_wp2_with (first | ((with_reducible refine gate_callee (f := 46) rfl ?_); refine goesL_ (some 56) rfl rfl Try.func46 (by kernel_rfl) rfl #[.pointer (some ⟨b, 0, none⟩), .int .i64 (n : Int)] rfl (by (try simp only [List.map_toArray, List.map_cons, List.map_nil]); first | done | rfl) ?_; refine (sent_calls w0 _ b g cf vt f vs fsU tn1 n o fs' tn' HX9.out HB9.out HS.out).mono ?_; rintro e' Wa ⟨rfl, hxa, hba, hka⟩; refine ⟨_, rfl, ?_⟩; have HXa := Aside0.mk hxa; have HBa := Aside0.mk hba; have HKa := Aside0.mk (HK9.out.trans hka); have HZa := Aside0.mk (hka.blk HZ9.out); have hz0_ := (blk_cell HZa.out 0).trans rfl; have hf0_ := blk_frozen HZa.out 0; have hz1_ := (blk_cell HZa.out 1).trans rfl; have hf1_ := blk_frozen HZa.out 1; have hz2_ := (blk_cell HZa.out 2).trans rfl; have hf2_ := blk_frozen HZa.out 2; clear hxa hba hka))
        (try simp only [Exit.inBlock, Exit.then])
        refine bodyPost_ret (results_cell_row rfl _ _ b4 29 #[.int .i64 o.1, .int .i64 o.2.1, .int .i64 o.2.2] (0, 0) _ rfl (set_three HZa.out) Try.underlying29 rfl (by kernel_rfl)) rfl ?_
        obtain ⟨ga, cfa, vta, fa, vsa, hxa⟩ := HXa.out
        refine ⟨rfl, ⟨ga, cfa, _, _, _, hxa.three (c0 := .int .i64 o.1) (c1 := .int .i64 o.2.1) (c2 := .int .i64 o.2.2) HZa.out⟩, ?_, keeps_three HKa.out HB4.out⟩
        exact below_set (below_set (below_set HBa.out (Nat.le_trans HB.out.size HB4.out)) (Nat.le_trans HB.out.size HB4.out)) (Nat.le_trans HB.out.size HB4.out)
      | false =>
        have HS : Aside0 (sendsL gk (upd fsU n (fun z => { z with fed := false })) (tn1.drop 1 ++ [(n : Int)]) = some (o, fs', tn')) := ⟨by have h1 := HH.out; rw [if_neg (of_decide_eq_false hle)] at h1; exact h1⟩
        have hfzb := HX9.out.frozen_g (n * 4 + 3)
        have hcfb := HX9.out.fed' HNU.out
        clear hle
        go_upto_region 11 with (fail)
        obtain ⟨Wd, hWd⟩ : ∃ w, W9.setCell ⟨g, n * 4 + 3, none⟩ (.bool false) = w := ⟨_, rfl⟩
        rw [hWd]
        have HXd : Aside0 (RX w0 Wd b g cf vt f vs (upd fsU n (fun z => { z with fed := false })) tn1) := ⟨by rw [← hWd]; exact HX9.out.updFed HNU.out false⟩
        have hkd : Keeps W9 Wd := by rw [← hWd]; exact HX9.out.keepsG _ _
        have HKd := Aside0.mk (HK9.out.trans hkd)
        have HZd := Aside0.mk (hkd.blk HZ9.out)
        have HBd : Aside0 (Below w0.heap.size w0 Wd) := ⟨by rw [← hWd]; exact below_set HB9.out HX9.out.hg0⟩
        clear hWd hkd hfzb hcfb
        obtain ⟨f3, hf3⟩ : ∃ f' : Nat → Nat, (fun k => if k < Wd.heap.size then f k else 0) = f' := ⟨_, rfl⟩
        have HXf : Aside0 (RX w0 Wd b g cf vt f3 vs (upd fsU n (fun z => { z with fed := false })) tn1) := ⟨by rw [← hf3]; exact HXd.out.fresh 0⟩
        have HFR : Aside0 (∀ k, Wd.heap.size ≤ k → f3 k = 0) := ⟨fun k hk => by rw [← hf3]; simp [Nat.not_lt.2 hk]⟩
        have hQt : iQ Wd w0.heap.size (fun k => f3 k = 0) (.slice (some ⟨gt, ot, none⟩) tn1.length ct) tn1 := by have h1 := HXf.out.qt; rw [HVT.out] at h1; exact h1
        obtain ⟨i3, hi3, hz3⟩ := Option.map_eq_some_iff.1 info3f
        have hsz3 : i3.size = 1 := by simp only [Prod.mk.injEq] at hz3; exact hz3.2.1
        clear hz3 hf3
        have hcut := cut_from (P := Try.prog) 22 3 .i64 Try.underlying22 hi3 1 hsz3 (some ⟨gt, ot, none⟩) tn1.length ct (1 : Int) (by omega) (by have := HT.out; omega)
        rw [show (1 : Int).toNat = 1 from rfl] at hcut
        have hQd := Kd.Q_drop (k := 1) hQt (by have := HT.out; omega)
        rw [show (Kd.int .i64).sz = 1 from rfl] at hQd
        have HQD := Aside0.mk hQd
        have HOBx := cut_own (some (⟨gt, ot, none⟩ : Addr)) (tn1.length) (tn1.length - 1) ct (ct - 1)
        generalize (if ct = 1 then (some (⟨gt, ot, none⟩ : Addr)) else (some (⟨gt, ot, none⟩ : Addr)).map (·.add (1 * 1))) = At at hcut HQD HOBx
        obtain ⟨L1, hL1⟩ : ∃ m : Nat, tn1.length - 1 = m := ⟨_, rfl⟩
        obtain ⟨C1, hC1⟩ : ∃ m : Nat, ct - 1 = m := ⟨_, rfl⟩
        rw [hL1, hC1] at hcut HQD HOBx
        have HOB : Aside0 (vt.ownBlock = (Value.slice At L1 C1).ownBlock) := ⟨by rw [HVT.out]; exact HOBx⟩
        have htud := HXf.out.turn.trans (congrArg some HVT.out)
        clear hQt hQd hL1 hC1 hi3 hsz3 HOBx
        go_wp2_with (first | ((with_reducible refine gate_builtin (b := .append) (xs := #[.tmp 65, .tmp 67]) rfl ?_); at_builtin; refine Kd.Q_append (Kd.int .i64) (w0 := w0) (W := Wd) w0.heap.size rfl (.tmp 65) (.tmp 67) 22 3 (.int .i64 0) 8 rfl Try.underlying22 info3f rfl (by decide) (by omega) (.slice At L1 C1) (tn1.drop 1) (n : Int) [.int .i64 (n : Int)] (fun k => f3 k = 0) (fun _ => False) rfl rfl rfl (fun _ h => h.elim) HFR.out HQD.out HBd.out HBd.out.size ?aT ?_; (case aT => rw [List.length_drop]; have := HT.out; omega); intro v68 We ho hb hg hat; have hgv := HOB.out; rw [← hgv] at hg; obtain ⟨tn2, htn2⟩ : ∃ y, tn1.drop 1 ++ [(n : Int)] = y := ⟨_, rfl⟩; rw [htn2] at ho; have HTN2 := Aside0.mk htn2; obtain ⟨A8, c8, e8, hc8⟩ := Kd.Q_slice ho; subst e8; have HOe := Aside0.mk ho; have HGe := Aside0.mk hg; have HBe := Aside0.mk hb; have htue := (blk_cell (HXf.out.bAfter hg) 1).trans rfl; have hfze := blk_frozen (HXf.out.bAfter hg) 1; clear ho hb hg hat hc8 htn2 hgv))
        go_roundg gk
        case measure => omega
        case rel =>
          refine ⟨_, _, g, cf, (.slice A8 tn2.length c8), f3, vs, ⟨HXf.out.newTn HGe.out HOe.out⟩, ⟨by rw [← HTN2.out]; exact HS.out⟩, ⟨below_set HBe.out HXf.out.hb0⟩, ⟨?_⟩, ⟨?_⟩⟩
          · exact HKd.out.trans ((HXf.out.keepsT HGe.out).set (p := ⟨b, 1, none⟩) (HXf.out.bAfter HGe.out) (.inl rfl) _)
          · exact ((HXf.out.keepsT HGe.out).set (p := ⟨b, 1, none⟩) (HXf.out.bAfter HGe.out) (.inl rfl) _).blk HZd.out
    | false =>
      have hcf : wr.cell? ⟨g, n * 4 + 3, none⟩ = some (.bool false) := by have h1 := HXr.out.fed' HI.out; rw [HXE.out, hfed] at h1; exact h1
      have hfz := HXr.out.frozen_g (n * 4 + 3)
      have HFED := Aside0.mk hfed
      clear hfed
      go_upto_region 7 with (fail)
      obtain ⟨W6, hW6⟩ : ∃ w, wr.setCell ⟨g, n * 4 + 3, none⟩ (.bool true) = w := ⟨_, rfl⟩
      rw [hW6]
      have HX6 : Aside0 (RX w0 W6 b g cf vt f vs (upd fs1 n (fun z => { z with fed := true })) tn1) := ⟨by rw [← hW6]; exact HXr.out.updFed HI.out true⟩
      have hk6 : Keeps wr W6 := by rw [← hW6]; exact HXr.out.keepsG _ _
      have HK6 := Aside0.mk (HKr.out.trans hk6)
      have HZ6 := Aside0.mk (hk6.blk HZr.out)
      have HB6 : Aside0 (Below w0.heap.size w0 W6) := ⟨by rw [← hW6]; exact below_set HBr.out HXr.out.hg0⟩
      clear hW6 hk6 htu ht0c hfl hcf hfz
      have hD6 : W6.cell? ⟨g, n * 4 + 2, none⟩ = some (.int .i64 x.d) := by have h1 := HX6.out.d' (i := n) (by rw [upd_length]; exact HI.out); rw [upd_getD HI.out, HXE.out] at h1; exact h1
      have hQ6 : W6.cell? ⟨g, n * 4, none⟩ = some (.int .i64 x.q) := by have h1 := HX6.out.q' (i := n) (by rw [upd_length]; exact HI.out); rw [upd_getD HI.out, HXE.out] at h1; exact h1
      have hwq := HWQ.out
      refine start_ (n := 12) (S := fun w' => w'.cell? ⟨g, n * 4 + 2, none⟩ = some (.int .i64 x.d) ∧ w'.cell? ⟨g, n * 4, none⟩ = some (.int .i64 x.q)) (ds := [11]) #[false, false, false, false, false, false, false, false, false, false, false, false] (by kernel_rfl) rfl rfl ⟨hD6, hQ6⟩ (fun hHeld => ?_)
      refine with_tabW fsends.tab7 fsends.bits7 (fun HT_ HW_ => ?_)
      obtain ⟨W7, hw_⟩ : ∃ w, w = W6.drew := ⟨_, rfl⟩
      have hl_ : Below W6.heap.size W6 W7 := by rw [hw_]; exact below_drew1 (Below.refl _ _)
      rw [← hw_] at hHeld ⊢
      have HX7 := Aside0.mk (HX6.out.below hl_)
      have HK7 := Aside0.mk (HK6.out.below hl_)
      have HB7 := Aside0.mk (below_then HB6.out HB6.out.size hl_)
      have HZ7 := Aside0.mk (blk_below HZ6.out hl_)
      have hfz7 := HX7.out.frozen_g (n * 4 + 2)
      have hD7 : W7.cell? ⟨g, n * 4 + 2, none⟩ = some (.int .i64 x.d) := by have h1 := HX7.out.d' (i := n) (by rw [upd_length]; exact HI.out); rw [upd_getD HI.out, HXE.out] at h1; exact h1
      clear hw_ hl_
      refine pure_ (i := 0) (N := some 32) (v := ?_) (a' := ?_) #[true, false, false, false, false, false, false, false, false, false, false, false] rfl rfl (any_of HT_.out (by kernel_rfl)) (fun _ _ _ h => h) (Or.inl ⟨by rfl, ?_⟩) ?_ ?_
      rotate_left
      · intro w'
        go_simp
        with_reducible rfl
      rotate_left
      · simp only [Act.put, List.setIfInBounds_toArray, List.set_cons_zero, List.set_cons_succ, i64_w, i32_w, hwq]
        rfl
      refine pure_ (i := 1) (N := some 33) (v := ?_) (a' := ?_) #[true, true, false, false, false, false, false, false, false, false, false, false] rfl rfl (any_of HT_.out (by kernel_rfl)) (fun _ _ _ h => h) (Or.inl ⟨by rfl, ?_⟩) ?_ ?_
      rotate_left
      · intro w'
        go_simp
        with_reducible rfl
      rotate_left
      · simp only [Act.put, List.setIfInBounds_toArray, List.set_cons_zero, List.set_cons_succ, i64_w, i32_w, hwq]
        rfl
      refine pure_ (i := 2) (N := some 34) (v := ?_) (a' := ?_) #[true, true, true, false, false, false, false, false, false, false, false, false] rfl rfl (any_of HT_.out (by kernel_rfl)) (fun _ _ _ h => h) (Or.inl ⟨by rfl, ?_⟩) ?_ ?_
      rotate_left
      · intro w'
        go_simp
        with_reducible rfl
      rotate_left
      · simp only [Act.put, List.setIfInBounds_toArray, List.set_cons_zero, List.set_cons_succ, i64_w, i32_w, hwq]
        rfl
      refine pure_ (i := 4) (N := some 36) (v := ?_) (a' := ?_) #[true, true, true, false, true, false, false, false, false, false, false, false] rfl rfl (any_of HT_.out (by kernel_rfl)) (fun _ _ _ h => h) (Or.inl ⟨by rfl, ?_⟩) ?_ ?_
      rotate_left
      · intro w'
        go_simp
        with_reducible rfl
      rotate_left
      · simp only [Act.put, List.setIfInBounds_toArray, List.set_cons_zero, List.set_cons_succ, i64_w, i32_w, hwq]
        rfl
      refine pure_ (i := 5) (N := some 37) (v := ?_) (a' := ?_) #[true, true, true, false, true, true, false, false, false, false, false, false] rfl rfl (any_of HT_.out (by kernel_rfl)) (fun _ _ _ h => h) (Or.inl ⟨by rfl, ?_⟩) ?_ ?_
      rotate_left
      · intro w'
        go_simp
        with_reducible rfl
      rotate_left
      · simp only [Act.put, List.setIfInBounds_toArray, List.set_cons_zero, List.set_cons_succ, i64_w, i32_w, hwq]
        rfl
      refine pure_ (i := 6) (N := some 38) (v := ?_) (a' := ?_) #[true, true, true, false, true, true, true, false, false, false, false, false] rfl rfl (any_of HT_.out (by kernel_rfl)) (fun _ _ _ h => h) (Or.inl ⟨by rfl, ?_⟩) ?_ ?_
      rotate_left
      · intro w'
        go_simp
        with_reducible rfl
      rotate_left
      · simp only [Act.put, List.setIfInBounds_toArray, List.set_cons_zero, List.set_cons_succ, i64_w, i32_w, hwq]
        rfl
      refine take_ (i := 3) (N := some 35) (v := ?_) (a' := ?_) #[true, true, true, true, true, true, true, false, false, false, false, false] rfl rfl (take_ofW HT_.out HW_.out (by kernel_rfl)) (fun _ _ _ h => h) (Or.inl ⟨by rfl, ?_⟩) hHeld ?_ ?_
      rotate_left
      · rintro w' ⟨s0, s1⟩
        go_simp
        with_reducible rfl
      rotate_left
      · simp only [Act.put, List.setIfInBounds_toArray, List.set_cons_zero, List.set_cons_succ, i64_w, i32_w, hwq]
        rfl
      refine take_ (i := 7) (N := some 39) (v := ?_) (a' := ?_) #[true, true, true, true, true, true, true, true, false, false, false, false] rfl rfl (take_ofW HT_.out HW_.out (by kernel_rfl)) (fun _ _ _ h => h) (Or.inl ⟨by rfl, ?_⟩) hHeld ?_ ?_
      rotate_left
      · rintro w' ⟨s0, s1⟩
        go_simp
        with_reducible rfl
      rotate_left
      · simp only [Act.put, List.setIfInBounds_toArray, List.set_cons_zero, List.set_cons_succ, i64_w, i32_w, hwq]
        rfl
      refine pure_ (i := 8) (N := some 40) (v := ?_) (a' := ?_) #[true, true, true, true, true, true, true, true, true, false, false, false] rfl rfl (any_of HT_.out (by kernel_rfl)) (fun _ _ _ h => h) (Or.inl ⟨by rfl, ?_⟩) ?_ ?_
      rotate_left
      · intro w'
        go_simp
        with_reducible rfl
      rotate_left
      · simp only [Act.put, List.setIfInBounds_toArray, List.set_cons_zero, List.set_cons_succ, i64_w, i32_w, hwq]
        rfl
      refine pure_ (i := 9) (N := some 41) (v := ?_) (a' := ?_) #[true, true, true, true, true, true, true, true, true, true, false, false] rfl rfl (any_of HT_.out (by kernel_rfl)) (fun _ _ _ h => h) (Or.inl ⟨by rfl, ?_⟩) ?_ ?_
      rotate_left
      · intro w'
        go_simp
        with_reducible rfl
      rotate_left
      · simp only [Act.put, List.setIfInBounds_toArray, List.set_cons_zero, List.set_cons_succ, i64_w, i32_w, hwq]
        rfl
      refine pure_ (i := 10) (N := some 42) (v := ?_) (a' := ?_) #[true, true, true, true, true, true, true, true, true, true, true, false] rfl rfl (any_of HT_.out (by kernel_rfl)) (fun _ _ _ h => h) (Or.inl ⟨by rfl, ?_⟩) ?_ ?_
      rotate_left
      · intro w'
        go_simp
        with_reducible rfl
      rotate_left
      · simp only [Act.put, List.setIfInBounds_toArray, List.set_cons_zero, List.set_cons_succ, i64_w, i32_w, hwq]
        rfl
      refine last_ (i := 11) (N := none) #[true, true, true, true, true, true, true, true, true, true, true, true] rfl rfl (one_of HT_.out (by kernel_rfl)) (by decide) (fun K hK => ?_)
      refine skip_ (w1 := ?_) (by rfl) rfl ?_ ?_
      rotate_left
      · go_simp
        rfl
      refine hK.out _ _ ?_
      clear hK K
      refine done_ (done_of HT_.out (by kernel_rfl)) ?_
      clear hD6 hQ6 hwq hfz7 hD7
      obtain ⟨W8, hW8⟩ : ∃ w, W7.setCell ⟨g, n * 4 + 2, none⟩ (.int .i64 (x.d + x.q)) = w := ⟨_, rfl⟩
      rw [hW8]
      have HX8 : Aside0 (RX w0 W8 b g cf vt f vs fsU tn1) := ⟨by
        rw [← hW8, ← HFU.out]
        have h1 := HX7.out.updD (i := n) (by rw [upd_length]; exact HI.out) (x.d + x.q)
        rw [upd_upd HI.out] at h1
        have e : upd fs1 n fedUp = upd fs1 n (fun z => { z with fed := true, d := x.d + x.q }) := by unfold upd; rw [HXE.out]; simp [fedUp, HFED.out]
        rw [e]
        exact h1⟩
      have hk8 : Keeps W7 W8 := by rw [← hW8]; exact HX7.out.keepsG _ _
      have HK8 := Aside0.mk (HK7.out.trans hk8)
      have HZ8 := Aside0.mk (hk8.blk HZ7.out)
      have HB8 : Aside0 (Below w0.heap.size w0 W8) := ⟨by rw [← hW8]; exact below_set HB7.out HXr.out.hg0⟩
      clear hW8 hk8
      go_upto_region 8 with (fail)
      have hnU : n < fsU.length := by rw [← HFU.out, upd_length]; exact HI.out
      have HNU := Aside0.mk hnU
      have hyd : fsU.getD n ⟨0, [], 0, false⟩ = fedUp x := by rw [← HFU.out, upd_getD HI.out, HXE.out]
      have hyw : (fedUp x).ws = x.ws := by unfold fedUp; split <;> rfl
      have hQw : iQ W8 w0.heap.size (fun k => f k = n + 1) (vs n) x.ws := by have h1 := HX8.out.qs' hnU; rw [hyd, hyw] at h1; exact h1
      obtain ⟨gq, oq, cq, hvs, _, _, _⟩ := Kd.Q_form hQw HWS.out
      have hQw2 := hQw
      rw [hvs] at hQw2
      have hw8 : W8.cell? ⟨g, n * 4 + 1, none⟩ = some (.slice (some ⟨gq, oq, none⟩) x.ws.length cq) := (HX8.out.w n hnU).trans (congrArg some hvs)
      have hc8 : W8.cell? ⟨gq, oq, none⟩ = some (.int .i64 p) := by
        rw [← HP.out]
        have e := (Kd.Q_cell (enc := Value.int .i64) (h1 := fun _ => rfl) (0 : Int) hQw2 0 (by omega) (by have := HWS.out; omega)).1
        simpa [rdOf, rd] using e
      have hd8 : W8.cell? ⟨g, n * 4 + 2, none⟩ = some (.int .i64 d1) := by have h1 := HX8.out.d' hnU; rw [hyd, HD1.out] at h1; exact h1
      have hwl : ((0 : Int) < (x.ws.length : Int)) = True := eq_true (by have := HWS.out; omega)
      have hwln : (0 < x.ws.length) = True := eq_true HWS.out
      obtain ⟨le, hle⟩ : ∃ t : Bool, decide (p ≤ d1) = t := ⟨_, rfl⟩
      clear hnU hyd hyw hQw hQw2 hvs
      refine start_ (n := 11) (S := fun w' => w'.cell? ⟨g, n * 4 + 1, none⟩ = some (.slice (some ⟨gq, oq, none⟩) x.ws.length cq) ∧ w'.cell? ⟨gq, oq, none⟩ = some (.int .i64 p) ∧ w'.cell? ⟨g, n * 4 + 2, none⟩ = some (.int .i64 d1)) (ds := []) #[false, false, false, false, false, false, false, false, false, false, false] (by kernel_rfl) rfl rfl ⟨hw8, hc8, hd8⟩ (fun hHeld => ?_)
      refine with_tabW fsends.tab8 fsends.bits8 (fun HT_ HW_ => ?_)
      obtain ⟨W9, hw_⟩ : ∃ w, w = W8.drew := ⟨_, rfl⟩
      have hl_ : Below W8.heap.size W8 W9 := by rw [hw_]; exact below_drew1 (Below.refl _ _)
      rw [← hw_] at hHeld ⊢
      have HX9 := Aside0.mk (HX8.out.below hl_)
      have HK9 := Aside0.mk (HK8.out.below hl_)
      have HB9 := Aside0.mk (below_then HB8.out HB8.out.size hl_)
      have HZ9 := Aside0.mk (blk_below HZ8.out hl_)
      clear hw_ hl_
      refine pure_ (i := 0) (N := some 43) (v := ?_) (a' := ?_) #[true, false, false, false, false, false, false, false, false, false, false] rfl rfl (any_of HT_.out (by kernel_rfl)) (fun _ _ _ h => h) (Or.inl ⟨by rfl, ?_⟩) ?_ ?_
      rotate_left
      · intro w'
        go_simp
        with_reducible rfl
      rotate_left
      · simp only [Act.put, List.setIfInBounds_toArray, List.set_cons_zero, List.set_cons_succ, i64_w, i32_w]
        rfl
      refine pure_ (i := 1) (N := some 44) (v := ?_) (a' := ?_) #[true, true, false, false, false, false, false, false, false, false, false] rfl rfl (any_of HT_.out (by kernel_rfl)) (fun _ _ _ h => h) (Or.inl ⟨by rfl, ?_⟩) ?_ ?_
      rotate_left
      · intro w'
        go_simp
        with_reducible rfl
      rotate_left
      · simp only [Act.put, List.setIfInBounds_toArray, List.set_cons_zero, List.set_cons_succ, i64_w, i32_w]
        rfl
      refine pure_ (i := 2) (N := some 45) (v := ?_) (a' := ?_) #[true, true, true, false, false, false, false, false, false, false, false] rfl rfl (any_of HT_.out (by kernel_rfl)) (fun _ _ _ h => h) (Or.inl ⟨by rfl, ?_⟩) ?_ ?_
      rotate_left
      · intro w'
        go_simp
        with_reducible rfl
      rotate_left
      · simp only [Act.put, List.setIfInBounds_toArray, List.set_cons_zero, List.set_cons_succ, i64_w, i32_w]
        rfl
      refine pure_ (i := 6) (N := some 49) (v := ?_) (a' := ?_) #[true, true, true, false, false, false, true, false, false, false, false] rfl rfl (any_of HT_.out (by kernel_rfl)) (fun _ _ _ h => h) (Or.inl ⟨by rfl, ?_⟩) ?_ ?_
      rotate_left
      · intro w'
        go_simp
        with_reducible rfl
      rotate_left
      · simp only [Act.put, List.setIfInBounds_toArray, List.set_cons_zero, List.set_cons_succ, i64_w, i32_w]
        rfl
      refine pure_ (i := 7) (N := some 50) (v := ?_) (a' := ?_) #[true, true, true, false, false, false, true, true, false, false, false] rfl rfl (any_of HT_.out (by kernel_rfl)) (fun _ _ _ h => h) (Or.inl ⟨by rfl, ?_⟩) ?_ ?_
      rotate_left
      · intro w'
        go_simp
        with_reducible rfl
      rotate_left
      · simp only [Act.put, List.setIfInBounds_toArray, List.set_cons_zero, List.set_cons_succ, i64_w, i32_w]
        rfl
      refine pure_ (i := 8) (N := some 51) (v := ?_) (a' := ?_) #[true, true, true, false, false, false, true, true, true, false, false] rfl rfl (any_of HT_.out (by kernel_rfl)) (fun _ _ _ h => h) (Or.inl ⟨by rfl, ?_⟩) ?_ ?_
      rotate_left
      · intro w'
        go_simp
        with_reducible rfl
      rotate_left
      · simp only [Act.put, List.setIfInBounds_toArray, List.set_cons_zero, List.set_cons_succ, i64_w, i32_w]
        rfl
      refine take_ (i := 3) (N := some 46) (v := ?_) (a' := ?_) #[true, true, true, true, false, false, true, true, true, false, false] rfl rfl (take_ofW HT_.out HW_.out (by kernel_rfl)) (fun _ _ _ h => h) (Or.inl ⟨by rfl, ?_⟩) hHeld ?_ ?_
      rotate_left
      · rintro w' ⟨s0, s1, s2⟩
        go_simp
        with_reducible rfl
      rotate_left
      · simp only [Act.put, List.setIfInBounds_toArray, List.set_cons_zero, List.set_cons_succ, i64_w, i32_w]
        rfl
      refine pure_ (i := 4) (N := some 47) (v := ?_) (a' := ?_) #[true, true, true, true, true, false, true, true, true, false, false] rfl rfl (any_of HT_.out (by kernel_rfl)) (fun _ _ _ h => h) (Or.inl ⟨by rfl, ?_⟩) ?_ ?_
      rotate_left
      · intro w'
        go_simp
        with_reducible rfl
      rotate_left
      · simp only [Act.put, List.setIfInBounds_toArray, List.set_cons_zero, List.set_cons_succ, i64_w, i32_w]
        rfl
      refine take_ (i := 5) (N := some 48) (v := ?_) (a' := ?_) #[true, true, true, true, true, true, true, true, true, false, false] rfl rfl (take_ofW HT_.out HW_.out (by kernel_rfl)) (fun _ _ _ h => h) (Or.inl ⟨by rfl, ?_⟩) hHeld ?_ ?_
      rotate_left
      · rintro w' ⟨s0, s1, s2⟩
        go_simp
        with_reducible rfl
      rotate_left
      · simp only [Act.put, List.setIfInBounds_toArray, List.set_cons_zero, List.set_cons_succ, i64_w, i32_w]
        rfl
      refine take_ (i := 9) (N := some 52) (v := ?_) (a' := ?_) #[true, true, true, true, true, true, true, true, true, true, false] rfl rfl (take_ofW HT_.out HW_.out (by kernel_rfl)) (fun _ _ _ h => h) (Or.inl ⟨by rfl, ?_⟩) hHeld ?_ ?_
      rotate_left
      · rintro w' ⟨s0, s1, s2⟩
        go_simp
        with_reducible rfl
      rotate_left
      · simp only [Act.put, List.setIfInBounds_toArray, List.set_cons_zero, List.set_cons_succ, i64_w, i32_w]
        rfl
      refine pure_ (i := 10) (N := some 53) (v := ?_) (a' := ?_) #[true, true, true, true, true, true, true, true, true, true, true] rfl rfl (any_of HT_.out (by kernel_rfl)) (fun _ _ _ h => h) (Or.inl ⟨by rfl, ?_⟩) ?_ ?_
      rotate_left
      · intro w'
        go_simp
        with_reducible rfl
      rotate_left
      · simp only [Act.put, List.setIfInBounds_toArray, List.set_cons_zero, List.set_cons_succ, i64_w, i32_w]
        rfl
      refine done_ (done_of HT_.out (by kernel_rfl)) ?_
      clear hw8 hc8 hd8
      cases le with
      | true =>
        have HS : Aside0 (sentF fsU tn1 n = some (o, fs', tn')) := ⟨by have h1 := HH.out; rw [if_pos (of_decide_eq_true hle)] at h1; exact h1⟩
        go_wp2_with (first | ((with_reducible refine gate_callee (f := 46) rfl ?_); refine goesL_ (some 56) rfl rfl Try.func46 (by kernel_rfl) rfl #[.pointer (some ⟨b, 0, none⟩), .int .i64 (n : Int)] rfl (by (try simp only [List.map_toArray, List.map_cons, List.map_nil]); first | done | rfl) ?_; refine (sent_calls w0 _ b g cf vt f vs fsU tn1 n o fs' tn' HX9.out HB9.out HS.out).mono ?_; rintro e' Wa ⟨rfl, hxa, hba, hka⟩; refine ⟨_, rfl, ?_⟩; have HXa := Aside0.mk hxa; have HBa := Aside0.mk hba; have HKa := Aside0.mk (HK9.out.trans hka); have HZa := Aside0.mk (hka.blk HZ9.out); have hz0_ := (blk_cell HZa.out 0).trans rfl; have hf0_ := blk_frozen HZa.out 0; have hz1_ := (blk_cell HZa.out 1).trans rfl; have hf1_ := blk_frozen HZa.out 1; have hz2_ := (blk_cell HZa.out 2).trans rfl; have hf2_ := blk_frozen HZa.out 2; clear hxa hba hka))
        (try simp only [Exit.inBlock, Exit.then])
        refine bodyPost_ret (results_cell_row rfl _ _ b4 29 #[.int .i64 o.1, .int .i64 o.2.1, .int .i64 o.2.2] (0, 0) _ rfl (set_three HZa.out) Try.underlying29 rfl (by kernel_rfl)) rfl ?_
        obtain ⟨ga, cfa, vta, fa, vsa, hxa⟩ := HXa.out
        refine ⟨rfl, ⟨ga, cfa, _, _, _, hxa.three (c0 := .int .i64 o.1) (c1 := .int .i64 o.2.1) (c2 := .int .i64 o.2.2) HZa.out⟩, ?_, keeps_three HKa.out HB4.out⟩
        exact below_set (below_set (below_set HBa.out (Nat.le_trans HB.out.size HB4.out)) (Nat.le_trans HB.out.size HB4.out)) (Nat.le_trans HB.out.size HB4.out)
      | false =>
        have HS : Aside0 (sendsL gk (upd fsU n (fun z => { z with fed := false })) (tn1.drop 1 ++ [(n : Int)]) = some (o, fs', tn')) := ⟨by have h1 := HH.out; rw [if_neg (of_decide_eq_false hle)] at h1; exact h1⟩
        have hfzb := HX9.out.frozen_g (n * 4 + 3)
        have hcfb := HX9.out.fed' HNU.out
        clear hle
        go_upto_region 11 with (fail)
        obtain ⟨Wd, hWd⟩ : ∃ w, W9.setCell ⟨g, n * 4 + 3, none⟩ (.bool false) = w := ⟨_, rfl⟩
        rw [hWd]
        have HXd : Aside0 (RX w0 Wd b g cf vt f vs (upd fsU n (fun z => { z with fed := false })) tn1) := ⟨by rw [← hWd]; exact HX9.out.updFed HNU.out false⟩
        have hkd : Keeps W9 Wd := by rw [← hWd]; exact HX9.out.keepsG _ _
        have HKd := Aside0.mk (HK9.out.trans hkd)
        have HZd := Aside0.mk (hkd.blk HZ9.out)
        have HBd : Aside0 (Below w0.heap.size w0 Wd) := ⟨by rw [← hWd]; exact below_set HB9.out HX9.out.hg0⟩
        clear hWd hkd hfzb hcfb
        obtain ⟨f3, hf3⟩ : ∃ f' : Nat → Nat, (fun k => if k < Wd.heap.size then f k else 0) = f' := ⟨_, rfl⟩
        have HXf : Aside0 (RX w0 Wd b g cf vt f3 vs (upd fsU n (fun z => { z with fed := false })) tn1) := ⟨by rw [← hf3]; exact HXd.out.fresh 0⟩
        have HFR : Aside0 (∀ k, Wd.heap.size ≤ k → f3 k = 0) := ⟨fun k hk => by rw [← hf3]; simp [Nat.not_lt.2 hk]⟩
        have hQt : iQ Wd w0.heap.size (fun k => f3 k = 0) (.slice (some ⟨gt, ot, none⟩) tn1.length ct) tn1 := by have h1 := HXf.out.qt; rw [HVT.out] at h1; exact h1
        obtain ⟨i3, hi3, hz3⟩ := Option.map_eq_some_iff.1 info3f
        have hsz3 : i3.size = 1 := by simp only [Prod.mk.injEq] at hz3; exact hz3.2.1
        clear hz3 hf3
        have hcut := cut_from (P := Try.prog) 22 3 .i64 Try.underlying22 hi3 1 hsz3 (some ⟨gt, ot, none⟩) tn1.length ct (1 : Int) (by omega) (by have := HT.out; omega)
        rw [show (1 : Int).toNat = 1 from rfl] at hcut
        have hQd := Kd.Q_drop (k := 1) hQt (by have := HT.out; omega)
        rw [show (Kd.int .i64).sz = 1 from rfl] at hQd
        have HQD := Aside0.mk hQd
        have HOBx := cut_own (some (⟨gt, ot, none⟩ : Addr)) (tn1.length) (tn1.length - 1) ct (ct - 1)
        generalize (if ct = 1 then (some (⟨gt, ot, none⟩ : Addr)) else (some (⟨gt, ot, none⟩ : Addr)).map (·.add (1 * 1))) = At at hcut HQD HOBx
        obtain ⟨L1, hL1⟩ : ∃ m : Nat, tn1.length - 1 = m := ⟨_, rfl⟩
        obtain ⟨C1, hC1⟩ : ∃ m : Nat, ct - 1 = m := ⟨_, rfl⟩
        rw [hL1, hC1] at hcut HQD HOBx
        have HOB : Aside0 (vt.ownBlock = (Value.slice At L1 C1).ownBlock) := ⟨by rw [HVT.out]; exact HOBx⟩
        have htud := HXf.out.turn.trans (congrArg some HVT.out)
        clear hQt hQd hL1 hC1 hi3 hsz3 HOBx
        go_wp2_with (first | ((with_reducible refine gate_builtin (b := .append) (xs := #[.tmp 65, .tmp 67]) rfl ?_); at_builtin; refine Kd.Q_append (Kd.int .i64) (w0 := w0) (W := Wd) w0.heap.size rfl (.tmp 65) (.tmp 67) 22 3 (.int .i64 0) 8 rfl Try.underlying22 info3f rfl (by decide) (by omega) (.slice At L1 C1) (tn1.drop 1) (n : Int) [.int .i64 (n : Int)] (fun k => f3 k = 0) (fun _ => False) rfl rfl rfl (fun _ h => h.elim) HFR.out HQD.out HBd.out HBd.out.size ?aT ?_; (case aT => rw [List.length_drop]; have := HT.out; omega); intro v68 We ho hb hg hat; have hgv := HOB.out; rw [← hgv] at hg; obtain ⟨tn2, htn2⟩ : ∃ y, tn1.drop 1 ++ [(n : Int)] = y := ⟨_, rfl⟩; rw [htn2] at ho; have HTN2 := Aside0.mk htn2; obtain ⟨A8, c8, e8, hc8⟩ := Kd.Q_slice ho; subst e8; have HOe := Aside0.mk ho; have HGe := Aside0.mk hg; have HBe := Aside0.mk hb; have htue := (blk_cell (HXf.out.bAfter hg) 1).trans rfl; have hfze := blk_frozen (HXf.out.bAfter hg) 1; clear ho hb hg hat hc8 htn2 hgv))
        go_roundg gk
        case measure => omega
        case rel =>
          refine ⟨_, _, g, cf, (.slice A8 tn2.length c8), f3, vs, ⟨HXf.out.newTn HGe.out HOe.out⟩, ⟨by rw [← HTN2.out]; exact HS.out⟩, ⟨below_set HBe.out HXf.out.hb0⟩, ⟨?_⟩, ⟨?_⟩⟩
          · exact HKd.out.trans ((HXf.out.keepsT HGe.out).set (p := ⟨b, 1, none⟩) (HXf.out.bAfter HGe.out) (.inl rfl) _)
          · exact ((HXf.out.keepsT HGe.out).set (p := ⟨b, 1, none⟩) (HXf.out.bAfter HGe.out) (.inl rfl) _).blk HZd.out

def badQ (n : Int) : Bool := decide (n < 1) || decide (1500 < n)
set_option maxHeartbeats 2000000 in
set_option maxRecDepth 100000 in
theorem badQ_calls (n : Int) (w : World) : Calls Try.prog 26 #[.int .i64 n] w fun e w' => e = .returned (.bool (badQ n)) ∧ Below w.heap.size w w' := by
  cases h1 : decide (n < 1) <;> cases h2 : decide (1500 < n)
  all_goals
    go_enter Try.func26, Try.ntmps26
    go_wp2
    go_ret
    exact ⟨by simp [badQ, h1, h2], Below.refl _ _⟩
set_option maxHeartbeats 2000000 in
set_option maxRecDepth 100000 in
theorem indexQ_calls (A : Option Addr) (c : Nat) (l : List Int) (w : World) (hr : Kd.C (Kd.int .i64) w A l.length l) (hl : l.length ≤ 1000) :
    Calls Try.prog 45 #[.slice A l.length c, .func (.func 26) #[] #[]] w fun e w' => ∃ i : Int, e = .returned (.int .i64 i) ∧ (0 ≤ i ↔ l.any badQ = true) ∧ Below w.heap.size w w' := by
  have HR := Aside0.mk hr
  clear hr
  go_enter Try.func45, Try.ntmps45
  go_wp2
  go_loopw [8] (fun v8 wr => ∃ j : Nat, v8 = .int .i64 (j : Int) ∧ Aside0 (j ≤ l.length) ∧ Aside0 ((l.take j).any badQ = false) ∧ Aside0 (Below w.heap.size w wr)) (fun v8 _ => l.length - (intOf v8).toNat)
  case atStart => exact ⟨0, rfl, ⟨Nat.zero_le _⟩, ⟨rfl⟩, ⟨Below.refl _ _⟩⟩
  case round =>
    obtain ⟨j, rfl, HJ, HN, HB⟩ := hrel
    by_cases hj : j < l.length
    · have e1_ : decide ((j : Int) < (l.length : Int)) = true := decide_eq_true (by omega)
      have p1 : (0 : Int) ≤ (j : Int) := by omega
      have q1 : (j : Int) < (l.length : Int) := by omega
      obtain ⟨ad, rfl, h0⟩ := Kd.at_int (Kd.C_below HR.out HB.out) (j : Int) p1 q1
      rw [Int.toNat_natCast] at h0
      replace p1 := eq_true p1
      replace q1 := eq_true q1
      have hj4 : j ≤ 1000 := by omega
      have hm : rd l (j : Int) = l[j] := by unfold rd; rw [Int.toNat_natCast, List.getD_eq_getElem?_getD, List.getElem?_eq_getElem hj]; rfl
      have hx : (l.take (j + 1)).any badQ = ((l.take j).any badQ || badQ (rd l (j : Int))) := by rw [List.take_add_one, List.getElem?_eq_getElem hj, Option.toList_some, List.any_append, hm]; simp
      have HX := Aside0.mk hx
      have HM := Aside0.mk hm
      clear hx hm
      cases ho : badQ (rd l (j : Int)) with
      | true =>
        go_wp2_with (first | (go_at_call 26; refine (badQ_calls (rd l (j : Int)) _).mono ?_; rintro e w1 ⟨rfl, hb1⟩; have HB1 := Aside0.mk hb1; clear hb1; rw [ho]))
        go_ret
        refine ⟨_, rfl, ⟨fun _ => List.any_eq_true.2 ⟨l[j], List.getElem_mem hj, by rw [← HM.out]; exact ho⟩, fun _ => by omega⟩, HB.out.trans (HB1.out.mono HB.out.size)⟩
      | false =>
        go_wp2_with (first | (go_at_call 26; refine (badQ_calls (rd l (j : Int)) _).mono ?_; rintro e w1 ⟨rfl, hb1⟩; have HB1 := Aside0.mk hb1; clear hb1; rw [ho]))
        go_roundw
        case measure => simp only [intOf]; omega
        case rel => exact ⟨j + 1, rfl, ⟨by omega⟩, ⟨by rw [HX.out, HN.out, ho]; rfl⟩, ⟨HB.out.trans (HB1.out.mono HB.out.size)⟩⟩
    · have e1_ : decide ((j : Int) < (l.length : Int)) = false := decide_eq_false (by omega)
      have hN := HN.out
      have hJ := HJ.out
      rw [List.take_of_length_le (by omega)] at hN
      go_wp2
      go_ret
      refine ⟨_, rfl, ⟨fun h => absurd h (by decide), fun h => by rw [hN] at h; cases h⟩, HB.out⟩
set_option maxHeartbeats 2000000 in
set_option maxRecDepth 100000 in
theorem containsQ_calls (A : Option Addr) (c : Nat) (l : List Int) (w : World) (hr : Kd.C (Kd.int .i64) w A l.length l) (hl : l.length ≤ 1000) :
    Calls Try.prog 25 #[.slice A l.length c, .func (.func 26) #[] #[]] w fun e w' => e = .returned (.bool (l.any badQ)) ∧ Below w.heap.size w w' := by
  have HR := Aside0.mk hr
  clear hr
  obtain ⟨bo, hbo⟩ : ∃ bo, l.any badQ = bo := ⟨_, rfl⟩
  go_enter Try.func25, Try.ntmps25
  go_wp2_with (first | ((with_reducible refine gate_callee (f := 45) rfl ?_); refine goesL_ (some 7) rfl rfl Try.func45 (by kernel_rfl) rfl #[.slice A l.length c, .func (.func 26) #[] #[]] rfl (by (try simp only [List.map_toArray, List.map_cons, List.map_nil]); first | done | rfl) ?_; refine (indexQ_calls A c l _ HR.out hl).mono ?_; rintro e' w1 ⟨i_, rfl, hi_, hb1⟩; refine ⟨_, rfl, ?_⟩; have HI := Aside0.mk hi_; have HB1 := Aside0.mk hb1; clear hi_ hb1; obtain ⟨hd, hhd⟩ : ∃ t, decide (0 ≤ i_) = t := ⟨_, rfl⟩))
  go_ret
  have e : hd = l.any badQ := by
    rw [← hhd]
    cases hv : l.any badQ with
    | true => exact decide_eq_true (HI.out.2 hv)
    | false => exact decide_eq_false (fun h => by have := HI.out.1 h; rw [hv] at this; cases this)
  exact ⟨by rw [← e]; rfl, HB1.out⟩
/-- A flow as it is made: its quantum alone. -/
def kfl0 : Kd Int := Kd.iso (Kd.pair (Kd.int .i64) (Kd.pair (Kd.scalar (fun _ : Unit => Value.slice none 0 0) (fun _ => rfl)) (Kd.pair (Kd.int .i64) Kd.bool))) (fun x : Int => (x, (), 0, false))
theorem kfl0_open {w : World} {x : Int} {cs : List Value} (h : kfl0.K w x cs) : cs = [.int .i64 x, .slice none 0 0, .int .i64 0, .bool false] := by
  obtain ⟨_, _, rfl, rfl, _, _, rfl, rfl, _, _, rfl, rfl, rfl⟩ := h
  rfl
theorem kfl0_mkM (w : World) (base : Nat) (ok : Nat → Prop) (x : Int) : kfl0.M w base ok x [.int .i64 x, .slice none 0 0, .int .i64 0, .bool false] := ⟨[.int .i64 x], _, rfl, rfl, [.slice none 0 0], _, rfl, rfl, [.int .i64 0], [.bool false], rfl, rfl, rfl⟩
theorem kfl0_M {w : World} {base : Nat} {ok : Nat → Prop} : ∀ (x : Int) cs, kfl0.K w x cs → kfl0.M w base ok x cs := fun x cs h => by rw [kfl0_open h]; exact kfl0_mkM _ _ _ _
theorem info85f : (Try.prog.info? 85).map (fun i => (i.zero, i.size, i.bytes)) = some (some (.agg #[.int .i64 0, .slice none 0 0, .int .i64 0, .bool false]), 4, 48) := by kernel_rfl
theorem info29s : (Try.prog.info? 29).map (fun i => (i.zero, i.size, i.bytes)) = some (some (.agg #[.int .i64 0, .int .i64 0, .int .i64 0]), 3, 24) := by kernel_rfl
def newFl (q : Int) : Fl := ⟨q, [], 0, false⟩
theorem RX.start {w0 W : World} {b g cf : Nat} {qs : List Int} (hb0 : w0.heap.size ≤ b) (hb : W.heap[b]? = some (.cells #[.slice (some ⟨g, 0, none⟩) qs.length cf, .slice none 0 0] 83 (0, 0))) (hr : kfl0.R 85 W w0.heap.size (fun _ => True) (.slice (some ⟨g, 0, none⟩) qs.length cf) qs) :
    RX w0 W b g cf (.slice none 0 0) (fun _ => 0) (fun _ => .slice none 0 0) (qs.map newFl) [] := by
  have he : ∀ i (hi : i < qs.length), W.cell? ⟨g, i * 4, none⟩ = some (.int .i64 qs[i]) ∧ W.cell? ⟨g, i * 4 + 1, none⟩ = some (.slice none 0 0) ∧ W.cell? ⟨g, i * 4 + 2, none⟩ = some (.int .i64 0) ∧ W.cell? ⟨g, i * 4 + 3, none⟩ = some (.bool false) := by
    intro i hi
    obtain ⟨c, _, hM, hc, _⟩ := Kd.R_elem (d := kfl0) hr 0 (i : Int) (by omega) (by omega)
    have hc' := kfl0_open (kfl0.K_of_M hM)
    rw [Int.toNat_natCast, List.getD_eq_getElem?_getD, List.getElem?_eq_getElem hi] at hc'
    subst hc'
    rw [Int.toNat_natCast] at hc
    exact ⟨hc 0 _ rfl, hc 1 _ rfl, hc 2 _ rfl, hc 3 _ rfl⟩
  obtain ⟨cells, hg⟩ := Kd.R_typed hr g (by simp [Value.ownBlock])
  refine ⟨hb0, Kd.R_base hr g (by simp [Value.ownBlock]), by rw [List.length_map]; exact hb, ⟨_, hg⟩, by rw [List.length_map]; exact (Kd.R_reads' hr).2.1, fun i hi => ?_, fun i hi => ?_, fun i hi => ?_, fun i hi => ?_, fun i hi => ?_, Kd.Q_nil _ _ _ _ _⟩
  all_goals rw [List.length_map] at hi
  · rw [List.getElem_map]; exact (he i hi).1
  · exact (he i hi).2.1
  · rw [List.getElem_map]; exact (he i hi).2.2.1
  · rw [List.getElem_map]; exact (he i hi).2.2.2
  · rw [List.getElem_map]; exact Kd.Q_nil _ _ _ _ _
/-- What changes blocks of other types alone leaves the ring as it is. -/
theorem RX.typed {w0 W W1 : World} {b g cf : Nat} {vt : Value} {f : Nat → Nat} {vs : Nat → Value} {fs : List Fl} {tn : List Int} (h : RX w0 W b g cf vt f vs fs tn) (hs : ∀ (k : Nat) (cs : Array Value) (t : TypeId), W.heap[k]? = some (.cells cs t (0, 0)) → (t = 3 ∨ t = 83 ∨ t = 85) → W1.heap[k]? = W.heap[k]?) : RX w0 W1 b g cf vt f vs fs tn := by
  obtain ⟨cur, hc⟩ := h.hg
  have hc1 : ∀ o, W1.cell? ⟨g, o, none⟩ = W.cell? ⟨g, o, none⟩ := fun o => cell_same (hs g _ _ hc (.inr (.inr rfl)))
  have hq : ∀ {ok v xs}, iQ W w0.heap.size ok v xs → iQ W1 w0.heap.size ok v xs := fun hq => Kd.Q_mono (Kd.Q_move (Kd.Q_bound hq) (fun k hk => by
    obtain ⟨_, _, _, q, hq, cells, hcl⟩ := hk
    have e : q = 3 := by simpa [Kd.int, Kd.scalar] using hq
    subst e
    exact hs k _ _ hcl (.inl rfl))) (fun k hk => hk.1)
  exact ⟨h.hb0, h.hg0, (hs b _ _ h.hb (.inr (.inl rfl))).trans h.hb, ⟨cur, (hs g _ _ hc (.inr (.inr rfl))).trans hc⟩, h.hcf, fun i hi => (hc1 _).trans (h.q i hi), fun i hi => (hc1 _).trans (h.w i hi), fun i hi => (hc1 _).trans (h.d i hi), fun i hi => (hc1 _).trans (h.fed i hi), fun i hi => hq (h.qs i hi), hq h.qt⟩
theorem R29_keeps {W W1 : World} {base : Nat} {ok : Nat → Prop} {v : Value} {xs : List S29} (h : k29.R 29 W base ok v xs) (hk : Keeps W W1) : k29.R 29 W1 base ok v xs :=
  Kd.R_mono (Kd.R_move (Kd.R_bound h) (fun k hk' => by
    obtain ⟨_, _, _, q, hq, cells, hcl⟩ := hk'
    have e : q = 29 := by simpa [k29, Kd.iso, Kd.pair, Kd.int, Kd.scalar] using hq
    subst e
    exact (hk.2 k _ _ hcl (by decide) (by decide) (by decide)).trans hcl.symm)) (fun k hk' => hk'.1)
theorem RX.out {w0 W W1 : World} {b g cf : Nat} {vt : Value} {f : Nat → Nat} {vs : Nat → Value} {fs : List Fl} {tn : List Int} {v : Value} {base : Nat} {ok : Nat → Prop} {xs : List S29} (h : RX w0 W b g cf vt f vs fs tn) (hr : k29.R 29 W base ok v xs) (hg : W.grownBy W1 v.ownBlock) : RX w0 W1 b g cf vt f vs fs tn :=
  h.typed (fun k cs t hk ht => hg.block k (blk_ltf hk) (fun e => by
    obtain ⟨cells, hc⟩ := Kd.R_typed hr k e.symm
    rw [hk] at hc
    injection hc with hc
    injection hc with _ hc
    rcases ht with ht | ht | ht <;> rw [hc] at ht <;> exact absurd ht (by decide)))
theorem k29_M {w : World} {base : Nat} {ok : Nat → Prop} : ∀ (x : S29) cs, k29.K w x cs → k29.M w base ok x cs := fun x cs h => by rw [k29_open h]; exact k29_mkM _ _ _ _
theorem drop35 {l : List S35} {j : Nat} (h : j < l.length) : l.drop j = rd_T35 l (j : Int) :: l.drop (j + 1) := by
  rw [List.drop_eq_getElem_cons h]
  congr 1
  unfold rd_T35
  rw [Int.toNat_natCast, List.getD_eq_getElem?_getD, List.getElem?_eq_getElem h]
  rfl
def playL (k : Nat) : List S35 → List Fl → List Int → List S29 → Option (List S29)
  | [], _, _, out => some out
  | x :: t, fs, tn, out =>
    if 0 < x.f1 then (comesF fs tn x.f0 x.f1).bind fun r => playL k t r.2.1 r.2.2 (out ++ [⟨r.1.1, r.1.2.1, r.1.2.2⟩])
    else (if x.f1 < 0 then playL k t fs tn (out ++ [⟨2, 0, 0⟩]) else (sendsF k fs tn).bind fun r => playL k t r.2.1 r.2.2 (out ++ [⟨r.1.1, r.1.2.1, r.1.2.2⟩]))
def fair_Play.f (k : Nat) (l0 : List Int) (l1 : List S35) : Option (List S29 × Int) :=
  if l0.length < 1 ∨ 6 < l0.length ∨ 300 < l1.length then some ([], 1)
  else (if l0.any badQ = true then some ([], 2) else (playL k l1 (l0.map newFl) [] []).bind fun o => some (o, 0))
set_option maxHeartbeats 40000000 in
set_option maxRecDepth 100000 in
theorem fair_Play.calls (k : Nat) (A0 : Option Addr) (c0 : Nat) (l0 : List Int) (A1 : Option Addr) (c1 : Nat) (l1 : List S35) (r1 : List S29) (r2 : Int) (w : World) (hr0 : Kd.C (Kd.int .i64) w A0 l0.length l0) (hc0 : l0.length ≤ c0) (hr1 : Kd.C k35 w A1 l1.length l1) (hc1 : l1.length ≤ c1) (h : fair_Play.f k l0 l1 = some (r1, r2)) :
    Calls Try.prog 9 #[.slice A0 l0.length c0, .slice A1 l1.length c1] w fun e w' => ∃ v0_ : Value, e = .returned (.tuple #[v0_, .int .i64 r2]) ∧ Kd.R k29 29 w' w.heap.size (fun _ => True) v0_ r1 ∧ Below w.heap.size w w' := by
  have HR0 := Aside0.mk hr0
  have HR1 := Aside0.mk hr1
  clear hr0 hr1 hc0 hc1
  unfold fair_Play.f at h
  have HH := Aside0.mk h
  clear h
  obtain ⟨N0, hN0⟩ : ∃ m : Nat, l0.length = m := ⟨_, rfl⟩
  obtain ⟨N1, hN1⟩ : ∃ m : Nat, l1.length = m := ⟨_, rfl⟩
  have HN0 := Aside0.mk hN0
  have HN1 := Aside0.mk hN1
  by_cases hbad : N0 < 1 ∨ 6 < N0 ∨ 300 < N1
  · have hHH := HH.out
    rw [hN0, hN1, if_pos hbad] at hHH
    simp only [Option.some.injEq, Prod.mk.injEq] at hHH
    obtain ⟨rfl, rfl⟩ := hHH
    rw [hN0, hN1]
    clear hN0 hN1
    obtain ⟨s0, h0⟩ : ∃ s, decide (N0 < 1) = s := ⟨_, rfl⟩
    obtain ⟨s1, h1⟩ : ∃ s, decide (6 < N0) = s := ⟨_, rfl⟩
    obtain ⟨s2, h2⟩ : ∃ s, decide (300 < N1) = s := ⟨_, rfl⟩
    have hs : (s0 || s1 || s2) = true := by rw [← h0, ← h1, ← h2]; simpa [or_assoc] using hbad
    have h0i : decide ((N0 : Int) < 1) = s0 := by rw [← h0]; exact decide_eq_decide.2 (by omega)
    have h1i : decide (6 < (N0 : Int)) = s1 := by rw [← h1]; exact decide_eq_decide.2 (by omega)
    have h2i : decide (300 < (N1 : Int)) = s2 := by rw [← h2]; exact decide_eq_decide.2 (by omega)
    have h0z : decide (N0 = 0) = s0 := by rw [← h0]; exact decide_eq_decide.2 (by omega)
    clear hbad
    cases s0 <;> cases s1 <;> cases s2 <;> first | (exact absurd hs (by decide)) | skip
    all_goals
      clear hs
      go_enter Try.func9, Try.ntmps9
      go_wp2
      go_ret2
      exact ⟨_, rfl, Kd.R_nil _ _ _ _ _, Below.refl _ _⟩
  have hHH := HH.out
  rw [hN0, hN1, if_neg hbad] at hHH
  clear HH
  have HH := Aside0.mk hHH
  have g0 : decide (N0 < 1) = false := decide_eq_false (by omega)
  have g0i : decide ((N0 : Int) < 1) = false := decide_eq_false (by omega)
  have g1 : decide (6 < N0) = false := decide_eq_false (by omega)
  have g1i : decide (6 < (N0 : Int)) = false := decide_eq_false (by omega)
  have g2 : decide (300 < N1) = false := decide_eq_false (by omega)
  have g2i : decide (300 < (N1 : Int)) = false := decide_eq_false (by omega)
  have HLIM : Aside0 (1 ≤ N0 ∧ N0 ≤ 6 ∧ N1 ≤ 300) := ⟨by omega⟩
  rw [hN0, hN1]
  clear hHH hbad hN0 hN1
  cases hany : l0.any badQ with
  | true =>
    have hHH := HH.out
    rw [if_pos hany] at hHH
    simp only [Option.some.injEq, Prod.mk.injEq] at hHH
    obtain ⟨rfl, rfl⟩ := hHH
    have HANY := Aside0.mk hany
    clear hany
    go_enter Try.func9, Try.ntmps9
    go_wp2_with (first | ((with_reducible refine gate_callee (f := 25) rfl ?_); refine goesL_ (some 26) rfl rfl Try.func25 (by kernel_rfl) rfl #[.slice A0 N0 c0, .func (.func 26) #[] #[]] rfl (by (try simp only [List.map_toArray, List.map_cons, List.map_nil]); first | done | rfl) ?_; rw [← HN0.out]; refine (containsQ_calls A0 c0 l0 _ HR0.out (by have := HLIM.out; have := HN0.out; omega)).mono ?_; rintro e' w2 ⟨rfl, hb2⟩; rw [HANY.out, HN0.out]; refine ⟨_, rfl, ?_⟩; have HB2 := Aside0.mk hb2; clear hb2))
    go_ret2
    exact ⟨_, rfl, Kd.R_nil _ _ _ _ _, HB2.out⟩
  | false =>
    have hHH := HH.out
    rw [if_neg (by rw [hany]; simp)] at hHH
    obtain ⟨O, hO, hHH⟩ := Option.bind_eq_some_iff.1 hHH
    simp only [Option.some.injEq, Prod.mk.injEq] at hHH
    obtain ⟨rfl, rfl⟩ := hHH
    have HANY := Aside0.mk hany
    have HPL := Aside0.mk hO
    clear hany hO HH
    go_enter Try.func9, Try.ntmps9
    go_upto_region 6 with (first | ((with_reducible refine gate_callee (f := 25) rfl ?_); refine goesL_ (some 26) rfl rfl Try.func25 (by kernel_rfl) rfl #[.slice A0 N0 c0, .func (.func 26) #[] #[]] rfl (by (try simp only [List.map_toArray, List.map_cons, List.map_nil]); first | done | rfl) ?_; rw [← HN0.out]; refine (containsQ_calls A0 c0 l0 _ HR0.out (by have := HLIM.out; have := HN0.out; omega)).mono ?_; rintro e' w2 ⟨rfl, hb2⟩; rw [HANY.out, HN0.out]; refine ⟨_, rfl, ?_⟩; have HB2 := Aside0.mk hb2; clear hb2))
    obtain ⟨b, hb_⟩ : ∃ b, w2.heap.size = b := ⟨_, rfl⟩
    have HV1 : Aside0 ((w2.alloc (.cells #[.slice none 0 0, .slice none 0 0] 83)).heap[b]? = some (.cells #[.slice none 0 0, .slice none 0 0] 83 (0, 0))) := ⟨by rw [← hb_]; show (w2.heap.push _)[w2.heap.size]? = _; simp⟩
    have HBB : Aside0 (Below w.heap.size w (w2.alloc (.cells #[.slice none 0 0, .slice none 0 0] 83))) := ⟨HB2.out.alloc HB2.out.size _⟩
    have HLB : Aside0 (w.heap.size ≤ b) := ⟨by rw [← hb_]; exact HB2.out.size⟩
    rw [hb_]
    obtain ⟨W1, hW1⟩ : ∃ W, (w2.alloc (.cells #[.slice none 0 0, .slice none 0 0] 83)) = W := ⟨_, rfl⟩
    rw [hW1] at HV1 HBB ⊢
    clear hW1 hb_
    go_wp2
    go_loopw [31] (fun v31 wr => ∃ (j : Nat) (v : Value), v31 = .int .i64 (j : Int) ∧ Aside0 (j ≤ N0) ∧ Aside0 (wr.heap[b]? = some (.cells #[v, .slice none 0 0] 83 (0, 0))) ∧ Aside0 (kfl0.R 85 wr w.heap.size (fun k => k ≠ b) v (l0.take j)) ∧ Aside0 (Below w.heap.size w wr)) (fun v31 _ => N0 - (intOf v31).toNat)
    case atStart => exact ⟨0, _, rfl, ⟨Nat.zero_le _⟩, HV1, ⟨Kd.R_nil _ _ _ _ _⟩, HBB⟩
    case round =>
      obtain ⟨j, v, rfl, HJ, HV, HO, HB⟩ := hrel
      by_cases hj : j < N0
      · have e1_ : decide ((j : Int) < (N0 : Int)) = true := decide_eq_true (by omega)
        have p1 : (0 : Int) ≤ (j : Int) := by omega
        have q1 : (j : Int) < (N0 : Int) := by omega
        obtain ⟨ad, rfl, h0⟩ := Kd.at_int (Kd.C_below HR0.out HB.out) (j : Int) p1 (by rw [HN0.out]; exact q1)
        rw [Int.toNat_natCast] at h0
        replace p1 := eq_true p1
        replace q1 := eq_true q1
        have HT : Aside0 (l0.take (j + 1) = l0.take j ++ [rd l0 (j : Int)]) := ⟨by
          have hj' : j < l0.length := by rw [HN0.out]; exact hj
          have hm : rd l0 (j : Int) = l0[j] := by unfold rd; rw [Int.toNat_natCast, List.getD_eq_getElem?_getD, List.getElem?_eq_getElem hj']; rfl
          rw [List.take_add_one, List.getElem?_eq_getElem hj', Option.toList_some, hm]⟩
        have hj6 : j ≤ 6 := by have := HLIM.out; omega
        have HJ6 := Aside0.mk hj6
        have HLT : Aside0 ((l0.take j).length = j) := ⟨by rw [List.length_take, HN0.out]; omega⟩
        obtain ⟨x, hx_⟩ : ∃ x, rd l0 (j : Int) = x := ⟨_, rfl⟩
        rw [hx_] at h0 HT
        clear hx_
        have hcb : wr.cell? ⟨b, 0, none⟩ = some v := (blk_cell HV.out 0).trans rfl
        go_wp2_with (first | ((with_reducible refine gate_dst (N := 42) rfl ?_); refine Kd.R_lit kfl0 (w0 := w) w.heap.size 85 ?hg (N := 42) ?hd (xs := ([x] : List Int)) (inner := [.int .i64 x, .slice none 0 0, .int .i64 0, .bool false]) (ok := fun _ => True) (okp := fun _ => True) ?hr ?hp (fun _ hk => hk) trivial HB.out HB.out.size (by simp) ?_; (case hd => rfl); (case hg => rfl); (case hr => first | (go_simp; done) | (go_simp; rfl)); (case hp => exact Reps.c4 (kfl0_mkM _ _ _ x) (Reps.none _ _)); intro v8 w8 ho8 hb8 hg_ hnew_; have HV8 := Aside0.mk ((hg_.block _ (blk_ltf HV.out) (by simp)).trans HV.out); have HO8 := Aside0.mk (Kd.R_step HO.out (fun k _ hk => hg_.block k hk (by simp))); obtain ⟨Ao8, co8, eo8⟩ := Kd.R_slice ho8; subst eo8; have HL8 := Aside0.mk (Kd.R_reads' ho8).2.2; have HB8 := Aside0.mk hb8; clear ho8 hb8 hg_ hnew_) | ((with_reducible refine gate_builtin (b := .append) (xs := #[.tmp 39, .tmp 42]) rfl ?_); at_builtin; refine Kd.R_append_rows kfl0 (w0 := w) w.heap.size rfl (.tmp 39) (.tmp 42) 81 85 (.agg #[.int .i64 0, .slice none 0 0, .int .i64 0, .bool false]) 48 rfl Try.underlying81 info85f rfl (by decide) (by omega) v (l0.take j) [x] _ _ _ (fun k_ => k_ ≠ b) (fun _ => False) rfl rfl ?aO ?aR kfl0_M (fun _ h => h.elim) ?aF ?aB ?aS ?aL ?_; (case aR => exact HL8.out); (case aO => exact HO8.out); (case aF => exact (fun k_ hk_ => by have := blk_ltf HV8.out; omega)); (case aB => exact HB8.out); (case aS => exact HB8.out.size); (case aL => rw [HLT.out, show ([x] : List Int).length = 1 from rfl]; have := HJ6.out; omega); intro v9 w9 ho hb hg hat; rw [← HT.out] at ho; obtain ⟨Ao9, co9, eo9⟩ := Kd.R_slice ho; obtain ⟨ln9, hln9⟩ : ∃ x : Nat, (l0.take (j + 1)).length = x := ⟨_, rfl⟩; rw [hln9] at eo9; subst eo9; clear hln9; have hv : w9.heap[b]? = some (.cells #[v, .slice none 0 0] 83 (0, 0)) := (hg.block _ (blk_ltf HV8.out) (fun e_ => HO8.out.1 _ e_.symm rfl)).trans HV8.out; have hkb9 : w9.cell? ⟨b, 0, none⟩ = some v := (blk_cell hv 0).trans rfl; have hfb9 := blk_frozen hv 0; have HV9 : Aside0 ((w9.setCell ⟨b, 0, none⟩ (.slice Ao9 ln9 co9)).heap[b]? = some (.cells #[.slice Ao9 ln9 co9, .slice none 0 0] 83 (0, 0))) := ⟨by simpa using blk_set hv 0 (.slice Ao9 ln9 co9)⟩; have HB9 := Aside0.mk (hb.setCell (p := ⟨b, 0, none⟩) HLB.out (.slice Ao9 ln9 co9)); have HO9 := Aside0.mk (Kd.R_far ho (p := ⟨b, 0, none⟩) (fun _ hk => hk) (.slice Ao9 ln9 co9)); clear ho hb hg hat hv))
        go_roundw
        case measure => simp only [intOf]; omega
        case rel => exact ⟨j + 1, _, rfl, ⟨by omega⟩, HV9, HO9, HB9⟩
      · have e1_ : decide ((j : Int) < (N0 : Int)) = false := decide_eq_false (by omega)
        obtain rfl : j = N0 := by have := HJ.out; omega
        have HX0 : Aside0 (∃ g cf vt f vs, RX w wr b g cf vt f vs (l0.map newFl) []) := ⟨by
          have hO := HO.out
          have hV := HV.out
          rw [List.take_of_length_le (by rw [HN0.out]; omega)] at hO
          obtain ⟨g, cap, rfl, _, _, _⟩ := Kd.R_form hO (by rw [HN0.out]; have := HLIM.out; omega)
          exact ⟨g, cap, _, _, _, RX.start HLB.out hV (Kd.R_mono hO (fun _ _ => trivial))⟩⟩
        clear HO HV HJ hj e1_
        go_wp2
        go_loopw [9, 49] (fun v9 v49 wq => ∃ (i : Nat) (fs : List Fl) (tn : List Int) (o : List S29), v49 = .int .i64 (i : Int) ∧ Aside0 (i ≤ N1) ∧ Aside0 (k29.R 29 wq w.heap.size (fun _ => True) v9 o) ∧ Aside0 (∃ g cf vt f vs, RX w wq b g cf vt f vs fs tn) ∧ Aside0 (Below w.heap.size w wq) ∧ Aside0 (playL k (l1.drop i) fs tn o = some O) ∧ Aside0 (o.length ≤ i)) (fun _ v49 _ => N1 - (intOf v49).toNat)
        case atStart => exact ⟨0, _, _, [], rfl, ⟨Nat.zero_le _⟩, ⟨Kd.R_nil _ _ _ _ _⟩, HX0, HB, HPL, ⟨Nat.le_refl _⟩⟩
        case round =>
          obtain ⟨i, fs, tn, o, rfl, HI, HO, HX, HBq, HP, HLO⟩ := hrel
          clear HX0 HB HPL
          by_cases hi : i < N1
          · have e1_ : decide ((i : Int) < (N1 : Int)) = true := decide_eq_true (by omega)
            have e2_ : decide (i < N1) = true := decide_eq_true hi
            have p1 : (0 : Int) ≤ (i : Int) := by omega
            have q1 : (i : Int) < (N1 : Int) := by omega
            obtain ⟨ad, rfl, hx0, hx1⟩ := at_T35 (Kd.C_below HR1.out HBq.out) (i : Int) p1 (by rw [HN1.out]; exact q1)
            rw [Int.toNat_natCast] at hx0 hx1
            replace p1 := eq_true p1
            replace q1 := eq_true q1
            have hi300 : i ≤ 300 := by have := HLIM.out; omega
            have hP := HP.out
            rw [drop35 (show i < l1.length by rw [HN1.out]; exact hi)] at hP
            obtain ⟨x, hx_⟩ : ∃ x, rd_T35 l1 (i : Int) = x := ⟨_, rfl⟩
            rw [hx_] at hx0 hx1 hP
            clear hx_
            obtain ⟨x0, x1⟩ := x
            simp only [playL] at hP
            dsimp only at hx0 hx1
            have HP1 := Aside0.mk hP
            clear hP HP
            go_upto_region 16 with (fail)
            clear hx0 hx1
            obtain ⟨bx, hbx_⟩ : ∃ bx, wr.heap.size = bx := ⟨_, rfl⟩
            rw [hbx_]
            have hm0 : (wr.alloc (.cells #[.int .i64 x0, .int .i64 x1] 35)).cell? ⟨bx, 0, none⟩ = some (.int .i64 x0) := by rw [← hbx_]; exact (blk_cell (heap_alloc_new wr _) 0).trans rfl
            have hm1 : (wr.alloc (.cells #[.int .i64 x0, .int .i64 x1] 35)).cell? ⟨bx, 1, none⟩ = some (.int .i64 x1) := by rw [← hbx_]; exact (blk_cell (heap_alloc_new wr _) 1).trans rfl
            have hl_ : Below wr.heap.size wr (wr.alloc (.cells #[.int .i64 x0, .int .i64 x1] 35)) := below_alloc (Below.refl _ _) _
            have HX2 : Aside0 (∃ g cf vt f vs, RX w (wr.alloc (.cells #[.int .i64 x0, .int .i64 x1] 35)) b g cf vt f vs fs tn) := ⟨by obtain ⟨g, cf, vt, f, vs, hx⟩ := HX.out; exact ⟨g, cf, vt, f, vs, hx.below hl_⟩⟩
            have HO2 := Aside0.mk (Kd.R_below HO.out hl_)
            have HBq2 := Aside0.mk (below_then HBq.out HBq.out.size hl_)
            obtain ⟨W2, hW2⟩ : ∃ W, (wr.alloc (.cells #[.int .i64 x0, .int .i64 x1] 35)) = W := ⟨_, rfl⟩
            rw [hW2] at hm0 hm1 HX2 HO2 HBq2 ⊢
            clear hW2 hl_ hbx_ HX HO HBq
            have hP := HP1.out
            clear HP1
            by_cases hpos : 0 < x1
            · rw [if_pos hpos] at hP
              obtain ⟨⟨⟨o1, o2, o3⟩, fs', tn'⟩, hC, hP⟩ := Option.bind_eq_some_iff.1 hP
              have d1_ : decide (0 < x1) = true := decide_eq_true hpos
              have HC := Aside0.mk hC
              have HP := Aside0.mk hP
              clear hC hP hpos
              go_wp2_with (first | ((with_reducible refine gate_callee (f := 27) rfl ?_); refine goesL_ (some 65) rfl rfl Try.func27 (by kernel_rfl) rfl #[.pointer (some ⟨b, 0, none⟩), .agg #[.int .i64 x0, .int .i64 x1]] rfl (by (try simp only [List.map_toArray, List.map_cons, List.map_nil]); first | done | rfl) ?_; obtain ⟨g, cf, vt, f, vs, hx_⟩ := HX2.out; refine (comes_calls w _ b g cf vt f vs fs tn x0 x1 (o1, o2, o3) fs' tn' hx_ HBq2.out HC.out).mono ?_; clear hx_; rintro e' w3 ⟨rfl, hx3, hb3, hk3⟩; refine ⟨_, rfl, ?_⟩; have HX3 := Aside0.mk hx3; have HB3 := Aside0.mk hb3; have HO3 := Aside0.mk (R29_keeps HO2.out hk3); clear hx3 hb3 hk3) | ((with_reducible refine gate_dst (N := 66) rfl ?_); refine Kd.R_lit k29 (w0 := w) w.heap.size 29 ?hg (N := 66) ?hd (xs := ([⟨o1, o2, o3⟩] : List S29)) (inner := [.int .i64 o1, .int .i64 o2, .int .i64 o3]) (ok := fun _ => True) (okp := fun _ => True) ?hr ?hp (fun _ hk => hk) trivial HB3.out HB3.out.size (by simp) ?_; (case hd => rfl); (case hg => rfl); (case hr => first | (go_simp; done) | (go_simp; rfl)); (case hp => exact Reps.c3 (k29_mkM _ _ _ ⟨o1, o2, o3⟩) (Reps.none _ _)); intro v8 w8 ho8 hb8 hg_ hnew_; have HX8 : Aside0 (∃ g cf vt f vs, RX w w8 b g cf vt f vs fs' tn') := ⟨by obtain ⟨g, cf, vt, f, vs, hx⟩ := HX3.out; exact ⟨g, cf, vt, f, vs, hx.step (fun k hk => hg_.block k hk (by simp))⟩⟩; have HO8 := Aside0.mk (Kd.R_step HO3.out (fun k _ hk => hg_.block k hk (by simp))); obtain ⟨Ao8, co8, eo8⟩ := Kd.R_slice ho8; subst eo8; have HL8 := Aside0.mk (Kd.R_reads' ho8).2.2; have HB8 := Aside0.mk hb8; clear ho8 hb8 hg_ hnew_) | ((with_reducible refine gate_builtin (b := .append) (xs := #[.tmp 62, .tmp 66]) rfl ?_); at_builtin; refine Kd.R_append_rows k29 (w0 := w) w.heap.size rfl (.tmp 62) (.tmp 66) 24 29 (.agg #[.int .i64 0, .int .i64 0, .int .i64 0]) 24 rfl Try.underlying24 info29s rfl (by decide) (by omega) u9 o [⟨o1, o2, o3⟩] _ _ _ (fun _ => True) (fun _ => False) rfl rfl ?aO ?aR k29_M (fun _ h => h.elim) (fun _ _ => trivial) ?aB ?aS ?aL ?_; (case aR => exact HL8.out); (case aO => exact HO8.out); (case aB => exact HB8.out); (case aS => exact HB8.out.size); (case aL => rw [show ([⟨o1, o2, o3⟩] : List S29).length = 1 from rfl]; have := HLO.out; omega); intro v9 w9 ho hb hg hat; have HX9 : Aside0 (∃ g cf vt f vs, RX w w9 b g cf vt f vs fs' tn') := ⟨by obtain ⟨g, cf, vt, f, vs, hx⟩ := HX8.out; exact ⟨g, cf, vt, f, vs, hx.out HO8.out hg⟩⟩; have HB9 := Aside0.mk hb; have HO9 := Aside0.mk ho; clear ho hb hg hat))
              go_roundw
              case measure => simp only [intOf]; omega
              case rel => exact ⟨i + 1, _, _, _, rfl, ⟨by omega⟩, HO9, HX9, HB9, HP, ⟨by rw [List.length_append]; have := HLO.out; simp only [List.length_cons, List.length_nil]; omega⟩⟩
            · rw [if_neg hpos] at hP
              have d1_ : decide (0 < x1) = false := decide_eq_false hpos
              by_cases hneg : x1 < 0
              · rw [if_pos hneg] at hP
                have d2_ : decide (x1 < 0) = true := decide_eq_true hneg
                have HP := Aside0.mk hP
                clear hP hpos hneg
                obtain ⟨o1, ho1⟩ : ∃ a : Int, a = 2 := ⟨_, rfl⟩
                obtain ⟨o2, ho2⟩ : ∃ a : Int, a = 0 := ⟨_, rfl⟩
                obtain ⟨o3, ho3⟩ : ∃ a : Int, a = 0 := ⟨_, rfl⟩
                rw [show (⟨2, 0, 0⟩ : S29) = ⟨o1, o2, o3⟩ from by rw [ho1, ho2, ho3]] at HP
                have HO123 := Aside0.mk (And.intro ho1 (And.intro ho2 ho3))
                clear ho1 ho2 ho3
                obtain ⟨fs', hfs_⟩ : ∃ a, a = fs := ⟨_, rfl⟩
                obtain ⟨tn', htn_⟩ : ∃ a, a = tn := ⟨_, rfl⟩
                rw [← hfs_, ← htn_] at HP HX2
                clear hfs_ htn_
                go_wp2_with (first | ((with_reducible refine gate_callee (f := 28) rfl ?_); refine goesL_ (some 73) rfl rfl Try.func28 (by kernel_rfl) rfl #[.int .i64 2] rfl (by (try simp only [List.map_toArray, List.map_cons, List.map_nil]); first | done | rfl) ?_; refine (fair_no.calls 2 o1 o2 o3 _ (by rw [HO123.out.1, HO123.out.2.1, HO123.out.2.2]; rfl)).mono ?_; rintro e' w3 ⟨rfl, hl_⟩; refine ⟨_, rfl, ?_⟩; have HX3 : Aside0 (∃ g cf vt f vs, RX w w3 b g cf vt f vs fs' tn') := ⟨by obtain ⟨g, cf, vt, f, vs, hx⟩ := HX2.out; exact ⟨g, cf, vt, f, vs, hx.below hl_⟩⟩; have HB3 := Aside0.mk (below_then HBq2.out HBq2.out.size hl_); have HO3 := Aside0.mk (Kd.R_below HO2.out hl_); clear hl_) | ((with_reducible refine gate_dst (N := 74) rfl ?_); refine Kd.R_lit k29 (w0 := w) w.heap.size 29 ?hg (N := 74) ?hd (xs := ([⟨o1, o2, o3⟩] : List S29)) (inner := [.int .i64 o1, .int .i64 o2, .int .i64 o3]) (ok := fun _ => True) (okp := fun _ => True) ?hr ?hp (fun _ hk => hk) trivial HB3.out HB3.out.size (by simp) ?_; (case hd => rfl); (case hg => rfl); (case hr => first | (go_simp; done) | (go_simp; rfl)); (case hp => exact Reps.c3 (k29_mkM _ _ _ ⟨o1, o2, o3⟩) (Reps.none _ _)); intro v8 w8 ho8 hb8 hg_ hnew_; have HX8 : Aside0 (∃ g cf vt f vs, RX w w8 b g cf vt f vs fs' tn') := ⟨by obtain ⟨g, cf, vt, f, vs, hx⟩ := HX3.out; exact ⟨g, cf, vt, f, vs, hx.step (fun k hk => hg_.block k hk (by simp))⟩⟩; have HO8 := Aside0.mk (Kd.R_step HO3.out (fun k _ hk => hg_.block k hk (by simp))); obtain ⟨Ao8, co8, eo8⟩ := Kd.R_slice ho8; subst eo8; have HL8 := Aside0.mk (Kd.R_reads' ho8).2.2; have HB8 := Aside0.mk hb8; clear ho8 hb8 hg_ hnew_) | ((with_reducible refine gate_builtin (b := .append) (xs := #[.tmp 72, .tmp 74]) rfl ?_); at_builtin; refine Kd.R_append_rows k29 (w0 := w) w.heap.size rfl (.tmp 72) (.tmp 74) 24 29 (.agg #[.int .i64 0, .int .i64 0, .int .i64 0]) 24 rfl Try.underlying24 info29s rfl (by decide) (by omega) u9 o [⟨o1, o2, o3⟩] _ _ _ (fun _ => True) (fun _ => False) rfl rfl ?aO ?aR k29_M (fun _ h => h.elim) (fun _ _ => trivial) ?aB ?aS ?aL ?_; (case aR => exact HL8.out); (case aO => exact HO8.out); (case aB => exact HB8.out); (case aS => exact HB8.out.size); (case aL => rw [show ([⟨o1, o2, o3⟩] : List S29).length = 1 from rfl]; have := HLO.out; omega); intro v9 w9 ho hb hg hat; have HX9 : Aside0 (∃ g cf vt f vs, RX w w9 b g cf vt f vs fs' tn') := ⟨by obtain ⟨g, cf, vt, f, vs, hx⟩ := HX8.out; exact ⟨g, cf, vt, f, vs, hx.out HO8.out hg⟩⟩; have HB9 := Aside0.mk hb; have HO9 := Aside0.mk ho; clear ho hb hg hat))
                go_roundw
                case measure => simp only [intOf]; omega
                case rel => exact ⟨i + 1, _, _, _, rfl, ⟨by omega⟩, HO9, HX9, HB9, HP, ⟨by rw [List.length_append]; have := HLO.out; simp only [List.length_cons, List.length_nil]; omega⟩⟩
              · rw [if_neg hneg] at hP
                obtain ⟨⟨⟨o1, o2, o3⟩, fs', tn'⟩, hC, hP⟩ := Option.bind_eq_some_iff.1 hP
                have d2_ : decide (x1 < 0) = false := decide_eq_false hneg
                have HC := Aside0.mk hC
                have HP := Aside0.mk hP
                clear hC hP hpos hneg
                go_wp2_with (first | ((with_reducible refine gate_callee (f := 29) rfl ?_); refine goesL_ (some 55) rfl rfl Try.func29 (by kernel_rfl) rfl #[.pointer (some ⟨b, 0, none⟩)] rfl (by (try simp only [List.map_toArray, List.map_cons, List.map_nil]); first | done | rfl) ?_; refine (sends_calls k w _ b fs tn (o1, o2, o3) fs' tn' HX2.out HBq2.out HC.out).mono ?_; rintro e' w3 ⟨rfl, hx3, hb3, hk3⟩; refine ⟨_, rfl, ?_⟩; have HX3 := Aside0.mk hx3; have HB3 := Aside0.mk hb3; have HO3 := Aside0.mk (R29_keeps HO2.out hk3); clear hx3 hb3 hk3) | ((with_reducible refine gate_dst (N := 56) rfl ?_); refine Kd.R_lit k29 (w0 := w) w.heap.size 29 ?hg (N := 56) ?hd (xs := ([⟨o1, o2, o3⟩] : List S29)) (inner := [.int .i64 o1, .int .i64 o2, .int .i64 o3]) (ok := fun _ => True) (okp := fun _ => True) ?hr ?hp (fun _ hk => hk) trivial HB3.out HB3.out.size (by simp) ?_; (case hd => rfl); (case hg => rfl); (case hr => first | (go_simp; done) | (go_simp; rfl)); (case hp => exact Reps.c3 (k29_mkM _ _ _ ⟨o1, o2, o3⟩) (Reps.none _ _)); intro v8 w8 ho8 hb8 hg_ hnew_; have HX8 : Aside0 (∃ g cf vt f vs, RX w w8 b g cf vt f vs fs' tn') := ⟨by obtain ⟨g, cf, vt, f, vs, hx⟩ := HX3.out; exact ⟨g, cf, vt, f, vs, hx.step (fun k hk => hg_.block k hk (by simp))⟩⟩; have HO8 := Aside0.mk (Kd.R_step HO3.out (fun k _ hk => hg_.block k hk (by simp))); obtain ⟨Ao8, co8, eo8⟩ := Kd.R_slice ho8; subst eo8; have HL8 := Aside0.mk (Kd.R_reads' ho8).2.2; have HB8 := Aside0.mk hb8; clear ho8 hb8 hg_ hnew_) | ((with_reducible refine gate_builtin (b := .append) (xs := #[.tmp 53, .tmp 56]) rfl ?_); at_builtin; refine Kd.R_append_rows k29 (w0 := w) w.heap.size rfl (.tmp 53) (.tmp 56) 24 29 (.agg #[.int .i64 0, .int .i64 0, .int .i64 0]) 24 rfl Try.underlying24 info29s rfl (by decide) (by omega) u9 o [⟨o1, o2, o3⟩] _ _ _ (fun _ => True) (fun _ => False) rfl rfl ?aO ?aR k29_M (fun _ h => h.elim) (fun _ _ => trivial) ?aB ?aS ?aL ?_; (case aR => exact HL8.out); (case aO => exact HO8.out); (case aB => exact HB8.out); (case aS => exact HB8.out.size); (case aL => rw [show ([⟨o1, o2, o3⟩] : List S29).length = 1 from rfl]; have := HLO.out; omega); intro v9 w9 ho hb hg hat; have HX9 : Aside0 (∃ g cf vt f vs, RX w w9 b g cf vt f vs fs' tn') := ⟨by obtain ⟨g, cf, vt, f, vs, hx⟩ := HX8.out; exact ⟨g, cf, vt, f, vs, hx.out HO8.out hg⟩⟩; have HB9 := Aside0.mk hb; have HO9 := Aside0.mk ho; clear ho hb hg hat))
                go_roundw
                case measure => simp only [intOf]; omega
                case rel => exact ⟨i + 1, _, _, _, rfl, ⟨by omega⟩, HO9, HX9, HB9, HP, ⟨by rw [List.length_append]; have := HLO.out; simp only [List.length_cons, List.length_nil]; omega⟩⟩
          · have e1_ : decide ((i : Int) < (N1 : Int)) = false := decide_eq_false (by omega)
            have e2_ : decide (i < N1) = false := decide_eq_false hi
            have hP := HP.out
            rw [List.drop_eq_nil_of_le (by rw [HN1.out]; omega)] at hP
            simp only [playL, Option.some.injEq] at hP
            subst hP
            go_wp2
            go_ret2
            exact ⟨_, rfl, HO.out, HBq.out⟩
theorem sendsL_mono : ∀ (k : Nat) (fs : List Fl) (tn : List Int), LeO (sendsL k fs tn) (sendsL (k + 1) fs tn) := by
  intro k
  induction k with
  | zero => intro fs tn; exact LeO.none _
  | succ k ih =>
    intro fs tn
    rw [sendsL.eq_def (k + 1 + 1) fs tn, sendsL.eq_def (k + 1) fs tn]
    dsimp only
    exact LeO.ite (LeO.ite (LeO.refl _) (ih _ _)) (LeO.none _)
theorem sendsF_mono (k : Nat) (fs : List Fl) (tn : List Int) : LeO (sendsF k fs tn) (sendsF (k + 1) fs tn) := LeO.ite (LeO.refl _) (sendsL_mono _ _ _)
theorem playL_mono (k : Nat) : ∀ (xs : List S35) (fs : List Fl) (tn : List Int) (o : List S29), LeO (playL k xs fs tn o) (playL (k + 1) xs fs tn o)
  | [], _, _, _ => LeO.refl _
  | x :: t, fs, tn, o => LeO.ite (LeO.bind (LeO.refl _) (fun r => playL_mono k t _ _ _)) (LeO.ite (playL_mono k t _ _ _) (LeO.bind (sendsF_mono _ _ _) (fun r => playL_mono k t _ _ _)))
theorem fair_Play.mono : ∀ a0 a1 k, LeO (fair_Play.f k a0 a1) (fair_Play.f (k + 1) a0 a1) := by
  intro a0 a1 k
  unfold fair_Play.f
  exact LeO.ite (LeO.refl _) (LeO.ite (LeO.refl _) (LeO.bind (playL_mono _ _ _ _ _) (fun _ => LeO.refl _)))

end Go.Proofs.Ytnbpkibefgahlaa.HTopShaped
