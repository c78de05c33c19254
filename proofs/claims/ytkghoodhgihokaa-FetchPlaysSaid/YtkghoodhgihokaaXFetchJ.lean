/- Fetch: the reference's memory. -/
import Derived.Test.YtkghoodhgihokaaXFetchI
import Derived.Maps.OwnOps
import Derived.Maps.Views
namespace Go.Proofs.Ytkghoodhgihokaa.Fetch
open Go.RowKit Go.Lib Go.Maps Go.Proofs.YtkghoodhgihokaaW.PrintWords Go.Proofs.YtkghoodhgihokaaW.PrintLast Go.Proofs.YtkghoodhgihokaaW.PrintMore Go.Proofs.Ytkghoodhgihokaa.HFetchPlays
set_option linter.unusedVariables false
set_option linter.unusedSimpArgs false
/-- The end, as the reference keeps it. -/
def endI (fin : Int) : Int := if fin < 0 then 1099511627776 else fin
/-- The map tells what came. -/
def MapIs (w : World) (b : Nat) (By : Int → Int) (k : Nat) : Prop :=
  ∃ D : DataW Unit, IsMap D ∧ w.ownsMap Try.prog 3 (plainElem Try.prog 5) b k D ∧ ∀ i, (Lit.int .i64 i).wf = true → D.atKey (.int .i64 i) (.lit (.int .u8 0)) = .lit (.int .u8 (By i))
theorem MapIs.move {w w' : World} {b k : Nat} {By : Int → Int} (h : MapIs w b By k) (hs : w'.heap[b]? = w.heap[b]?) : MapIs w' b By k := by
  obtain ⟨D, h1, ⟨es, clock, hb, F, hz, hD⟩, h3⟩ := h
  exact ⟨D, h1, ⟨es, clock, hs.trans hb, F, hz, hD⟩, h3⟩
theorem MapIs.obj {w : World} {b k : Nat} {By : Int → Int} (h : MapIs w b By k) : ∃ es clock, w.heap[b]? = some (.map es clock) := by
  obtain ⟨D, h1, ⟨es, clock, hb, F, hz, hD⟩, h3⟩ := h
  exact ⟨es, clock, hb⟩
theorem R61_move {w w' : World} {B : Nat} {M : Nat → Prop} {v : Value} {xs : List S61} (h : Kd.R k61 61 w B M v xs) (hs : ∀ k, v.ownBlock = some k → w'.heap[k]? = w.heap[k]?) : Kd.R k61 61 w' B M v xs :=
  R61_sub (Kd.R_move (R61_sub h (M' := fun k => v.ownBlock = some k) (fun k hk => hk)) hs) h.1
theorem Ru8_move {w w' : World} {B : Nat} {M : Nat → Prop} {v : Value} {xs : List Int} (h : Kd.R (Kd.int .u8) 5 w B M v xs) (hs : ∀ k, v.ownBlock = some k → w'.heap[k]? = w.heap[k]?) : Kd.R (Kd.int .u8) 5 w' B M v xs :=
  Ru8_sub (Kd.R_move (Ru8_sub h (M' := fun k => v.ownBlock = some k) (fun k hk => hk)) hs) h.1
/-- What the reference keeps. -/
structure RM (M : Nat → Prop) (w0 w : World) (o f e m b : Nat) (F : Fs) (By : Int → Int) (k : Nat) (vo : Value) : Prop where
  ho : w.heap[o]? = some (.cells #[vo] 57 (0, 0))
  hf : w.heap[f]? = some (.cells #[.int .i64 F.front] 3 (0, 0))
  he : w.heap[e]? = some (.cells #[.int .i64 (endI F.fin)] 3 (0, 0))
  hm : w.heap[m]? = some (.cells #[.map (some b)] 112 (0, 0))
  hB : MapIs w b By k
  row : Kd.R k61 61 w w0.heap.size M vo F.out
  ne : f ≠ e
  lo : w0.heap.size ≤ o ∧ w0.heap.size ≤ f ∧ w0.heap.size ≤ e ∧ w0.heap.size ≤ b
  mo : M o ∧ M f ∧ M e ∧ M b
  hb : Below w0.heap.size w0 w
/-- A Next of the reference. -/
structure NN (M : Nat → Prop) (w0 w : World) (n : Nat) (N : Nx) (vw vD : Value) : Prop where
  hn : w.heap[n]? = some (.cells #[.int .i64 N.code, vw, .bool N.done, vD] 59 (0, 0))
  hw : Kd.R k61 61 w w0.heap.size M vw N.wants
  hD : Kd.R (Kd.int .u8) 5 w w0.heap.size M vD N.data
  ln : w0.heap.size ≤ n
  mn : M n
def RS (o f e m b : Nat) (vo : Value) (j : Nat) : Prop := (j = o ∨ j = f ∨ j = e ∨ j = m ∨ j = b) ∨ vo.ownBlock = some j
def NS (n : Nat) (vw vD : Value) (j : Nat) : Prop := j = n ∨ vw.ownBlock = some j ∨ vD.ownBlock = some j
section
variable {M : Nat → Prop} {w0 w w' : World} {o f e m b n k : Nat} {F : Fs} {N : Nx} {By : Int → Int} {vo vw vD v' : Value}
theorem RM.lt (h : RM M w0 w o f e m b F By k vo) {j : Nat} (hj : RS o f e m b vo j) : j < w.heap.size := by
  rcases hj with (rfl | rfl | rfl | rfl | rfl) | hj
  · exact blk_ltn h.ho
  · exact blk_ltn h.hf
  · exact blk_ltn h.he
  · exact blk_ltn h.hm
  · obtain ⟨_, _, hb⟩ := h.hB.obj; exact blk_ltn hb
  · exact own_lt h.row hj
theorem NN.lt (h : NN M w0 w n N vw vD) {j : Nat} (hj : NS n vw vD j) : j < w.heap.size := by
  rcases hj with rfl | hj | hj
  · exact blk_ltn h.hn
  · exact own_lt h.hw hj
  · exact own_lt h.hD hj
theorem RM.move (h : RM M w0 w o f e m b F By k vo) (hb : Below w0.heap.size w0 w') (hs : ∀ j, RS o f e m b vo j → w'.heap[j]? = w.heap[j]?) : RM M w0 w' o f e m b F By k vo :=
  ⟨(hs o (.inl (.inl rfl))).trans h.ho, (hs f (.inl (.inr (.inl rfl)))).trans h.hf, (hs e (.inl (.inr (.inr (.inl rfl))))).trans h.he, (hs m (.inl (.inr (.inr (.inr (.inl rfl)))))).trans h.hm, h.hB.move (hs b (.inl (.inr (.inr (.inr (.inr rfl)))))), R61_move h.row (fun j hj => hs j (.inr hj)), h.ne, h.lo, h.mo, hb⟩
theorem NN.move (h : NN M w0 w n N vw vD) (hs : ∀ j, NS n vw vD j → w'.heap[j]? = w.heap[j]?) : NN M w0 w' n N vw vD :=
  ⟨(hs n (.inl rfl)).trans h.hn, R61_move h.hw (fun j hj => hs j (.inr (.inl hj))), Ru8_move h.hD (fun j hj => hs j (.inr (.inr hj))), h.ln, h.mn⟩
/-- A fixed block is no row of wants. -/
theorem RM.fixed (h : RM M w0 w o f e m b F By k vo) {α : Type} {d : Kd α} {t B : Nat} {ok : Nat → Prop} {v : Value} {xs : List α} (hv : d.R t w B ok v xs) (ht : t ≠ 57 ∧ t ≠ 3 ∧ t ≠ 112) {j : Nat} (hj : j = o ∨ j = f ∨ j = e ∨ j = m ∨ j = b) : v.ownBlock ≠ some j := by
  intro hk
  obtain ⟨_, hc⟩ := Kd.R_typed hv j hk
  rcases hj with rfl | rfl | rfl | rfl | rfl
  · rw [h.ho] at hc; cases hc; exact ht.1 rfl
  · rw [h.hf] at hc; cases hc; exact ht.2.1 rfl
  · rw [h.he] at hc; cases hc; exact ht.2.1 rfl
  · rw [h.hm] at hc; cases hc; exact ht.2.2 rfl
  · obtain ⟨_, _, hb⟩ := h.hB.obj; rw [hb] at hc; cases hc
theorem RM.fixedN (h : RM M w0 w o f e m b F By k vo) (g : NN M w0 w n N vw vD) {j : Nat} (hj : j = o ∨ j = f ∨ j = e ∨ j = m ∨ j = b) : ¬ NS n vw vD j := by
  rintro (hk | hk | hk)
  · subst hk
    have hc := g.hn
    rcases hj with rfl | rfl | rfl | rfl | rfl
    · rw [h.ho] at hc; simp at hc
    · rw [h.hf] at hc; simp at hc
    · rw [h.he] at hc; simp at hc
    · rw [h.hm] at hc; simp at hc
    · obtain ⟨_, _, hb⟩ := h.hB.obj; rw [hb] at hc; simp at hc
  · exact h.fixed g.hw (by decide) hj hk
  · exact h.fixed g.hD (by decide) hj hk
theorem RM.rowN (h : RM M w0 w o f e m b F By k vo) (g : NN M w0 w n N vw vD) : vo.ownBlock ≠ some n := by
  intro hk
  obtain ⟨_, hc⟩ := Kd.R_typed h.row n hk
  rw [g.hn] at hc
  cases hc
theorem RM.oo (h : RM M w0 w o f e m b F By k vo) : o ≠ f ∧ o ≠ e ∧ o ≠ m ∧ o ≠ b ∧ f ≠ m ∧ f ≠ b ∧ e ≠ m ∧ e ≠ b ∧ m ≠ b := by
  obtain ⟨_, _, hb⟩ := h.hB.obj
  have h1 := h.ho
  have h2 := h.hf
  have h3 := h.he
  have h4 := h.hm
  refine ⟨?_, ?_, ?_, ?_, ?_, ?_, ?_, ?_, ?_⟩ <;> rintro rfl
  · rw [h1] at h2; cases h2
  · rw [h1] at h3; cases h3
  · rw [h1] at h4; cases h4
  · rw [h1] at hb; cases hb
  · rw [h2] at h4; cases h4
  · rw [h2] at hb; cases hb
  · rw [h3] at h4; cases h4
  · rw [h3] at hb; cases hb
  · rw [h4] at hb; cases hb
/-- A reference's memory and a Next. -/
structure RN (M : Nat → Prop) (w0 w : World) (o f e m b n : Nat) (F : Fs) (By : Int → Int) (k : Nat) (N : Nx) (vo vw vD : Value) : Prop where
  r : RM M w0 w o f e m b F By k vo
  g : NN M w0 w n N vw vD
  ne : ∀ j, vo.ownBlock = some j → vw.ownBlock ≠ some j
theorem RN.apart (h : RN M w0 w o f e m b n F By k N vo vw vD) {j : Nat} (hj : RS o f e m b vo j) : ¬ NS n vw vD j := by
  rcases hj with hj | hj
  · exact h.r.fixedN h.g hj
  · rintro (rfl | hk | hk)
    · exact h.r.rowN h.g hj
    · exact h.ne j hj hk
    · exact own_apart h.r.row h.g.hD (by decide) j hj hk.symm
theorem RN.below (h : RN M w0 w o f e m b n F By k N vo vw vD) (hb : Below w.heap.size w w') : RN M w0 w' o f e m b n F By k N vo vw vD :=
  ⟨h.r.move (h.r.hb.trans (hb.mono h.r.hb.size)) (fun j hj => hb.block j (h.r.lt hj)), h.g.move (fun j hj => hb.block j (h.g.lt hj)), h.ne⟩
theorem RM.below (h : RM M w0 w o f e m b F By k vo) (hb : Below w.heap.size w w') : RM M w0 w' o f e m b F By k vo :=
  h.move (h.hb.trans (hb.mono h.hb.size)) (fun j hj => hb.block j (h.lt hj))
theorem RM.out (h : RM M w0 w o f e m b F By k vo) (hg : w.grownBy w' vo.ownBlock) (hb : Below w0.heap.size w0 w') {out' : List S61} (hr : Kd.R k61 61 w' w0.heap.size M v' out') : RM M w0 (w'.setCell ⟨o, 0, none⟩ v') o f e m b { F with out := out' } By k v' := by
  have s : ∀ j, (j = o ∨ j = f ∨ j = e ∨ j = m ∨ j = b) → w'.heap[j]? = w.heap[j]? := fun j hj => hg.block j (h.lt (.inl hj)) (fun e => h.fixed h.row (by decide) hj e.symm)
  have s2 : ∀ j, (j = f ∨ j = e ∨ j = m ∨ j = b) → (w'.setCell ⟨o, 0, none⟩ v').heap[j]? = w.heap[j]? := fun j hj => (Below.heap_setCell _ _ _ _ (show j ≠ o by have := h.oo; rcases hj with rfl | rfl | rfl | rfl <;> omega)).trans (s j (.inr hj))
  have h1 := (s o (.inl rfl)).trans h.ho
  exact ⟨blk_set h1 0 v', (s2 f (.inl rfl)).trans h.hf, (s2 e (.inr (.inl rfl))).trans h.he, (s2 m (.inr (.inr (.inl rfl)))).trans h.hm, h.hB.move (s2 b (.inr (.inr (.inr rfl)))), Kd.R_set hr h1 (k61_not (by decide)) 0 _, h.ne, h.lo, h.mo, hb.setCell (p := ⟨o, 0, none⟩) h.lo.1 _⟩
theorem RM.front (h : RM M w0 w o f e m b F By k vo) (i : Int) : RM M w0 (w.setCell ⟨f, 0, none⟩ (.int .i64 i)) o f e m b { F with front := i } By k vo := by
  have s2 : ∀ j, j ≠ f → (w.setCell ⟨f, 0, none⟩ (.int .i64 i)).heap[j]? = w.heap[j]? := fun j hj => Below.heap_setCell _ _ _ _ hj
  have := h.oo
  have := h.ne
  exact ⟨(s2 o (by omega)).trans h.ho, blk_set h.hf 0 _, (s2 e (by omega)).trans h.he, (s2 m (by omega)).trans h.hm, h.hB.move (s2 b (by omega)), Kd.R_set h.row h.hf (k61_not (by decide)) 0 _, h.ne, h.lo, h.mo, h.hb.setCell (p := ⟨f, 0, none⟩) h.lo.2.1 _⟩
theorem RM.fin (h : RM M w0 w o f e m b F By k vo) (i : Int) : RM M w0 (w.setCell ⟨e, 0, none⟩ (.int .i64 (endI i))) o f e m b { F with fin := i } By k vo := by
  have s2 : ∀ j, j ≠ e → (w.setCell ⟨e, 0, none⟩ (.int .i64 (endI i))).heap[j]? = w.heap[j]? := fun j hj => Below.heap_setCell _ _ _ _ hj
  have := h.oo
  have := h.ne
  exact ⟨(s2 o (by omega)).trans h.ho, (s2 f (by omega)).trans h.hf, blk_set h.he 0 _, (s2 m (by omega)).trans h.hm, h.hB.move (s2 b (by omega)), Kd.R_set h.row h.he (k61_not (by decide)) 0 _, h.ne, h.lo, h.mo, h.hb.setCell (p := ⟨e, 0, none⟩) h.lo.2.2.1 _⟩
theorem RM.put (h : RM M w0 w o f e m b F By k vo) {By' : Int → Int} {k' : Nat} (hg : w.grownBy w' (some b)) (hm : MapIs w' b By' k') : RM M w0 w' o f e m b F By' k' vo := by
  have s : ∀ j, j < w.heap.size → j ≠ b → w'.heap[j]? = w.heap[j]? := fun j hl hj => hg.block j hl (fun e => by injection e with e; exact hj e)
  have := h.oo
  exact ⟨(s o (blk_ltn h.ho) (by omega)).trans h.ho, (s f (blk_ltn h.hf) (by omega)).trans h.hf, (s e (blk_ltn h.he) (by omega)).trans h.he, (s m (blk_ltn h.hm) (by omega)).trans h.hm, hm, R61_move h.row (fun j hj => s j (own_lt h.row hj) (fun e => h.fixed h.row (by decide) (j := j) (by subst e; simp) hj)), h.ne, h.lo, h.mo, h.hb.trans ⟨hg.os, hg.tape, hg.output, hg.size, fun j hj => s j (Nat.lt_of_lt_of_le hj h.hb.size) (by have := h.lo; omega)⟩⟩
theorem RN.out (h : RN M w0 w o f e m b n F By k N vo vw vD) (hg : w.grownBy w' vo.ownBlock) (hb : Below w0.heap.size w0 w') {out' : List S61} (hr : Kd.R k61 61 w' w0.heap.size M v' out') (hat : v'.ownBlock = vo.ownBlock ∨ ∃ b, v'.ownBlock = some b ∧ w.heap.size ≤ b) : RN M w0 (w'.setCell ⟨o, 0, none⟩ v') o f e m b n { F with out := out' } By k N v' vw vD := by
  refine ⟨h.r.out hg hb hr, h.g.move (fun j hj => (Below.heap_setCell _ _ _ _ (fun e1 => h.apart (j := j) (.inl (.inl e1)) hj)).trans (hg.block j (h.g.lt hj) (fun e1 => h.apart (j := j) (.inr e1.symm) hj))), ?_⟩
  intro j hj e1
  rcases hat with h1 | ⟨c, h1, h2⟩
  · exact h.ne j (h1.symm.trans hj) e1
  · rw [h1] at hj
    cases hj
    have := own_lt h.g.hw e1
    omega
theorem RN.wants (h : RN M w0 w o f e m b n F By k N vo vw vD) (hg : w.grownBy w' vw.ownBlock) (hb : Below w0.heap.size w0 w') {ws : List S61} (hr : Kd.R k61 61 w' w0.heap.size M v' ws) (hat : v'.ownBlock = vw.ownBlock ∨ ∃ b, v'.ownBlock = some b ∧ w.heap.size ≤ b) : RN M w0 (w'.setCell ⟨n, 1, none⟩ v') o f e m b n F By k { N with wants := ws } vo v' vD := by
  have hn1 := (hg.block n (blk_ltn h.g.hn) (own_ne h.g.hw h.g.hn (by decide))).trans h.g.hn
  refine ⟨h.r.move (hb.setCell (p := ⟨n, 1, none⟩) h.g.ln _) (fun j hj => (Below.heap_setCell _ _ _ _ (fun e1 => h.apart hj (.inl e1))).trans (hg.block j (h.r.lt hj) (fun e1 => h.apart hj (.inr (.inl e1.symm))))), ⟨blk_set hn1 1 v', Kd.R_set hr hn1 (k61_not (by decide)) 1 _, Ru8_move h.g.hD (fun j hj => (Below.heap_setCell _ _ _ _ (fun e1 => by have e1 : j = n := e1; subst e1; exact own_ne h.g.hD h.g.hn (by decide) hj.symm)).trans (hg.block j (own_lt h.g.hD hj) (fun e1 => own_apart h.g.hD h.g.hw (by decide) j hj e1))), h.g.ln, h.g.mn⟩, ?_⟩
  intro j hj e1
  rcases hat with h1 | ⟨c, h1, h2⟩
  · exact h.ne j hj (h1.symm.trans e1)
  · rw [h1] at e1
    cases e1
    have := own_lt h.r.row hj
    omega
theorem RN.front (h : RN M w0 w o f e m b n F By k N vo vw vD) (i : Int) : RN M w0 (w.setCell ⟨f, 0, none⟩ (.int .i64 i)) o f e m b n { F with front := i } By k N vo vw vD :=
  ⟨h.r.front i, h.g.move (fun j hj => Below.heap_setCell _ _ _ _ (fun e1 => h.apart (j := j) (.inl (.inr (.inl e1))) hj)), h.ne⟩
theorem RN.done (h : RN M w0 w o f e m b n F By k N vo vw vD) (d : Bool) : RN M w0 (w.setCell ⟨n, 2, none⟩ (.bool d)) o f e m b n F By k { N with done := d } vo vw vD :=
  ⟨h.r.move (h.r.hb.setCell (p := ⟨n, 2, none⟩) h.g.ln _) (fun j hj => Below.heap_setCell _ _ _ _ (fun e1 => h.apart hj (.inl e1))), ⟨(blk_set h.g.hn 2 _).trans rfl, Kd.R_set h.g.hw h.g.hn (k61_not (by decide)) 2 _, Kd.R_set h.g.hD h.g.hn (u8_not (by decide)) 2 _, h.g.ln, h.g.mn⟩, h.ne⟩
theorem RN.data (h : RN M w0 w o f e m b n F By k N vo vw vD) (hg : w.grownBy w' vD.ownBlock) (hb : Below w0.heap.size w0 w') {ds : List Int} (hr : Kd.R (Kd.int .u8) 5 w' w0.heap.size M v' ds) : RN M w0 (w'.setCell ⟨n, 3, none⟩ v') o f e m b n F By k { N with data := ds } vo vw v' := by
  have hn1 := (hg.block n (blk_ltn h.g.hn) (own_ne h.g.hD h.g.hn (by decide))).trans h.g.hn
  exact ⟨h.r.move (hb.setCell (p := ⟨n, 3, none⟩) h.g.ln _) (fun j hj => (Below.heap_setCell _ _ _ _ (fun e1 => h.apart hj (.inl e1))).trans (hg.block j (h.r.lt hj) (fun e1 => h.apart hj (.inr (.inr e1.symm))))), ⟨(blk_set hn1 3 v').trans rfl, R61_move h.g.hw (fun j hj => (Below.heap_setCell _ _ _ _ (fun e1 => by have e1 : j = n := e1; subst e1; exact own_ne h.g.hw h.g.hn (by decide) hj.symm)).trans (hg.block j (own_lt h.g.hw hj) (fun e1 => own_apart h.g.hw h.g.hD (by decide) j hj e1))), Kd.R_set hr hn1 (u8_not (by decide)) 3 _, h.g.ln, h.g.mn⟩, h.ne⟩
end
end Go.Proofs.Ytkghoodhgihokaa.Fetch
