/- XMsgAc, XMsgAd, XMsgAe. -/
import Derived.Test.YtkghoodhgihokaaXMsgAa
import Derived.Test.YtkghoodhgihokaaXMsgV
import Derived.Test.YtkghoodhgihokaaXMsgX
namespace Go.Proofs.Ytkghoodhgihokaa.Msg
open Go.RowKit Go.Lib Go.Proofs.YtkghoodhgihokaaW.PrintWords Go.Proofs.YtkghoodhgihokaaW.PrintLast Go.Proofs.YtkghoodhgihokaaW.PrintMore
set_option linter.unusedVariables false
set_option linter.unusedSimpArgs false
theorem set_seven {W : World} {g : Nat} {a0 a1 a2 a3 a4 a5 a6 c0 c1 c2 c3 c4 c5 c6 : Value} (h : W.heap[g]? = some (.cells #[a0, a1, a2, a3, a4, a5, a6] 39 (0, 0))) : ((((((((W).setCell ⟨g, 0, none⟩ c0).setCell ⟨g, 1, none⟩ c1).setCell ⟨g, 2, none⟩ c2).setCell ⟨g, 3, none⟩ c3).setCell ⟨g, 4, none⟩ c4).setCell ⟨g, 5, none⟩ c5).setCell ⟨g, 6, none⟩ c6).heap[g]? = some (.cells #[c0, c1, c2, c3, c4, c5, c6] 39 (0, 0)) := by
  have h0 := blk_set h 0 c0
  have h1 := blk_set h0 1 c1
  have h2 := blk_set h1 2 c2
  have h3 := blk_set h2 3 c3
  have h4 := blk_set h3 4 c4
  have h5 := blk_set h4 5 c5
  have h6 := blk_set h5 6 c6
  simpa using h6
theorem R_seven {α : Type} {d : Kd α} {e base : Nat} {ok : Nat → Prop} {v : Value} {xs : List α} {W : World} {g : Nat} {c0 c1 c2 c3 c4 c5 c6 : Value} (h : d.R e W base ok v xs) (hok : ∀ k, ok k → k ≠ g) : d.R e (((((((((W).setCell ⟨g, 0, none⟩ c0).setCell ⟨g, 1, none⟩ c1).setCell ⟨g, 2, none⟩ c2).setCell ⟨g, 3, none⟩ c3).setCell ⟨g, 4, none⟩ c4).setCell ⟨g, 5, none⟩ c5).setCell ⟨g, 6, none⟩ c6)) base ok v xs :=
  Kd.R_far (Kd.R_far (Kd.R_far (Kd.R_far (Kd.R_far (Kd.R_far (Kd.R_far (h) hok _) hok _) hok _) hok _) hok _) hok _) hok _
theorem below_seven {w W : World} {g : Nat} {c0 c1 c2 c3 c4 c5 c6 : Value} (h : Below w.heap.size w W) (hg : w.heap.size ≤ g) : Below w.heap.size w (((((((((W).setCell ⟨g, 0, none⟩ c0).setCell ⟨g, 1, none⟩ c1).setCell ⟨g, 2, none⟩ c2).setCell ⟨g, 3, none⟩ c3).setCell ⟨g, 4, none⟩ c4).setCell ⟨g, 5, none⟩ c5).setCell ⟨g, 6, none⟩ c6)) :=
  below_set (below_set (below_set (below_set (below_set (below_set (below_set (h) hg) hg) hg) hg) hg) hg) hg
theorem kept_seven {S : Nat → Prop} {w W : World} {g : Nat} {c0 c1 c2 c3 c4 c5 c6 : Value} (h : Kept w W S) (hg : S g) : Kept w (((((((((W).setCell ⟨g, 0, none⟩ c0).setCell ⟨g, 1, none⟩ c1).setCell ⟨g, 2, none⟩ c2).setCell ⟨g, 3, none⟩ c3).setCell ⟨g, 4, none⟩ c4).setCell ⟨g, 5, none⟩ c5).setCell ⟨g, 6, none⟩ c6)) S :=
  (((((((h).setCell (p := ⟨g, 0, none⟩) (.inl hg) _).setCell (p := ⟨g, 1, none⟩) (.inl hg) _).setCell (p := ⟨g, 2, none⟩) (.inl hg) _).setCell (p := ⟨g, 3, none⟩) (.inl hg) _).setCell (p := ⟨g, 4, none⟩) (.inl hg) _).setCell (p := ⟨g, 5, none⟩) (.inl hg) _).setCell (p := ⟨g, 6, none⟩) (.inl hg) _
/-- No reply. -/
def zeroP : Rp := ⟨0, 0, 0, 0, 0, none, [], 0, none, [], 0⟩
/-- A reply whose bytes and names lie somewhere. -/
def Rp.at (q : Rp) (A : Option Addr) (c : Nat) (nA : Option Addr) (nc : Nat) : Rp := { q with dA := A, dc := c, nA := nA, nc := nc }
/-- A reply in memory, its bytes and its names owned; its code and its count; its result, not touched. -/
inductive PIn (b cc kc b0 B : Nat) (q : Rp) (cd ct : Int) (w : World) : Prop
  | mk (A : Option Addr) (c : Nat) (nA : Option Addr) (nc : Nat) (hq : w.heap[b]? = some (.cells (q.at A c nA nc).cells 39 (0, 0))) (hcc : w.heap[cc]? = some (.cells #[.int .i64 cd] 3 (0, 0))) (hkc : w.heap[kc]? = some (.cells #[.int .i64 ct] 3 (0, 0))) (h0 : w.heap[b0]? = some (.cells #[.int .i64 0, .int .i64 0, .int .i64 0, .int .i64 0, .int .i64 0, .slice none 0 0, .slice none 0 0] 39 (0, 0)))
      (hd : Kd.R (Kd.int .u8) 5 w B (fun _ => True) (.slice A q.data.length c) q.data) (hn : Kd.R Kd.string 9 w B (fun _ => True) (.slice nA q.names.length nc) q.names)
/-- Distinct blocks. -/
structure PDist (b cc kc b0 : Nat) : Prop where
  e1 : b ≠ cc
  e2 : b ≠ kc
  e3 : b ≠ b0
  e4 : cc ≠ kc
  e5 : cc ≠ b0
  e6 : kc ≠ b0
theorem PIn.below {b cc kc b0 B : Nat} {q : Rp} {cd ct : Int} {w w' : World} (h : PIn b cc kc b0 B q cd ct w) (hb : Below w.heap.size w w') : PIn b cc kc b0 B q cd ct w' := by
  obtain ⟨A, c, nA, nc, hq, hcc, hkc, h0, hd, hn⟩ := h
  exact ⟨A, c, nA, nc, (hb.block _ (blk_ltn hq)).trans hq, (hb.block _ (blk_ltn hcc)).trans hcc, (hb.block _ (blk_ltn hkc)).trans hkc, (hb.block _ (blk_ltn h0)).trans h0, Kd.R_below hd hb, Kd.R_below hn hb⟩
theorem u8_not {t : Nat} (h : t ≠ 5) : ∀ q', q' ∈ 5 :: (Kd.int .u8).E → q' ≠ t := by
  intro q' hq
  rcases List.mem_cons.1 hq with rfl | hq
  · exact fun e => h e.symm
  · cases hq
theorem str_not {t : Nat} (h : t ≠ 9) : ∀ q', q' ∈ 9 :: Kd.string.E → q' ≠ t := by
  intro q' hq
  rcases List.mem_cons.1 hq with rfl | hq
  · exact fun e => h e.symm
  · cases hq
theorem PIn.set {b cc kc b0 B : Nat} {q q' : Rp} {cd ct : Int} {w : World} (D : PDist b cc kc b0) (h : PIn b cc kc b0 B q cd ct w) (o : Nat) (u : Value) (hc' : ∀ A c nA nc, (q.at A c nA nc).cells.setIfInBounds o u = (q'.at A c nA nc).cells) (hd' : q'.data = q.data) (hn' : q'.names = q.names) : PIn b cc kc b0 B q' cd ct (w.setCell ⟨b, o, none⟩ u) := by
  obtain ⟨A, c, nA, nc, hq, hcc, hkc, h0, hd, hn⟩ := h
  have hq' := blk_set hq o u
  rw [hc'] at hq'
  exact ⟨A, c, nA, nc, hq', (Below.heap_setCell _ _ _ _ D.e1.symm).trans hcc, (Below.heap_setCell _ _ _ _ D.e2.symm).trans hkc, (Below.heap_setCell _ _ _ _ D.e3.symm).trans h0, by rw [hd']; exact Kd.R_set hd hq (u8_not (by decide)) o u, by rw [hn']; exact Kd.R_set hn hq (str_not (by decide)) o u⟩
theorem PIn.setD {b cc kc b0 B : Nat} {q : Rp} {cd ct : Int} {w : World} {A2 : Option Addr} {c2 : Nat} {l2 : List Int} (D : PDist b cc kc b0) (h : PIn b cc kc b0 B q cd ct w) (hR : Kd.R (Kd.int .u8) 5 w B (fun _ => True) (.slice A2 l2.length c2) l2) : PIn b cc kc b0 B { q with data := l2 } cd ct (w.setCell ⟨b, 5, none⟩ (.slice A2 l2.length c2)) := by
  obtain ⟨A, c, nA, nc, hq, hcc, hkc, h0, hd, hn⟩ := h
  have hq' := blk_set hq 5 (.slice A2 l2.length c2)
  exact ⟨A2, c2, nA, nc, hq'.trans rfl, (Below.heap_setCell _ _ _ _ D.e1.symm).trans hcc, (Below.heap_setCell _ _ _ _ D.e2.symm).trans hkc, (Below.heap_setCell _ _ _ _ D.e3.symm).trans h0, Kd.R_set hR hq (u8_not (by decide)) 5 _, Kd.R_set hn hq (str_not (by decide)) 5 _⟩
theorem PIn.setC {b cc kc b0 B : Nat} {q : Rp} {cd ct : Int} {w : World} (D : PDist b cc kc b0) (h : PIn b cc kc b0 B q cd ct w) (n : Int) : PIn b cc kc b0 B q n ct (w.setCell ⟨cc, 0, none⟩ (.int .i64 n)) := by
  obtain ⟨A, c, nA, nc, hq, hcc, hkc, h0, hd, hn⟩ := h
  exact ⟨A, c, nA, nc, (Below.heap_setCell _ _ _ _ D.e1).trans hq, by simpa using blk_set hcc 0 (.int .i64 n), (Below.heap_setCell _ _ _ _ D.e4.symm).trans hkc, (Below.heap_setCell _ _ _ _ D.e5.symm).trans h0, Kd.R_set hd hcc (u8_not (by decide)) 0 _, Kd.R_set hn hcc (str_not (by decide)) 0 _⟩
theorem PIn.setK {b cc kc b0 B : Nat} {q : Rp} {cd ct : Int} {w : World} (D : PDist b cc kc b0) (h : PIn b cc kc b0 B q cd ct w) (n : Int) : PIn b cc kc b0 B q cd n (w.setCell ⟨kc, 0, none⟩ (.int .i64 n)) := by
  obtain ⟨A, c, nA, nc, hq, hcc, hkc, h0, hd, hn⟩ := h
  exact ⟨A, c, nA, nc, (Below.heap_setCell _ _ _ _ D.e2).trans hq, (Below.heap_setCell _ _ _ _ D.e4).trans hcc, by simpa using blk_set hkc 0 (.int .i64 n), (Below.heap_setCell _ _ _ _ D.e6.symm).trans h0, Kd.R_set hd hkc (u8_not (by decide)) 0 _, Kd.R_set hn hkc (str_not (by decide)) 0 _⟩
/-- A name more. -/
theorem PIn.names {b cc kc b0 B : Nat} {q : Rp} {cd ct : Int} {w w1 : World} {A : Option Addr} {c : Nat} {nA nA1 : Option Addr} {nc nc1 : Nat} {ns : List ByteArray} (D : PDist b cc kc b0) (hq : w.heap[b]? = some (.cells (q.at A c nA nc).cells 39 (0, 0))) (hcc : w.heap[cc]? = some (.cells #[.int .i64 cd] 3 (0, 0))) (hkc : w.heap[kc]? = some (.cells #[.int .i64 ct] 3 (0, 0))) (h0 : w.heap[b0]? = some (.cells #[.int .i64 0, .int .i64 0, .int .i64 0, .int .i64 0, .int .i64 0, .slice none 0 0, .slice none 0 0] 39 (0, 0)))
    (hd : Kd.R (Kd.int .u8) 5 w B (fun _ => True) (.slice A q.data.length c) q.data) (hn : Kd.R Kd.string 9 w B (fun _ => True) (.slice nA q.names.length nc) q.names) (hg : w.grownBy w1 (Value.slice nA q.names.length nc).ownBlock) (hn1 : Kd.R Kd.string 9 w1 B (fun _ => True) (.slice nA1 ns.length nc1) ns) : PIn b cc kc b0 B { q with names := ns } cd ct (w1.setCell ⟨b, 6, none⟩ (.slice nA1 ns.length nc1)) := by
  have ne : ∀ {g : Nat} {cells : Array Value} {t : TypeId}, w.heap[g]? = some (.cells cells t (0, 0)) → t ≠ 9 → w1.heap[g]? = some (.cells cells t (0, 0)) := by
    intro g cells t hg' ht
    refine (hg.block g (blk_ltn hg') (fun e => ?_)).trans hg'
    obtain ⟨_, hc⟩ := Kd.R_typed hn g e.symm
    rw [hg'] at hc
    cases hc
    exact ht rfl
  have hq1 := ne hq (by decide)
  have hq' := blk_set hq1 6 (.slice nA1 ns.length nc1)
  have hd1 := Kd.R_over hd hn (u8_not (by decide)) hg
  exact ⟨A, c, nA1, nc1, hq'.trans rfl, (Below.heap_setCell _ _ _ _ D.e1.symm).trans (ne hcc (by decide)), (Below.heap_setCell _ _ _ _ D.e2.symm).trans (ne hkc (by decide)), (Below.heap_setCell _ _ _ _ D.e3.symm).trans (ne h0 (by decide)), Kd.R_set hd1 hq1 (u8_not (by decide)) 6 _, Kd.R_set hn1 hq1 (str_not (by decide)) 6 _⟩
/-- The parts of replies: where they lie. -/
def RpPart (b cc kc : Nat) (p : Pv) : Prop := (∃ wd o n, p = .num wd ⟨b, o, none⟩ n ∧ (wd = 1 ∨ wd = 2 ∨ wd = 4) ∧ (o = 0 ∨ o = 2 ∨ o = 3 ∨ o = 4)) ∨ (∃ n, p = .num 1 ⟨cc, 0, none⟩ n) ∨ (∃ n, p = .num 1 ⟨kc, 0, none⟩ n) ∨ (∃ A l c, p = .data ⟨b, 5, none⟩ A l c)
theorem rep_part (b cc kc : Nat) (q : Rp) (n : Int) : ∀ p ∈ repV b cc kc q n, RpPart b cc kc p := by
  intro p hp
  simp only [repV, List.mem_cons, List.not_mem_nil, or_false] at hp
  rcases hp with rfl | rfl | rfl | rfl | rfl | rfl | rfl
  · exact .inl ⟨_, _, _, rfl, by omega, by omega⟩
  · exact .inr (.inl ⟨_, rfl⟩)
  · exact .inl ⟨_, _, _, rfl, by omega, by omega⟩
  · exact .inl ⟨_, _, _, rfl, by omega, by omega⟩
  · exact .inl ⟨_, _, _, rfl, by omega, by omega⟩
  · exact .inr (.inr (.inr ⟨_, _, _, rfl⟩))
  · exact .inr (.inr (.inl ⟨_, rfl⟩))
/-- A reply, its code and its count with a part that was read. -/
def updP (cc kc : Nat) (s : Rp × Int × Int) (p : Pv) (x : GV) : Rp × Int × Int :=
  match x with
  | .num n => if p.addr.block = cc then (s.1, n, s.2.2) else if p.addr.block = kc then (s.1, s.2.1, n) else if p.addr.off = 0 then ({ s.1 with mark := n }, s.2) else if p.addr.off = 2 then ({ s.1 with handle := n }, s.2) else if p.addr.off = 3 then ({ s.1 with kind := n }, s.2) else ({ s.1 with size := n }, s.2)
  | .text _ => s
  | .data l => ({ s.1 with data := l }, s.2)
theorem rp_upd {b cc kc b0 B : Nat} (D : PDist b cc kc b0) {s : Rp × Int × Int} {w : World} {p : Pv} {x : GV} {u : Value} (hp : RpPart b cc kc p) (hof : x.of p) (h : PIn b cc kc b0 B s.1 s.2.1 s.2.2 w) (hx : x.is w B u) : PIn b cc kc b0 B (updP cc kc s p x).1 (updP cc kc s p x).2.1 (updP cc kc s p x).2.2 (w.setCell p.addr u) := by
  obtain ⟨q, cd, ct⟩ := s
  rcases hp with ⟨wd, o, n, rfl, _, ho⟩ | ⟨n, rfl⟩ | ⟨n, rfl⟩ | ⟨A', l', c', rfl⟩
  · obtain ⟨n', rfl⟩ := hof
    have hu : u = .int .i64 (n' : Int) := hx
    subst hu
    have e : updP cc kc (q, cd, ct) (.num wd ⟨b, o, none⟩ n) (.num n') = (if o = 0 then ({ q with mark := n' }, cd, ct) else if o = 2 then ({ q with handle := n' }, cd, ct) else if o = 3 then ({ q with kind := n' }, cd, ct) else ({ q with size := n' }, cd, ct)) := by
      show (if b = cc then _ else if b = kc then _ else _) = _
      rw [if_neg D.e1, if_neg D.e2]
      rfl
    rw [e]
    rcases ho with rfl | rfl | rfl | rfl
    · exact PIn.set D h 0 _ (fun _ _ _ _ => rfl) rfl rfl
    · exact PIn.set D h 2 _ (fun _ _ _ _ => rfl) rfl rfl
    · exact PIn.set D h 3 _ (fun _ _ _ _ => rfl) rfl rfl
    · exact PIn.set D h 4 _ (fun _ _ _ _ => rfl) rfl rfl
  · obtain ⟨n', rfl⟩ := hof
    have hu : u = .int .i64 (n' : Int) := hx
    subst hu
    have e : updP cc kc (q, cd, ct) (.num 1 ⟨cc, 0, none⟩ n) (.num n') = (q, (n' : Int), ct) := by
      show (if cc = cc then _ else _) = _
      rw [if_pos rfl]
    rw [e]
    exact PIn.setC D h _
  · obtain ⟨n', rfl⟩ := hof
    have hu : u = .int .i64 (n' : Int) := hx
    subst hu
    have e : updP cc kc (q, cd, ct) (.num 1 ⟨kc, 0, none⟩ n) (.num n') = (q, cd, (n' : Int)) := by
      show (if kc = cc then _ else if kc = kc then _ else _) = _
      rw [if_neg D.e4.symm, if_pos rfl]
    rw [e]
    exact PIn.setK D h _
  · obtain ⟨l2, rfl⟩ := hof
    have hR : Kd.R (Kd.int .u8) 5 w B (fun _ => True) u l2 := hx
    obtain ⟨A2, c2, hu⟩ := Kd.R_slice hR
    subst hu
    exact PIn.setD D h hR
theorem rp_ok {b cc kc b0 B : Nat} {p : Pv} (hp : RpPart b cc kc p) (h1 : B ≤ b) (h2 : B ≤ cc) (h3 : B ≤ kc) : p.wok ∧ B ≤ p.addr.block ∧ p.addr = ⟨p.addr.block, p.addr.off, none⟩ ∧ ∀ (s : Rp × Int × Int) (w : World), PIn b cc kc b0 B s.1 s.2.1 s.2.2 w → ∃ cells ty, w.heap[p.addr.block]? = some (.cells cells ty (0, 0)) ∧ p.addr.off < cells.size ∧ ty ≠ 78 := by
  rcases hp with ⟨wd, o, n, rfl, hw, ho⟩ | ⟨n, rfl⟩ | ⟨n, rfl⟩ | ⟨A', l', c', rfl⟩
  · exact ⟨hw, h1, rfl, fun s w hP => by obtain ⟨A, c, nA, nc, h, _, _, _, _, _⟩ := hP; exact ⟨_, 39, h, by show o < 7; omega, by decide⟩⟩
  · exact ⟨.inl rfl, h2, rfl, fun s w hP => by obtain ⟨A, c, nA, nc, _, h, _, _, _, _⟩ := hP; exact ⟨_, 3, h, by show 0 < 1; omega, by decide⟩⟩
  · exact ⟨.inl rfl, h3, rfl, fun s w hP => by obtain ⟨A, c, nA, nc, _, _, h, _, _, _⟩ := hP; exact ⟨_, 3, h, by show 0 < 1; omega, by decide⟩⟩
  · exact ⟨trivial, h1, rfl, fun s w hP => by obtain ⟨A, c, nA, nc, h, _, _, _, _, _⟩ := hP; exact ⟨_, 39, h, by show 5 < 7; omega, by decide⟩⟩
theorem takeRp_calls (b cc kc b0 : Nat) (D : PDist b cc kc b0) (ps : List Pv) (hps : ∀ p ∈ ps, RpPart b cc kc p) (w0 : World) (l : List Int) (A : Option Addr) (c : Nat) (s : Rp × Int × Int) (w : World) (v : Value) (h1 : w0.heap.size ≤ b) (h2 : w0.heap.size ≤ cc) (h3 : w0.heap.size ≤ kc)
    (hl4 : ps.length ≤ 1000) (hr : Kd.C (Kd.int .u8) w0 A l.length l) (hc : l.length ≤ c) (hb : ∀ x ∈ l, 0 ≤ x ∧ x ≤ 255) (hl : l.length ≤ 140737488351232) (hB : Below w0.heap.size w0 w) (hs : PIn b cc kc b0 w0.heap.size s.1 s.2.1 s.2.2 w) (hv : kpv.R 78 w w0.heap.size (fun _ => True) v ps) :
    Calls Try.prog 50 #[.slice A l.length c, v] w fun e w' => TPost (fun s w => PIn b cc kc b0 w0.heap.size s.1 s.2.1 s.2.2 w) w0 v ps l (takeG (updP cc kc) ps s l) e w' :=
  take_calls (fun s w => PIn b cc kc b0 w0.heap.size s.1 s.2.1 s.2.2 w) (updP cc kc) ps w0 l A c s w v (fun s w w' h hb => PIn.below (q := s.1) (cd := s.2.1) (ct := s.2.2) (w := w) (w' := w') h hb) (fun s w p x u hp hof _ hI hx => rp_upd D (hps p hp) hof hI hx) (fun p hp => rp_ok (hps p hp) h1 h2 h3) hl4 hr hc hb hl hB hs hv
/-- So many names read of bytes. -/
def namesG : Nat → List Int → List ByteArray → Option (List ByteArray × List Int)
  | 0, l, ns => some (ns, l)
  | n + 1, l, ns => match getG (.text ⟨0, 0, none⟩ ⟨#[]⟩) l with
    | some (.text s, r) => namesG n r (ns ++ [s])
    | _ => none
/-- What msg.Answered answers; cc and kc: where code and count lie. -/
def answeredF (b cc kc : Nat) (l : List Int) : Rp × Int :=
  match takeG (updP cc kc) (repV b cc kc zeroP 0) (zeroP, 0, 0) l with
  | none => (zeroP, 5)
  | some (s, r) => match namesG s.2.2.toNat r [] with
    | none => (zeroP, 5)
    | some (ns, r2) => if 0 < r2.length then (zeroP, 4) else if pfaultF { s.1 with code := s.2.1, names := ns } ≠ 0 then (zeroP, 4) else ({ s.1 with code := s.2.1, names := ns }, 0)
/-- What Answered leaves. -/
inductive PPost (w : World) (out : Rp × Int) (e : Ending) (w' : World) : Prop
  | mk (A : Option Addr) (c : Nat) (nA : Option Addr) (nc : Nat) (he : e = .returned (.tuple #[.agg (out.1.at A c nA nc).cells, .int .i64 out.2])) (hc : out.1.data.length ≤ c) (hr : Kd.C (Kd.int .u8) w' A out.1.data.length out.1.data) (hnc : out.1.names.length ≤ nc) (hn : Kd.C Kd.string w' nA out.1.names.length out.1.names) (hb : Below w.heap.size w w')
theorem PPost.zero {w : World} {n : Int} {w' : World} (hb : Below w.heap.size w w') : PPost w (zeroP, n) (.returned (.tuple #[.agg #[.int .i64 0, .int .i64 0, .int .i64 0, .int .i64 0, .int .i64 0, .slice none 0 0, .slice none 0 0], .int .i64 n])) w' :=
  .mk none 0 none 0 rfl (Nat.le_refl _) ⟨rfl, by simp [zeroP], fun h => absurd h (Nat.lt_irrefl 0)⟩ (Nat.le_refl _) ⟨rfl, by simp [zeroP], fun h => absurd h (Nat.lt_irrefl 0)⟩ hb
end Go.Proofs.Ytkghoodhgihokaa.Msg
namespace Go.Proofs.Ytkghoodhgihokaa.Msg
open Go.RowKit Go.Lib Go.Proofs.YtkghoodhgihokaaW.PrintWords Go.Proofs.YtkghoodhgihokaaW.PrintLast Go.Proofs.YtkghoodhgihokaaW.PrintMore
set_option linter.unusedVariables false
set_option linter.unusedSimpArgs false
theorem alloc4 (w : World) (o0 o1 o2 o3 : Array Value) (t0 t1 t2 t3 : TypeId) : ((((w.alloc (.cells o0 t0)).alloc (.cells o1 t1)).alloc (.cells o2 t2)).alloc (.cells o3 t3)).heap[w.heap.size]? = some (.cells o0 t0 (0, 0)) ∧ ((((w.alloc (.cells o0 t0)).alloc (.cells o1 t1)).alloc (.cells o2 t2)).alloc (.cells o3 t3)).heap[w.heap.size + 1]? = some (.cells o1 t1 (0, 0)) ∧ ((((w.alloc (.cells o0 t0)).alloc (.cells o1 t1)).alloc (.cells o2 t2)).alloc (.cells o3 t3)).heap[w.heap.size + 2]? = some (.cells o2 t2 (0, 0)) ∧ ((((w.alloc (.cells o0 t0)).alloc (.cells o1 t1)).alloc (.cells o2 t2)).alloc (.cells o3 t3)).heap[w.heap.size + 3]? = some (.cells o3 t3 (0, 0)) ∧ Below w.heap.size w ((((w.alloc (.cells o0 t0)).alloc (.cells o1 t1)).alloc (.cells o2 t2)).alloc (.cells o3 t3)) := by
  have s1 : (w.alloc (.cells o0 t0)).heap.size = w.heap.size + 1 := by simp
  have s2 : ((w.alloc (.cells o0 t0)).alloc (.cells o1 t1)).heap.size = w.heap.size + 2 := by simp
  have s3 : (((w.alloc (.cells o0 t0)).alloc (.cells o1 t1)).alloc (.cells o2 t2)).heap.size = w.heap.size + 3 := by simp
  have B3 := (Below.refl _ (((w.alloc (.cells o0 t0)).alloc (.cells o1 t1)).alloc (.cells o2 t2))).alloc (Nat.le_refl _) (.cells o3 t3)
  have B2 := ((Below.refl _ ((w.alloc (.cells o0 t0)).alloc (.cells o1 t1))).alloc (Nat.le_refl _) (.cells o2 t2)).trans (B3.mono (by simp))
  have B1 := ((Below.refl _ (w.alloc (.cells o0 t0))).alloc (Nat.le_refl _) (.cells o1 t1)).trans (B2.mono (by simp))
  have B0 := ((Below.refl _ w).alloc (Nat.le_refl _) (.cells o0 t0)).trans (B1.mono (by simp))
  have n0 := heap_alloc_new w (.cells o0 t0)
  have n1 := heap_alloc_new (w.alloc (.cells o0 t0)) (.cells o1 t1)
  have n2 := heap_alloc_new ((w.alloc (.cells o0 t0)).alloc (.cells o1 t1)) (.cells o2 t2)
  have n3 := heap_alloc_new (((w.alloc (.cells o0 t0)).alloc (.cells o1 t1)).alloc (.cells o2 t2)) (.cells o3 t3)
  rw [s1] at n1
  rw [s2] at n2
  rw [s3] at n3
  exact ⟨(B1.block _ (by rw [s1]; omega)).trans n0, (B2.block _ (by rw [s2]; omega)).trans n1, (B3.block _ (by rw [s3]; omega)).trans n2, n3, B0⟩
theorem upd_count (N : Nat) (cc kc : Nat) (s : Rp × Int × Int) (p : Pv) (l r : List Int) (x : GV) (hp : p.wok) (hb : ∀ y ∈ l, 0 ≤ y ∧ y ≤ 255) (hl : l.length ≤ N) (hs : (∃ n : Nat, s.2.2 = (n : Int) ∧ n ≤ 4294967295) ∧ s.1.data.length ≤ N ∧ s.1.names = []) (h : getG p l = some (x, r)) : (∃ n : Nat, (updP cc kc s p x).2.2 = (n : Int) ∧ n ≤ 4294967295) ∧ (updP cc kc s p x).1.data.length ≤ N ∧ (updP cc kc s p x).1.names = [] := by
  obtain ⟨h1, h2, h3⟩ := hs
  cases x with
  | num n =>
    have hn : n ≤ 4294967295 := by
      cases p with
      | num wd a m =>
        rw [getG_num] at h
        by_cases h1 : l.length < wd
        · rw [if_pos h1] at h; cases h
        · rw [if_neg h1] at h
          cases h
          have hw : wd ≤ 4 := by rcases hp with h | h | h <;> omega
          have := valN_bd l hb wd hw (by omega)
          have h5 : (256 : Nat) ^ wd ≤ 256 ^ 4 := Nat.pow_le_pow_right (by decide) hw
          omega
      | text a t =>
        rw [getG_text] at h
        by_cases h1 : l.length < 2
        · rw [if_pos h1] at h; cases h
        rw [if_neg h1] at h
        by_cases h2 : (l.drop 2).length < valN (l.take 2)
        · rw [if_pos h2] at h; cases h
        · rw [if_neg h2] at h; cases h
      | data a A e c =>
        rw [getG_data] at h
        by_cases h1 : l.length < 2
        · rw [if_pos h1] at h; cases h
        rw [if_neg h1] at h
        by_cases h2 : (l.drop 2).length < valN (l.take 2)
        · rw [if_pos h2] at h; cases h
        · rw [if_neg h2] at h; cases h
    show (∃ n' : Nat, (if p.addr.block = cc then (s.1, (n : Int), s.2.2) else if p.addr.block = kc then (s.1, s.2.1, (n : Int)) else if p.addr.off = 0 then ({ s.1 with mark := (n : Int) }, s.2) else if p.addr.off = 2 then ({ s.1 with handle := (n : Int) }, s.2) else if p.addr.off = 3 then ({ s.1 with kind := (n : Int) }, s.2) else ({ s.1 with size := (n : Int) }, s.2) : Rp × Int × Int).2.2 = (n' : Int) ∧ n' ≤ 4294967295) ∧ (if p.addr.block = cc then (s.1, (n : Int), s.2.2) else if p.addr.block = kc then (s.1, s.2.1, (n : Int)) else if p.addr.off = 0 then ({ s.1 with mark := (n : Int) }, s.2) else if p.addr.off = 2 then ({ s.1 with handle := (n : Int) }, s.2) else if p.addr.off = 3 then ({ s.1 with kind := (n : Int) }, s.2) else ({ s.1 with size := (n : Int) }, s.2) : Rp × Int × Int).1.data.length ≤ N ∧ (if p.addr.block = cc then (s.1, (n : Int), s.2.2) else if p.addr.block = kc then (s.1, s.2.1, (n : Int)) else if p.addr.off = 0 then ({ s.1 with mark := (n : Int) }, s.2) else if p.addr.off = 2 then ({ s.1 with handle := (n : Int) }, s.2) else if p.addr.off = 3 then ({ s.1 with kind := (n : Int) }, s.2) else ({ s.1 with size := (n : Int) }, s.2) : Rp × Int × Int).1.names = []
    repeat' split
    all_goals first
      | exact ⟨h1, h2, h3⟩
      | exact ⟨⟨n, rfl, hn⟩, h2, h3⟩
  | text t => exact ⟨h1, h2, h3⟩
  | data d =>
    refine ⟨h1, ?_, h3⟩
    have := upd_len N zeroQ p l r (.data d) (Nat.zero_le _) hl h
    exact this
theorem take_count (N : Nat) (cc kc : Nat) : ∀ (ps : List Pv) (s : Rp × Int × Int) (l : List Int) (s2 : Rp × Int × Int) (r : List Int), (∀ p ∈ ps, p.wok) → (∀ y ∈ l, 0 ≤ y ∧ y ≤ 255) → l.length ≤ N → ((∃ n : Nat, s.2.2 = (n : Int) ∧ n ≤ 4294967295) ∧ s.1.data.length ≤ N ∧ s.1.names = []) → takeG (updP cc kc) ps s l = some (s2, r) → (∃ n : Nat, s2.2.2 = (n : Int) ∧ n ≤ 4294967295) ∧ s2.1.data.length ≤ N ∧ s2.1.names = []
  | [], s, l, s2, r, _, _, _, hs, h => by cases h; exact hs
  | p :: t, s, l, s2, r, hw, hb, hl, hs, h => by
    cases hG : getG p l with
    | none => rw [takeG_no hG] at h; cases h
    | some xr =>
      obtain ⟨x, r'⟩ := xr
      rw [takeG_yes hG] at h
      have hp := getG_part hG
      exact take_count N cc kc t _ r' s2 r (fun q hq => hw q (List.mem_cons_of_mem _ hq)) (hp.2.1 hb) (Nat.le_trans hp.1 hl) (upd_count N cc kc s p l r' x (hw p List.mem_cons_self) hb hl hs hG) h
/-- What a box for a name holds, once it was read. -/
inductive Got (w0 : World) (bs : Nat) (li : List Int) (N : Nat) (ok : Bool) (t : ByteArray) (r : List Int) (A : Option Addr) (c : Nat) (w' : World) : Prop
  | mk (hg : getG (.text ⟨0, 0, none⟩ ⟨#[]⟩) li = if ok = true then some (.text t, r) else none) (hc : r.length ≤ c) (hr : Kd.C (Kd.int .u8) w0 A r.length r) (hb : ∀ y ∈ r, 0 ≤ y ∧ y ≤ 255) (hl : r.length ≤ N) (hx : w'.heap[bs]? = some (.cells #[.string t] 9 (0, 0)))
theorem got_of {w0 W w' : World} {bs N : Nat} {li : List Int} {e : Ending} (h : GPost w0 W ⟨bs, 0, none⟩ (getG (.text ⟨bs, 0, none⟩ ⟨#[]⟩) li) e w') (hx : W.heap[bs]? = some (.cells #[.string ⟨#[]⟩] 9 (0, 0))) (hb : ∀ y ∈ li, 0 ≤ y ∧ y ≤ 255) (hl : li.length ≤ N) : ∃ ok t r A c, e = .returned (.tuple #[.slice A r.length c, .bool ok]) ∧ Got w0 bs li N ok t r A c w' ∧ ∀ w1 : World, Below w1.heap.size w1 W → w1.heap.size ≤ bs → Below w1.heap.size w1 w' := by
  have hG : getG (.text ⟨bs, 0, none⟩ ⟨#[]⟩) li = getG (.text ⟨0, 0, none⟩ ⟨#[]⟩) li := rfl
  rw [hG] at h
  cases ho : getG (.text ⟨0, 0, none⟩ ⟨#[]⟩) li with
  | none =>
    rw [ho] at h
    obtain ⟨he, hB⟩ := no_of h
    exact ⟨false, ⟨#[]⟩, [], none, 0, he, ⟨ho, Nat.le_refl _, ⟨rfl, by simp, fun h => absurd h (Nat.lt_irrefl 0)⟩, fun _ h => (by cases h), Nat.zero_le _, (hB.block _ (blk_ltn hx)).trans hx⟩, fun w1 h1 h2 => h1.trans (hB.mono h1.size)⟩
  | some xr =>
    obtain ⟨x, r⟩ := xr
    rw [ho] at h
    obtain ⟨A, c, he, hc, hr, wm, u, hB, hxu, rfl⟩ := yes_of h
    obtain ⟨h1, h2, t, rfl⟩ := getG_part ho
    have hu : u = .string t := hxu
    subst hu
    exact ⟨true, t, r, A, c, he, ⟨ho, hc, hr, h2 hb, Nat.le_trans h1 hl, by simpa using blk_set ((hB.block _ (blk_ltn hx)).trans hx) 0 (.string t)⟩, fun w1 h1' h2' => (h1'.trans (hB.mono h1'.size)).setCell (p := ⟨bs, 0, none⟩) h2' _⟩
/-- A reply in memory, told by its places. -/
structure PStep (b cc kc b0 B : Nat) (q : Rp) (cd ct : Int) (A : Option Addr) (c : Nat) (nA : Option Addr) (nc : Nat) (w : World) : Prop where
  hq : w.heap[b]? = some (.cells (q.at A c nA nc).cells 39 (0, 0))
  hcc : w.heap[cc]? = some (.cells #[.int .i64 cd] 3 (0, 0))
  hkc : w.heap[kc]? = some (.cells #[.int .i64 ct] 3 (0, 0))
  hz : w.heap[b0]? = some (.cells #[.int .i64 0, .int .i64 0, .int .i64 0, .int .i64 0, .int .i64 0, .slice none 0 0, .slice none 0 0] 39 (0, 0))
  hd : Kd.R (Kd.int .u8) 5 w B (fun _ => True) (.slice A q.data.length c) q.data
  hn : Kd.R Kd.string 9 w B (fun _ => True) (.slice nA q.names.length nc) q.names
theorem PStep.of {b cc kc b0 B : Nat} {q : Rp} {cd ct : Int} {w : World} (h : PIn b cc kc b0 B q cd ct w) : ∃ A c nA nc, PStep b cc kc b0 B q cd ct A c nA nc w := by
  obtain ⟨A, c, nA, nc, h1, h2, h3, h4, h5, h6⟩ := h
  exact ⟨A, c, nA, nc, h1, h2, h3, h4, h5, h6⟩
theorem PStep.grown {b cc kc b0 B : Nat} {q : Rp} {cd ct : Int} {A : Option Addr} {c : Nat} {nA : Option Addr} {nc : Nat} {w w1 : World} (h : PStep b cc kc b0 B q cd ct A c nA nc w) (hg : w.grownBy w1 none) : PStep b cc kc b0 B q cd ct A c nA nc w1 :=
  ⟨(hg.block _ (blk_ltn h.hq) (by simp)).trans h.hq, (hg.block _ (blk_ltn h.hcc) (by simp)).trans h.hcc, (hg.block _ (blk_ltn h.hkc) (by simp)).trans h.hkc, (hg.block _ (blk_ltn h.hz) (by simp)).trans h.hz, Kd.R_grown h.hd hg (by simp), Kd.R_grown h.hn hg (by simp)⟩
theorem PStep.names {b cc kc b0 B : Nat} {q : Rp} {cd ct : Int} {A : Option Addr} {c : Nat} {nA nA1 : Option Addr} {nc nc1 : Nat} {ns : List ByteArray} {w w1 : World} (D : PDist b cc kc b0) (h : PStep b cc kc b0 B q cd ct A c nA nc w) (hg : w.grownBy w1 (Value.slice nA q.names.length nc).ownBlock) (hn1 : Kd.R Kd.string 9 w1 B (fun _ => True) (.slice nA1 ns.length nc1) ns) : PIn b cc kc b0 B { q with names := ns } cd ct (w1.setCell ⟨b, 6, none⟩ (.slice nA1 ns.length nc1)) :=
  PIn.names D h.hq h.hcc h.hkc h.hz h.hd h.hn hg hn1
theorem PStep.slot {b cc kc b0 B : Nat} {q : Rp} {cd ct : Int} {A : Option Addr} {c : Nat} {nA : Option Addr} {nc : Nat} {w w1 : World} (h : PStep b cc kc b0 B q cd ct A c nA nc w) (hg : w.grownBy w1 (Value.slice nA q.names.length nc).ownBlock) : (∃ u, w1.cell? ⟨b, 6, none⟩ = some u) ∧ w1.frozen? ⟨b, 6, none⟩ = false := by
  have hq1 : w1.heap[b]? = some (.cells (q.at A c nA nc).cells 39 (0, 0)) := (hg.block b (blk_ltn h.hq) (fun e => by
    obtain ⟨_, hc⟩ := Kd.R_typed h.hn b e.symm
    rw [h.hq] at hc
    cases hc)).trans h.hq
  exact ⟨⟨_, (blk_cell hq1 6).trans rfl⟩, blk_frozen hq1 6⟩
theorem info9a : (Try.prog.info? 9).map (fun i => (i.zero, i.size, i.bytes)) = some (some (.string ⟨#[]⟩), 1, 16) := by kernel_rfl
set_option maxHeartbeats 8000000 in
set_option maxRecDepth 100000 in
theorem answered_calls (A : Option Addr) (c : Nat) (l : List Int) (w : World) (hr : Kd.C (Kd.int .u8) w A l.length l) (hc : l.length ≤ c) (hb : ∀ x ∈ l, 0 ≤ x ∧ x ≤ 255) (hl : l.length ≤ 140737488351232) :
    Calls Try.prog 23 #[.slice A l.length c] w fun e w' => PPost w (answeredF (w.heap.size + 1) (w.heap.size + 2) (w.heap.size + 3) l) e w' := by
  obtain ⟨n0, n1, n2, n3, hB⟩ := alloc4 w #[.int .i64 0, .int .i64 0, .int .i64 0, .int .i64 0, .int .i64 0, .slice none 0 0, .slice none 0 0] #[.int .i64 0, .int .i64 0, .int .i64 0, .int .i64 0, .int .i64 0, .slice none 0 0, .slice none 0 0] #[.int .i64 0] #[.int .i64 0] 39 39 3 3
  obtain ⟨W1, hW1⟩ : ∃ W, (((w.alloc (.cells #[.int .i64 0, .int .i64 0, .int .i64 0, .int .i64 0, .int .i64 0, .slice none 0 0, .slice none 0 0] 39)).alloc (.cells #[.int .i64 0, .int .i64 0, .int .i64 0, .int .i64 0, .int .i64 0, .slice none 0 0, .slice none 0 0] 39)).alloc (.cells #[.int .i64 0] 3)).alloc (.cells #[.int .i64 0] 3) = W := ⟨_, rfl⟩
  rw [hW1] at n0 n1 n2 n3 hB
  obtain ⟨kc, hkc⟩ : ∃ b, w.heap.size + 3 = b := ⟨_, rfl⟩
  obtain ⟨cc, hcc⟩ : ∃ b, w.heap.size + 2 = b := ⟨_, rfl⟩
  obtain ⟨b, hbb⟩ : ∃ b, w.heap.size + 1 = b := ⟨_, rfl⟩
  rw [hkc] at n3 ⊢
  rw [hcc] at n2 ⊢
  rw [hbb] at n1 ⊢
  obtain ⟨b0, hb0⟩ : ∃ b, w.heap.size = b := ⟨_, rfl⟩
  have HB := Aside0.mk hB
  have HD := Aside0.mk (show PDist b cc kc b0 from ⟨by omega, by omega, by omega, by omega, by omega, by omega⟩)
  have HG0 := Aside0.mk (show w.heap.size ≤ b0 by omega)
  have HG1 := Aside0.mk (show w.heap.size ≤ b ∧ w.heap.size ≤ cc ∧ w.heap.size ≤ kc by omega)
  have hk1 : b0 + 1 = b := by omega
  have hk2 : b + 1 = cc := by omega
  have hk3 : cc + 1 = kc := by omega
  have hk2' : b0 + 2 = cc := by omega
  have hk3' : b0 + 3 = kc := by omega
  rw [hb0] at n0
  have HI1 := Aside0.mk (show PIn b cc kc b0 w.heap.size zeroP 0 0 W1 from .mk none 0 none 0 n1 n2 n3 n0 (Kd.R_nil _ _ _ _ _) (Kd.R_nil _ _ _ _ _))
  have HR := Aside0.mk hr
  have HC := Aside0.mk hc
  have HBY := Aside0.mk hb
  have HL := Aside0.mk hl
  have HT1 := Aside0.mk (fun (W : World) (v : Value) (hB : Below w.heap.size w W) (hs : PIn b cc kc b0 w.heap.size zeroP 0 0 W) (hv : kpv.R 78 W w.heap.size (fun _ => True) v (repV b cc kc zeroP 0)) => takeRp_calls b cc kc b0 HD.out (repV b cc kc zeroP 0) (rep_part b cc kc zeroP 0) w l A c (zeroP, 0, 0) W v HG1.out.1 HG1.out.2.1 HG1.out.2.2 (by show 7 ≤ 1000; omega) HR.out HC.out HBY.out HL.out hB hs hv)
  clear n0 n1 n2 n3 hB hr hc hb hl hkc hcc hbb
  cases hG1 : takeG (updP cc kc) (repV b cc kc zeroP 0) (zeroP, 0, 0) l with
  | none =>
    have HA := Aside0.mk (show answeredF b cc kc l = (zeroP, 5) by unfold answeredF; rw [hG1])
    rw [hG1] at HT1
    clear hG1
    go_enter Try.func23, Try.ntmps23
    go_upto_region 3 with fail
    clear hW1 hk1 hk2 hk3 hk2' hk3'
    go_upto_region 4 with (first
      | (go_at_call 54; refine (replied_calls b cc kc zeroP 0 _).mono ?_; rintro e w2 ⟨v2, rfl, ho2, hb2⟩; have HB2 := Aside0.mk (HB.out.trans (hb2.mono HB.out.size)); have HO2 := Aside0.mk (Kd.R_lower ho2 HB.out.size); have HI2 := Aside0.mk (PIn.below (q := zeroP) (cd := 0) (ct := 0) HI1.out hb2); clear ho2 hb2)
      | (go_at_call 50; refine (HT1.out _ _ HB2.out HI2.out HO2.out).mono ?_; rintro e w3 hp3; have hp3 := tno_of hp3; obtain ⟨rfl, ⟨s3, hi3⟩, hb3⟩ := hp3; have HB3 := Aside0.mk hb3; have HI3 := Aside0.mk (show PIn b cc kc b0 w.heap.size s3.1 s3.2.1 s3.2.2 w3 from hi3); clear hi3 hb3))
    obtain ⟨A3, c3, nA3, nc3, hq3, hcc3, hkc3, h03, hd3, hn3⟩ := HI3.out
    have hcl : w3.cell? ⟨cc, 0, none⟩ = some (.int .i64 s3.2.1) := (blk_cell hcc3 0).trans rfl
    obtain ⟨old, hold⟩ : ∃ v, w3.cell? ⟨b, 1, none⟩ = some v := ⟨_, (blk_cell hq3 1).trans rfl⟩
    have hfo := blk_frozen hq3 1
    have hne := HD.out.e3.symm
    have HH3 := Aside0.mk (show (w3.setCell ⟨b, 1, none⟩ (.int .i64 s3.2.1)).heap[b0]? = some (.cells #[.int .i64 0, .int .i64 0, .int .i64 0, .int .i64 0, .int .i64 0, .slice none 0 0, .slice none 0 0] 39 (0, 0)) from (Below.heap_setCell _ _ _ _ hne).trans h03)
    have HB4 := Aside0.mk (below_set (j := 1) (v := .int .i64 s3.2.1) HB3.out HG1.out.1)
    clear hq3 hcc3 hkc3 h03 hd3 hn3 hne
    go_upto_region 5 with fail
    obtain ⟨W4, hW4⟩ : ∃ W, w3.setCell ⟨b, 1, none⟩ (.int .i64 s3.2.1) = W := ⟨_, rfl⟩
    rw [hW4] at HH3 HB4 ⊢
    clear hW4 hcl hold hfo
    have hz0 := (blk_cell HH3.out 0).trans rfl
    have hf0 := blk_frozen HH3.out 0
    have hz1 := (blk_cell HH3.out 1).trans rfl
    have hf1 := blk_frozen HH3.out 1
    have hz2 := (blk_cell HH3.out 2).trans rfl
    have hf2 := blk_frozen HH3.out 2
    have hz3 := (blk_cell HH3.out 3).trans rfl
    have hf3 := blk_frozen HH3.out 3
    have hz4 := (blk_cell HH3.out 4).trans rfl
    have hf4 := blk_frozen HH3.out 4
    have hz5 := (blk_cell HH3.out 5).trans rfl
    have hf5 := blk_frozen HH3.out 5
    have hz6 := (blk_cell HH3.out 6).trans rfl
    have hf6 := blk_frozen HH3.out 6
    go_wp2
    have HH4 := HH3
    clear HH3
    go_loopg [7, 8, 9] 0 (fun g _ s8 _ wx => s8 = .bool false ∧ wx = W4)
    case atStart => exact ⟨rfl, rfl⟩
    case round =>
      obtain ⟨rfl, hwx⟩ := hrel
      rw [hwx]
      clear hwx
      go_wp2
      try simp only [Exit.inBlock, Exit.then]
      refine bodyPost_ret (results_ct rfl _ _ b0 39 _ (0, 0) _ rfl (set_seven HH4.out) Try.underlying39 rfl (by kernel_rfl)) rfl ?_
      try rw [HA.out]
      exact PPost.zero (below_seven HB4.out HG0.out)
  | some sr =>
    obtain ⟨s1, r1⟩ := sr
    have hcnt := take_count l.length cc kc (repV b cc kc zeroP 0) (zeroP, 0, 0) l s1 r1 (fun p hp => (rp_ok (b0 := b0) (B := 0) (rep_part b cc kc zeroP 0 p hp) (Nat.zero_le _) (Nat.zero_le _) (Nat.zero_le _)).1) HBY.out (Nat.le_refl _) ⟨⟨0, rfl, by omega⟩, Nat.zero_le _, rfl⟩ hG1
    obtain ⟨q1, cd, ct⟩ := s1
    obtain ⟨⟨N, hN, hNl⟩, hdl, hnm⟩ := hcnt
    have hN : ct = (N : Int) := hN
    subst hN
    have HNL := Aside0.mk hNl
    have HDL := Aside0.mk (show q1.data.length ≤ 140737488351232 from Nat.le_trans hdl HL.out)
    have HNM := Aside0.mk (show q1.names = [] from hnm)
    obtain ⟨q2, hq2⟩ : ∃ q : Rp, ({ q1 with code := cd } : Rp) = q := ⟨_, rfl⟩
    have HQ2 := Aside0.mk hq2
    have HA := Aside0.mk (show answeredF b cc kc l = match namesG N r1 [] with
      | none => (zeroP, 5)
      | some (ns, r2) => if 0 < r2.length then (zeroP, 4) else if pfaultF { q2 with names := ns } ≠ 0 then (zeroP, 4) else ({ q2 with names := ns }, 0) by unfold answeredF; rw [hG1]; rw [← hq2]; rfl)
    rw [hG1] at HT1
    clear hG1 hNl hdl hnm hq2
    go_enter Try.func23, Try.ntmps23
    go_upto_region 3 with fail
    clear hW1 hk1 hk2 hk3 hk2' hk3'
    go_upto_region 4 with (first
      | (go_at_call 54; refine (replied_calls b cc kc zeroP 0 _).mono ?_; rintro e w2 ⟨v2, rfl, ho2, hb2⟩; have HB2 := Aside0.mk (HB.out.trans (hb2.mono HB.out.size)); have HO2 := Aside0.mk (Kd.R_lower ho2 HB.out.size); have HI2 := Aside0.mk (PIn.below (q := zeroP) (cd := 0) (ct := 0) HI1.out hb2); clear ho2 hb2)
      | (go_at_call 50; refine (HT1.out _ _ HB2.out HI2.out HO2.out).mono ?_; rintro e w3 hp3; obtain ⟨A3, c3, rfl, hrr3, hl3⟩ := tyes_of hp3; have HB3 := Aside0.mk hl3.2.1; have HI3 := Aside0.mk (show PIn b cc kc b0 w.heap.size q1 cd (N : Int) w3 from hl3.1); have HR3 := Aside0.mk hrr3; clear hp3 hrr3 hl3))
    have hcl : w3.cell? ⟨cc, 0, none⟩ = some (.int .i64 cd) := by obtain ⟨_, _, _, _, _, h, _, _, _, _⟩ := HI3.out; exact (blk_cell h 0).trans rfl
    obtain ⟨old, hold⟩ : ∃ v, w3.cell? ⟨b, 1, none⟩ = some v := by obtain ⟨_, _, _, _, h, _, _, _, _, _⟩ := HI3.out; exact ⟨_, (blk_cell h 1).trans rfl⟩
    have hfo : w3.frozen? ⟨b, 1, none⟩ = false := by obtain ⟨_, _, _, _, h, _, _, _, _, _⟩ := HI3.out; exact blk_frozen h 1
    have HI4 := Aside0.mk (show PIn b cc kc b0 w.heap.size { q2 with names := [] } cd (N : Int) (w3.setCell ⟨b, 1, none⟩ (.int .i64 cd)) by rw [← HQ2.out]; exact PIn.set HD.out HI3.out 1 _ (fun _ _ _ _ => by rw [← HNM.out]; rfl) rfl HNM.out.symm)
    have HB4 := Aside0.mk (below_set (j := 1) (v := .int .i64 cd) HB3.out HG1.out.1)
    go_upto_region 5 with fail
    obtain ⟨W4, hW4⟩ : ∃ W, w3.setCell ⟨b, 1, none⟩ (.int .i64 cd) = W := ⟨_, rfl⟩
    rw [hW4] at HI4 HB4 ⊢
    clear hW4 hcl hold hfo
    go_wp2
    go_loopg [7, 8, 9] N (fun g s7 s8 s9 wx => ∃ (i : Nat) (ok : Bool) (li : List Int) (Ai : Option Addr) (ci : Nat) (ns : List ByteArray), i + g = N ∧ s9 = .int .i64 (i : Int) ∧ s8 = .bool ok ∧ s7 = .slice Ai li.length ci ∧ Aside0 (ns.length = i) ∧ Aside0 (li.length ≤ ci ∧ Kd.C (Kd.int .u8) w Ai li.length li ∧ li.length ≤ l.length ∧ ∀ y ∈ li, 0 ≤ y ∧ y ≤ 255) ∧ Aside0 (namesG N r1 [] = if ok = true then namesG g li ns else none) ∧ Aside0 (PIn b cc kc b0 w.heap.size { q2 with names := ns } cd (N : Int) wx) ∧ Aside0 (Below w.heap.size w wx))
    case atStart => exact ⟨0, true, r1, A3, c3, [], by omega, rfl, rfl, rfl, ⟨rfl⟩, HR3, ⟨rfl⟩, HI4, HB4⟩
    case round =>
      obtain ⟨i, ok, li, Ai, ci, ns, hig, rfl, rfl, rfl, HLN, HLI, HNS, HIi, HBi⟩ := hrel
      have H0r := Aside0.mk (show wr.heap[b0]? = some (.cells #[.int .i64 0, .int .i64 0, .int .i64 0, .int .i64 0, .int .i64 0, .slice none 0 0, .slice none 0 0] 39 (0, 0)) by obtain ⟨_, _, _, _, _, _, _, h, _, _⟩ := HIi.out; exact h)
      cases ok with
      | false =>
        have HA2 := Aside0.mk (show answeredF b cc kc l = (zeroP, 5) by rw [HA.out, HNS.out]; rfl)
        have hz0 := (blk_cell H0r.out 0).trans rfl
        have hf0 := blk_frozen H0r.out 0
        have hz1 := (blk_cell H0r.out 1).trans rfl
        have hf1 := blk_frozen H0r.out 1
        have hz2 := (blk_cell H0r.out 2).trans rfl
        have hf2 := blk_frozen H0r.out 2
        have hz3 := (blk_cell H0r.out 3).trans rfl
        have hf3 := blk_frozen H0r.out 3
        have hz4 := (blk_cell H0r.out 4).trans rfl
        have hf4 := blk_frozen H0r.out 4
        have hz5 := (blk_cell H0r.out 5).trans rfl
        have hf5 := blk_frozen H0r.out 5
        have hz6 := (blk_cell H0r.out 6).trans rfl
        have hf6 := blk_frozen H0r.out 6
        go_wp2
        try simp only [Exit.inBlock, Exit.then]
        refine bodyPost_ret (results_ct rfl _ _ b0 39 _ (0, 0) _ rfl (set_seven H0r.out) Try.underlying39 rfl (by kernel_rfl)) rfl ?_
        try rw [HA2.out]
        exact PPost.zero (below_seven HBi.out HG0.out)
      | true =>
      have hct : wr.cell? ⟨kc, 0, none⟩ = some (.int .i64 (N : Int)) := by obtain ⟨_, _, _, _, _, _, h, _, _, _⟩ := HIi.out; exact (blk_cell h 0).trans rfl
      cases gk with
      | zero =>
        obtain rfl : i = N := by omega
        have e1 : decide (((i : Nat) : Int) < ((i : Nat) : Int)) = false := decide_eq_false (by omega)
        have hA : answeredF b cc kc l = if 0 < li.length then (zeroP, 4) else if pfaultF { q2 with names := ns } ≠ 0 then (zeroP, 4) else ({ q2 with names := ns }, 0) := by
          have h := HA.out
          rw [HNS.out, if_pos rfl] at h
          exact h
        by_cases hli : 0 < li.length
        · have HA2 := Aside0.mk (hA.trans (if_pos hli))
          have d2 : decide ((0 : Int) < (li.length : Int)) = true := decide_eq_true (by omega)
          have d2n : decide (0 < li.length) = true := decide_eq_true hli
          clear hA hli
          have hz0 := (blk_cell H0r.out 0).trans rfl
          have hf0 := blk_frozen H0r.out 0
          have hz1 := (blk_cell H0r.out 1).trans rfl
          have hf1 := blk_frozen H0r.out 1
          have hz2 := (blk_cell H0r.out 2).trans rfl
          have hf2 := blk_frozen H0r.out 2
          have hz3 := (blk_cell H0r.out 3).trans rfl
          have hf3 := blk_frozen H0r.out 3
          have hz4 := (blk_cell H0r.out 4).trans rfl
          have hf4 := blk_frozen H0r.out 4
          have hz5 := (blk_cell H0r.out 5).trans rfl
          have hf5 := blk_frozen H0r.out 5
          have hz6 := (blk_cell H0r.out 6).trans rfl
          have hf6 := blk_frozen H0r.out 6
          go_wp2
          try simp only [Exit.inBlock, Exit.then]
          refine bodyPost_ret (results_ct rfl _ _ b0 39 _ (0, 0) _ rfl (set_seven H0r.out) Try.underlying39 rfl (by kernel_rfl)) rfl ?_
          try rw [HA2.out]
          exact PPost.zero (below_seven HBi.out HG0.out)
        have d2 : decide ((0 : Int) < (li.length : Int)) = false := decide_eq_false (by omega)
        have d2n : decide (0 < li.length) = false := decide_eq_false hli
        have hA3 := hA.trans (if_neg hli)
        obtain ⟨A7, c7, nA7, nc7, hq7, hcc7, hkc7, h07, hd7, hn7⟩ := HIi.out
        obtain ⟨q3, hq3⟩ : ∃ q : Rp, ({ q2 with names := ns } : Rp) = q := ⟨_, rfl⟩
        have hq3d : q3.data = q2.data := by rw [← hq3]
        have hq3n : q3.names = ns := by rw [← hq3]
        have hq2d : q2.data = q1.data := by rw [← HQ2.out]
        rw [hq3] at hq7 hd7 hn7 hA3
        obtain ⟨z, hz⟩ : ∃ z, pfaultF q3 = z := ⟨_, rfl⟩
        rw [hz] at hA3
        have hd7' := Kd.R_reads' hd7
        have hn7' := Kd.R_reads' hn7
        have HQ7 := Aside0.mk hq7
        have HD7 := Aside0.mk hd7
        have HN7 := Aside0.mk hn7
        have HFC := Aside0.mk (show ∀ W, Below wr.heap.size wr W → Calls Try.prog 53 #[.agg (q3.at A7 c7 nA7 nc7).cells] W fun e w' => e = .returned (.int .i64 z) ∧ Below W.heap.size W w' from fun W hB => by
          have h := pfault_calls (q3.at A7 c7 nA7 nc7) W (by show q3.data.length ≤ _; rw [hq3d, hq2d]; exact HDL.out) hd7'.2.1 (Kd.C_below hd7'.2.2 hB) (by show q3.names.length ≤ _; rw [hq3n, HLN.out]; have := HNL.out; omega) hn7'.2.1 (Kd.C_below hn7'.2.2 hB)
          rw [show pfaultF (q3.at A7 c7 nA7 nc7) = z from hz] at h
          exact h)
        obtain ⟨hy0, hy1, hy2, hy3, hy4, hy5, hy6⟩ := seven_cells hq7
        clear hA hli hz hq7 hcc7 hkc7 h07 hd7 hn7 hd7' hn7' hq3 hq3d hq3n hq2d
        by_cases hz : z = 0
        · have HA2 := Aside0.mk (hA3.trans (if_neg (not_not_intro hz)))
          subst hz
          clear hA3
          go_upto_region 15 with (go_at_call 53; refine (HFC.out _ (Below.refl _ _)).mono ?_; rintro e w8 ⟨rfl, hb8⟩; have HB8 := Aside0.mk (HBi.out.trans (hb8.mono HBi.out.size)); have H08 := Aside0.mk ((hb8.block _ (blk_ltn H0r.out)).trans H0r.out); have HQ8 := Aside0.mk ((hb8.block _ (blk_ltn HQ7.out)).trans HQ7.out); have HD8 := Aside0.mk (Kd.R_below HD7.out hb8); have HN8 := Aside0.mk (Kd.R_below HN7.out hb8); clear hb8)
          clear hy0 hy1 hy2 hy3 hy4 hy5 hy6
          obtain ⟨hy0, hy1, hy2, hy3, hy4, hy5, hy6⟩ := seven_cells HQ8.out
          have hz0 := (blk_cell H08.out 0).trans rfl
          have hf0 := blk_frozen H08.out 0
          have hz1 := (blk_cell H08.out 1).trans rfl
          have hf1 := blk_frozen H08.out 1
          have hz2 := (blk_cell H08.out 2).trans rfl
          have hf2 := blk_frozen H08.out 2
          have hz3 := (blk_cell H08.out 3).trans rfl
          have hf3 := blk_frozen H08.out 3
          have hz4 := (blk_cell H08.out 4).trans rfl
          have hf4 := blk_frozen H08.out 4
          have hz5 := (blk_cell H08.out 5).trans rfl
          have hf5 := blk_frozen H08.out 5
          have hz6 := (blk_cell H08.out 6).trans rfl
          have hf6 := blk_frozen H08.out 6
          go_wp2
          try simp only [Exit.inBlock, Exit.then]
          refine bodyPost_ret (results_ct rfl _ _ b0 39 _ (0, 0) _ rfl (set_seven H08.out) Try.underlying39 rfl (by kernel_rfl)) rfl ?_
          rw [HA2.out]
          exact .mk A7 c7 nA7 nc7 rfl (Kd.R_reads' HD8.out).2.1 (Kd.R_reads' (R_seven (Kd.R_types HD8.out H08.out (u8_not (by decide))) (fun k hk => hk.2))).2.2 (Kd.R_reads' HN8.out).2.1 (Kd.R_reads' (R_seven (Kd.R_types HN8.out H08.out (str_not (by decide))) (fun k hk => hk.2))).2.2 (below_seven HB8.out HG0.out)
        · have HA2 := Aside0.mk (hA3.trans (if_pos hz))
          have ez : (z != 0) = true := bne_iff_ne.2 hz
          have ez2 : (z == 0) = false := beq_eq_false_iff_ne.2 hz
          clear hA3 hz
          go_wp2_with (go_at_call 53; refine (HFC.out _ (Below.refl _ _)).mono ?_; rintro e w8 ⟨rfl, hb8⟩; have HB8 := Aside0.mk (HBi.out.trans (hb8.mono HBi.out.size)); have H08 := Aside0.mk ((hb8.block _ (blk_ltn H0r.out)).trans H0r.out); have hz0 := (blk_cell H08.out 0).trans rfl; have hf0 := blk_frozen H08.out 0; have hz1 := (blk_cell H08.out 1).trans rfl; have hf1 := blk_frozen H08.out 1; have hz2 := (blk_cell H08.out 2).trans rfl; have hf2 := blk_frozen H08.out 2; have hz3 := (blk_cell H08.out 3).trans rfl; have hf3 := blk_frozen H08.out 3; have hz4 := (blk_cell H08.out 4).trans rfl; have hf4 := blk_frozen H08.out 4; have hz5 := (blk_cell H08.out 5).trans rfl; have hf5 := blk_frozen H08.out 5; have hz6 := (blk_cell H08.out 6).trans rfl; have hf6 := blk_frozen H08.out 6; clear hb8)
          try simp only [Exit.inBlock, Exit.then]
          refine bodyPost_ret (results_ct rfl _ _ b0 39 _ (0, 0) _ rfl (set_seven H08.out) Try.underlying39 rfl (by kernel_rfl)) rfl ?_
          try rw [HA2.out]
          exact PPost.zero (below_seven HB8.out HG0.out)
      | succ g =>
        have hi : i < N := by omega
        have e1 : decide ((i : Int) < (N : Int)) = true := decide_eq_true (by omega)
        have e1n : decide (i < N) = true := decide_eq_true hi
        have hw4 : wrap64 ((i : Int) + 1) = ((i + 1 : Nat) : Int) := by have := HNL.out; unfold wrap64; omega
        have HIG := Aside0.mk (show i + 1 + g = N by omega)
        have hn0 := heap_alloc_new wr (.cells #[.string ⟨#[]⟩] 9)
        have hB0 := (Below.refl _ wr).alloc (Nat.le_refl _) (.cells #[.string ⟨#[]⟩] 9)
        obtain ⟨W5, hW5⟩ : ∃ W, wr.alloc (.cells #[.string ⟨#[]⟩] 9) = W := ⟨_, rfl⟩
        obtain ⟨bs, hbs⟩ : ∃ k, wr.heap.size = k := ⟨_, rfl⟩
        rw [hW5] at hn0 hB0
        have HBW := Aside0.mk hB0
        have HBS := Aside0.mk (show wr.heap.size ≤ bs by omega)
        rw [hbs] at hn0
        have HX5 := Aside0.mk hn0
        have HGET := Aside0.mk (fun (W : World) (hB : Below W5.heap.size W5 W) => get_calls (.text ⟨bs, 0, none⟩ ⟨#[]⟩) trivial bs 0 rfl #[.string ⟨#[]⟩] 9 Ai ci li w W (HBi.out.trans ((HBW.out.trans (hB.mono HBW.out.size)).mono HBi.out.size)) HLI.out.2.1 HLI.out.1 HLI.out.2.2.2 (Nat.le_trans HLI.out.2.2.1 HL.out) ((hB.block _ (blk_ltn HX5.out)).trans HX5.out) (by decide))
        clear hn0 hB0 hi hig
        go_upto_region 9 with fail
        (try rw [hW5])
        (try rw [hbs])
        clear hW5 hbs hct e1 e1n
        go_upto_region 10 with (first
          | (go_at_call 55; refine (text_calls bs 0 ⟨#[]⟩ _).mono ?_; rintro e w6 ⟨rfl, hb6⟩; have HB6 := Aside0.mk hb6; clear hb6)
          | (go_at_call 57; refine (HGET.out _ HB6.out).mono ?_; rintro e w7 hp7; obtain ⟨ok7, t7, r7, A7, c7, rfl, hgot, hb7⟩ := got_of hp7 ((HB6.out.block _ (blk_ltn HX5.out)).trans HX5.out) HLI.out.2.2.2 HLI.out.2.2.1; have HGOT := Aside0.mk hgot; have HB7 := Aside0.mk (hb7 wr (HBW.out.trans (HB6.out.mono HBW.out.size)) HBS.out); clear hp7 hgot hb7))
        have HI7 := Aside0.mk (PIn.below (q := { q2 with names := ns }) (cd := cd) (ct := (N : Int)) HIi.out HB7.out)
        obtain ⟨A8, c8, nA8, nc8, h8⟩ := PStep.of HI7.out
        have HI8 := Aside0.mk h8
        have HB8 := Aside0.mk (HBi.out.trans (HB7.out.mono HBi.out.size))
        have hns8 : w7.cell? ⟨b, 6, none⟩ = some (.slice nA8 ns.length nc8) := (blk_cell h8.hq 6).trans rfl
        have hbx8 : w7.cell? ⟨bs, 0, none⟩ = some (.string t7) := by obtain ⟨_, _, _, _, _, hx⟩ := HGOT.out; exact (blk_cell hx 0).trans rfl
        have HNS2 := Aside0.mk (show namesG N r1 [] = if ok7 = true then namesG g r7 (ns ++ [t7]) else none by
          obtain ⟨hg7, _, _, _, _, _⟩ := HGOT.out
          have h9 : namesG N r1 [] = namesG (g + 1) li ns := HNS.out
          rw [h9]
          show (match getG (.text ⟨0, 0, none⟩ ⟨#[]⟩) li with | some (.text s, r) => namesG g r (ns ++ [s]) | _ => none) = _
          rw [hg7]
          cases ok7 <;> rfl)
        have HLI2 := Aside0.mk (show r7.length ≤ c7 ∧ Kd.C (Kd.int .u8) w A7 r7.length r7 ∧ r7.length ≤ l.length ∧ ∀ y ∈ r7, 0 ≤ y ∧ y ≤ 255 by obtain ⟨_, h1, h2, h3, h4, _⟩ := HGOT.out; exact ⟨h1, h2, h4, h3⟩)
        have HLN2 := Aside0.mk (show (ns ++ [t7]).length = i + 1 by rw [List.length_append, HLN.out]; rfl)
        clear h8
        go_wp2_with (first | ((with_reducible refine gate_dst (N := 36) rfl ?_); refine Kd.R_lit Kd.string (w0 := w) w.heap.size 9 ?hg (N := 36) ?hd (xs := ([t7] : List ByteArray)) (inner := [.string t7]) (ok := fun _ => True) (okp := fun _ => True) ?hr ?hp (fun _ hk => hk) trivial HB8.out HB8.out.size (by simp) ?_; (case hd => rfl); (case hg => rfl); (case hr => first | (go_simp; done) | (go_simp; rfl)); (case hp => exact Reps.one (show Kd.M Kd.string _ _ _ t7 [.string t7] from rfl) (Reps.none _ _)); intro v9 w9 ho9 hb9 hg9 hnew9; have HI9 := Aside0.mk (PStep.grown HI8.out hg9); obtain ⟨Ao9, co9, eo9⟩ := Kd.R_slice ho9; subst eo9; have HL9 := Aside0.mk (Kd.R_reads' ho9).2.2; have HB9 := Aside0.mk hb9; clear ho9 hb9 hg9 hnew9) | ((with_reducible refine gate_builtin (b := .append) (xs := #[.tmp 34, .tmp 36]) rfl ?_); at_builtin; refine Kd.R_append_rows Kd.string (w0 := w) w.heap.size rfl (.tmp 34) (.tmp 36) 22 9 (.string ⟨#[]⟩) 16 rfl Try.underlying22 info9a rfl (by decide) (by decide) (.slice nA8 ns.length nc8) ns [t7] _ _ _ (fun _ => True) (fun _ => False) rfl rfl HI9.out.hn HL9.out (fun _ _ h => h) (fun _ hk => hk.elim) (fun _ _ => trivial) HB9.out HB9.out.size (by have := HLN.out; have := HNL.out; have := HIG.out; show (ns.length + 1) * 16 ≤ _; omega) ?_; intro v10 w10 ho10 hb10 hg10 hat10; obtain ⟨nA10, nc10, e10⟩ := Kd.R_slice ho10; subst e10; have HP10 := Aside0.mk (PStep.names HD.out HI9.out hg10 ho10); have HB10 := Aside0.mk hb10; obtain ⟨⟨u10_, hu10⟩, hf10⟩ := PStep.slot HI9.out hg10; clear ho10 hb10 hg10 hat10))
        have HP11 := Aside0.mk (show PIn b cc kc b0 w.heap.size { q2 with names := ns ++ [t7] } cd (N : Int) (w10.setCell ⟨b, 6, none⟩ (.slice nA10 (ns.length + 1) nc10)) by have h := HP10.out; rw [List.length_append] at h; exact h)
        go_roundg g
        case measure => omega
        case rel => exact ⟨i + 1, ok7, r7, A7, c7, ns ++ [t7], by have := HIG.out; omega, (by first | rfl | (rw [hw4])), rfl, rfl, HLN2, HLI2, HNS2, HP11, ⟨below_set HB10.out HG1.out.1⟩⟩
end Go.Proofs.Ytkghoodhgihokaa.Msg
namespace Go.Proofs.Ytkghoodhgihokaa.Msg
open Go.RowKit Go.Lib Go.Proofs.YtkghoodhgihokaaW.PrintWords Go.Proofs.YtkghoodhgihokaaW.PrintLast Go.Proofs.YtkghoodhgihokaaW.PrintMore
set_option linter.unusedVariables false
set_option linter.unusedSimpArgs false
/-- What is read of a number, of bytes. -/
theorem updP_b {b cc kc : Nat} (h1 : b ≠ cc) (h2 : b ≠ kc) (s : Rp × Int × Int) (o : Nat) (wd : Nat) (n : Int) (m : Nat) : updP cc kc s (.num wd ⟨b, o, none⟩ n) (.num m) = (if o = 0 then ({ s.1 with mark := m }, s.2) else if o = 2 then ({ s.1 with handle := m }, s.2) else if o = 3 then ({ s.1 with kind := m }, s.2) else ({ s.1 with size := m }, s.2)) := by
  show (if b = cc then _ else if b = kc then _ else _) = _
  rw [if_neg h1, if_neg h2]
  rfl
theorem updP_c {cc kc : Nat} (s : Rp × Int × Int) (n : Int) (m : Nat) : updP cc kc s (.num 1 ⟨cc, 0, none⟩ n) (.num m) = (s.1, (m : Int), s.2.2) := by
  show (if cc = cc then _ else _) = _
  rw [if_pos rfl]
theorem updP_k {cc kc : Nat} (h : cc ≠ kc) (s : Rp × Int × Int) (n : Int) (m : Nat) : updP cc kc s (.num 1 ⟨kc, 0, none⟩ n) (.num m) = (s.1, s.2.1, (m : Int)) := by
  show (if kc = cc then _ else if kc = kc then _ else _) = _
  rw [if_neg h.symm, if_pos rfl]
/-- The head of a reply, read. -/
def headF (l : List Int) : Option ((Rp × Int × Int) × List Int) :=
  (getG (.num 4 ⟨0, 0, none⟩ 0) l).bind fun x1 => (getG (.num 1 ⟨0, 0, none⟩ 0) x1.2).bind fun x2 => (getG (.num 4 ⟨0, 0, none⟩ 0) x2.2).bind fun x3 => (getG (.num 1 ⟨0, 0, none⟩ 0) x3.2).bind fun x4 => (getG (.num 4 ⟨0, 0, none⟩ 0) x4.2).bind fun x5 => (getG (.data ⟨0, 0, none⟩ none [] 0) x5.2).bind fun x6 => (getG (.num 1 ⟨0, 0, none⟩ 0) x6.2).bind fun x7 =>
    match x1.1, x2.1, x3.1, x4.1, x5.1, x6.1, x7.1 with
    | .num m, .num c, .num h, .num k, .num s, .data d, .num n => some ((⟨m, 0, h, k, s, none, d, 0, none, [], 0⟩, (c : Int), (n : Int)), x7.2)
    | _, _, _, _, _, _, _ => none
theorem take_step {σ : Type} {upd : σ → Pv → GV → σ} {p : Pv} {t : List Pv} {s : σ} {l : List Int} : takeG upd (p :: t) s l = (getG p l).bind fun x => takeG upd t (upd s p x.1) x.2 := by
  cases h : getG p l with
  | none => rw [takeG_no h]; rfl
  | some xr => obtain ⟨x, r⟩ := xr; rw [takeG_yes h]; rfl
theorem bind_congr' {α β : Type} {o o' : Option α} {f g : α → Option β} (ho : o = o') (h : ∀ a, o = some a → f a = g a) : o.bind f = o'.bind g := by
  subst ho
  cases o with
  | none => rfl
  | some a => exact h a rfl
theorem head_is {b cc kc : Nat} (h1 : b ≠ cc) (h2 : b ≠ kc) (h3 : cc ≠ kc) (l : List Int) : takeG (updP cc kc) (repV b cc kc zeroP 0) (zeroP, 0, 0) l = headF l := by
  unfold headF repV
  rw [take_step]
  refine bind_congr' rfl fun x1 e1 => ?_
  obtain ⟨x1, r1⟩ := x1
  obtain ⟨_, _, n1, rfl⟩ := getG_part e1
  dsimp only
  rw [updP_b h1 h2, take_step]
  refine bind_congr' rfl fun x2 e2 => ?_
  obtain ⟨x2, r2⟩ := x2
  obtain ⟨_, _, n2, rfl⟩ := getG_part e2
  dsimp only
  rw [updP_c, take_step]
  refine bind_congr' rfl fun x3 e3 => ?_
  obtain ⟨x3, r3⟩ := x3
  obtain ⟨_, _, n3, rfl⟩ := getG_part e3
  dsimp only
  rw [updP_b h1 h2, take_step]
  refine bind_congr' rfl fun x4 e4 => ?_
  obtain ⟨x4, r4⟩ := x4
  obtain ⟨_, _, n4, rfl⟩ := getG_part e4
  dsimp only
  rw [updP_b h1 h2, take_step]
  refine bind_congr' rfl fun x5 e5 => ?_
  obtain ⟨x5, r5⟩ := x5
  obtain ⟨_, _, n5, rfl⟩ := getG_part e5
  dsimp only
  rw [updP_b h1 h2, take_step]
  refine bind_congr' rfl fun x6 e6 => ?_
  obtain ⟨x6, r6⟩ := x6
  obtain ⟨_, _, d6, rfl⟩ := getG_part e6
  dsimp only
  rw [take_step]
  refine bind_congr' rfl fun x7 e7 => ?_
  obtain ⟨x7, r7⟩ := x7
  obtain ⟨_, _, n7, rfl⟩ := getG_part e7
  dsimp only
  rw [updP_k h3]
  rfl
theorem answered_is {b cc kc : Nat} (h1 : b ≠ cc) (h2 : b ≠ kc) (h3 : cc ≠ kc) (l : List Int) : answeredF b cc kc l = match headF l with
  | none => (zeroP, 5)
  | some (s, r) => match namesG s.2.2.toNat r [] with
    | none => (zeroP, 5)
    | some (ns, r2) => if 0 < r2.length then (zeroP, 4) else if pfaultF { s.1 with code := s.2.1, names := ns } ≠ 0 then (zeroP, 4) else ({ s.1 with code := s.2.1, names := ns }, 0) := by
  unfold answeredF
  rw [head_is h1 h2 h3]
  try rfl
theorem answered_b (b cc kc : Nat) (h1 : b ≠ cc) (h2 : b ≠ kc) (h3 : cc ≠ kc) (l : List Int) : answeredF b cc kc l = answeredF 0 1 2 l := by
  rw [answered_is h1 h2 h3, answered_is (by decide) (by decide) (by decide)]
end Go.Proofs.Ytkghoodhgihokaa.Msg
