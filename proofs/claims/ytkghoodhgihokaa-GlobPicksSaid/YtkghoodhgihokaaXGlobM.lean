/- Patterns of names: packthreadref.globOf. -/
import Derived.Test.YtkghoodhgihokaaXGlobL
namespace Go.Proofs.Ytkghoodhgihokaa.Glob
open Go.RowKit Go.Lib Go.Proofs.YtkghoodhgihokaaW.PrintWords Go.Proofs.YtkghoodhgihokaaW.PrintLast Go.Proofs.YtkghoodhgihokaaW.PrintMore
set_option linter.unusedVariables false
set_option linter.unusedSimpArgs false
/-- A row of bools. -/
@[irreducible] def rowB (f : Nat → Bool) (n : Nat) : Array Value := Array.ofFn (n := n) fun i => .bool (f i.val)
theorem rowB_size (f : Nat → Bool) (n : Nat) : (rowB f n).size = n := by unfold rowB; simp
theorem rowB_at (f : Nat → Bool) (n k : Nat) (h : k < n) : (rowB f n)[k]? = some (.bool (f k)) := by unfold rowB; simp [h]
theorem rowB_congr {f g : Nat → Bool} {n : Nat} (h : ∀ k, k < n → f k = g k) : rowB f n = rowB g n := by
  apply Array.ext_getElem?
  intro i
  by_cases hi : i < n
  · rw [rowB_at _ _ _ hi, rowB_at _ _ _ hi, h i hi]
  · rw [Array.getElem?_eq_none (by rw [rowB_size]; omega), Array.getElem?_eq_none (by rw [rowB_size]; omega)]
theorem rowB_set (f : Nat → Bool) (n k : Nat) (b : Bool) : (rowB f n).setIfInBounds k (.bool b) = rowB (fun j => if j = k then b else f j) n := by
  apply Array.ext_getElem?
  intro i
  rw [Array.getElem?_setIfInBounds, rowB_size]
  by_cases hi : i < n
  · rw [rowB_at _ _ _ hi]
    by_cases hk : k = i
    · subst hk; rw [if_pos rfl, if_pos hi, rowB_at _ _ _ hi, if_pos rfl]
    · rw [if_neg hk, rowB_at _ _ _ hi, if_neg (fun e => hk e.symm)]
  · rw [Array.getElem?_eq_none (by rw [rowB_size]; omega), Array.getElem?_eq_none (by rw [rowB_size]; omega)]
    by_cases hk : k = i
    · rw [if_pos hk, if_neg (by omega)]
    · rw [if_neg hk]
theorem rowB_made (n : Nat) : madeCells #[.bool false] n = rowB (fun _ => false) n := by
  apply Array.ext_getElem?
  intro i
  by_cases hi : i < n
  · rw [rowB_at _ _ _ hi]
    simp [madeCells, hi, Nat.mod_one]
  · rw [Array.getElem?_eq_none (by simp [madeCells]; omega), Array.getElem?_eq_none (by rw [rowB_size]; omega)]
theorem info4 : (Try.prog.info? 4).map (fun i => (i.zero, i.size, i.bytes)) = some (some (.bool false), 1, 1) := by kernel_rfl
theorem run_makeB (x : Int) (n : Nat) (hx : x = (n : Int)) (hn : n ≤ 100000) : ∀ W : World, (Instr.makeSlice 142 (.int .i64 x) (.int .i64 x)).run Try.prog W = .ok (.slice (some ⟨W.heap.size, 0, none⟩) n n) (W.alloc (.cells (rowB (fun _ => false) n) 4)) := by
  intro W
  subst hx
  have h := print_make_int (P := Try.prog) 142 4 (.bool false) 1 Try.underlying142 info4 rfl (by decide) (n : Int) (by omega) (by rw [Int.toNat_natCast]; omega) W
  rw [Int.toNat_natCast, rowB_made] at h
  exact h
/-- What the reference's table keeps: the row that was, the item, the row that is made. -/
structure OJ (w wx : World) (b5 b7 b8 n : Nat) (now next : Nat → Bool) (C : Array Value) : Prop where
  h5 : wx.heap[b5]? = some (.cells (rowB now n) 4 (0, 0))
  h7 : wx.heap[b7]? = some (.cells C 140 (0, 0))
  h8 : wx.heap[b8]? = some (.cells (rowB next n) 4 (0, 0))
  l7 : b5 < b7
  l8 : b7 < b8
  l5 : w.heap.size ≤ b5
  b : Below w.heap.size w wx
section
variable {w wx w1 : World} {b5 b7 b8 n : Nat} {now next : Nat → Bool} {C : Array Value}
theorem OJ.below (h : OJ w wx b5 b7 b8 n now next C) (hb : Below wx.heap.size wx w1) : OJ w w1 b5 b7 b8 n now next C :=
  have l8 := (Array.getElem?_eq_some_iff.1 h.h8).1
  have a := h.l7
  have b := h.l8
  ⟨(hb.block _ (by omega)).trans h.h5, (hb.block _ (by omega)).trans h.h7, (hb.block _ l8).trans h.h8, h.l7, h.l8, h.l5, h.b.trans (hb.mono h.b.size)⟩
theorem OJ.set (h : OJ w wx b5 b7 b8 n now next C) (k : Nat) (b : Bool) : OJ w (wx.setCell ⟨b8, k, none⟩ (.bool b)) b5 b7 b8 n now (fun j => if j = k then b else next j) C := by
  have a := h.l7
  have c := h.l8
  have d := h.l5
  have hb : Below w.heap.size w (wx.setCell ⟨b8, k, none⟩ (.bool b)) := h.b.setCell (p := ⟨b8, k, none⟩) (by show w.heap.size ≤ b8; omega) _
  exact ⟨(heap_setCell_other wx _ _ _ (by simp; omega)).trans h.h5, (heap_setCell_other wx _ _ _ (by simp; omega)).trans h.h7, by rw [heap_setCell_same wx _ _ _ _ _ h.h8, rowB_set], h.l7, h.l8, h.l5, hb⟩
theorem OJ.c5 (h : OJ w wx b5 b7 b8 n now next C) {k : Nat} (hk : k < n) : wx.cell? ⟨b5, k, none⟩ = some (.bool (now k)) := by
  rw [cell_of_row wx _ _ _ _ _ h.h5]; exact rowB_at _ _ _ hk
theorem OJ.c8 (h : OJ w wx b5 b7 b8 n now next C) {k : Nat} (hk : k < n) : wx.cell? ⟨b8, k, none⟩ = some (.bool (next k)) := by
  rw [cell_of_row wx _ _ _ _ _ h.h8]; exact rowB_at _ _ _ hk
theorem OJ.f8 (h : OJ w wx b5 b7 b8 n now next C) (k : Nat) : wx.frozen? ⟨b8, k, none⟩ = false := frozen_of_row wx _ _ _ _ h.h8
theorem OJ.congr {next' : Nat → Bool} (h : OJ w wx b5 b7 b8 n now next C) (hc : ∀ k, k < n → next k = next' k) : OJ w wx b5 b7 b8 n now next' C := ⟨h.h5, h.h7, by rw [h.h8, rowB_congr hc], h.l7, h.l8, h.l5, h.b⟩
end
section
variable {w wx w1 : World} {b5 b7 b8 n : Nat} {now next : Nat → Bool} {C : Array Value}
theorem OJ.c7 (h : OJ w wx b5 b7 b8 n now next C) (j : Nat) (v : Value) (hj : C[j]? = some v) : wx.cell? ⟨b7, j, none⟩ = some v := by
  rw [cell_of_row wx _ _ _ _ _ h.h7]; exact hj
theorem OJ.now5 (h : OJ w wx b5 b7 b8 n now next C) {k : Nat} {b : Bool} (hk : k < n) (hb : now k = b) : wx.cell? ⟨b5, k, none⟩ = some (.bool b) := by rw [← hb]; exact h.c5 hk
/-- .. with the row that is made still to come. -/
theorem OJ.new (h5 : wx.heap[b5]? = some (.cells (rowB now n) 4 (0, 0))) (l5 : w.heap.size ≤ b5) (hb : Below w.heap.size w wx) (C : Array Value) : ((wx.alloc (.cells C 140)).heap[b5]? = some (.cells (rowB now n) 4 (0, 0)) ∧ (wx.alloc (.cells C 140)).heap[wx.heap.size]? = some (.cells C 140 (0, 0)) ∧ b5 < wx.heap.size ∧ wx.heap.size < (wx.alloc (.cells C 140)).heap.size ∧ w.heap.size ≤ b5 ∧ Below w.heap.size w (wx.alloc (.cells C 140))) := by
  have lt := (Array.getElem?_eq_some_iff.1 h5).1
  have hb2 := (Below.refl wx.heap.size wx).alloc (Nat.le_refl _) (.cells C 140)
  exact ⟨(hb2.block _ lt).trans h5, heap_alloc_new wx _, lt, by simp, l5, hb.trans (hb2.mono hb.size)⟩
theorem OJ.new2 (h : wx.heap[b5]? = some (.cells (rowB now n) 4 (0, 0)) ∧ wx.heap[b7]? = some (.cells C 140 (0, 0)) ∧ b5 < b7 ∧ b7 < wx.heap.size ∧ w.heap.size ≤ b5 ∧ Below w.heap.size w wx) (next : Nat → Bool) : OJ w (wx.alloc (.cells (rowB next n) 4)) b5 b7 wx.heap.size n now next C := by
  obtain ⟨h5, h7, l7, l8, l5, hb⟩ := h
  have hb2 := (Below.refl wx.heap.size wx).alloc (Nat.le_refl _) (.cells (rowB next n) 4)
  exact ⟨(hb2.block _ (by omega)).trans h5, (hb2.block _ l8).trans h7, heap_alloc_new wx _, l7, l8, l5, hb.trans (hb2.mono hb.size)⟩
/-- The next place of the row that is made. -/
theorem OJ.nxt {f : Nat → Bool} {k : Nat} {b : Bool} (h : OJ w wx b5 b7 b8 n now (fun j => if j < k then f j else false) C) (hk : k < n) (hb : b = f k) : OJ w (wx.setCell ⟨b8, k, none⟩ (.bool b)) b5 b7 b8 n now (fun j => if j < k + 1 then f j else false) C :=
  (h.set k b).congr fun j _ => by
    by_cases h1 : j = k
    · subst h1; rw [if_pos rfl, if_pos (by omega), hb]
    · rw [if_neg h1]
      by_cases h2 : j < k
      · rw [if_pos h2, if_pos (by omega)]
      · rw [if_neg h2, if_neg (by omega)]
end
theorem kitem_at {w : World} {g n c : Nat} {its : List It} {base : Nat} {ok : Nat → Prop} (h : kitem.R 140 w base ok (.slice (some ⟨g, 0, none⟩) n c) its) {i : Nat} (hi : i < its.length) :
    ∃ v, w.rangeAt g (i * 4) [.int .u8 (its[i].1 : Int), .int .u8 (its[i].2.1 : Int), v, .bool its[i].2.2.2] ∧ krg.R 141 w base (fun k => ok k ∧ k ≠ g) v its[i].2.2.1 := by
  have hn := (Kd.R_reads' h).1
  obtain ⟨cs, hl, hM, hcs, _⟩ := Kd.R_elem h (0, 0, [], false) (i : Int) (by omega) (by omega)
  have e : its.getD (i : Int).toNat (0, 0, [], false) = its[i] := by
    rw [show (i : Int).toNat = i by omega]
    simp [hi]
  rw [e] at hM
  obtain ⟨c0, t0, rfl, h0, c1, t1, rfl, h1, c2, c3, rfl, ⟨v, rfl, hr⟩, h3⟩ := hM
  have h0' : c0 = [.int .u8 (its[i].1 : Int)] := h0
  have h1' : c1 = [.int .u8 (its[i].2.1 : Int)] := h1
  have h3' : c3 = [.bool its[i].2.2.2] := h3
  subst h0'
  subst h1'
  subst h3'
  refine ⟨v, fun j u hj => ?_, hr⟩
  have := hcs j u hj
  rw [show (i : Int).toNat = i by omega] at this
  exact this
--- WALK
def globOf12.T12 : Bool × List (List Nat × List Nat) := (true, [([], []), ([], []), ([], []), ([2], [2]), ([3], [3]), ([4], [4]), ([4], [4]), ([6, 4], [4, 6]), ([5, 7, 4], [4, 5, 7]), ([8, 4], [4, 8]), ([4, 9], [4, 9]), ([10, 4], [10]), ([11], [11]), ([11], [11]), ([11], [11]), ([14, 11], [11, 14]), ([13, 15, 11], [11, 13, 15]), ([12, 16, 11, 11], [11, 12, 16]), ([11, 17], [11, 17]), ([0, 1, 0, 1, 2, 3, 4, 5, 6, 7, 8, 9, 10, 11, 12, 13, 14, 15, 16, 17, 18], [0, 1]), ([19, 18, 17, 0, 1, 2, 3, 4, 5, 6, 7, 8, 9, 10, 11, 12, 13, 14, 15, 16, 17, 18], [18, 19])])
def globOf12.B12 : List Nat := [0, 0, 0, 4, 12, 28, 28, 92, 252, 508, 1020, 2044, 4092, 4092, 4092, 20476, 61436, 131068, 262140, 524287, 1048575]
theorem globOf12.tab12 : rtab .any (opsOf Try.f61 12) = globOf12.T12 := by kernel_rfl
theorem globOf12.bits12 : waitsOk globOf12.T12.2 globOf12.B12 = true := by kernel_rfl
set_option maxHeartbeats 8000000 in
set_option maxRecDepth 100000 in
theorem globOf_calls (its : List It) (s : List UInt8) (v : Value) (w : World) (base : Nat) (ok : Nat → Prop) (hR : kitem.R 140 w base ok v its) (hl : its.length ≤ 1000) (hs : s.length ≤ 1000) (hrr : ∀ it ∈ its, it.2.2.1.length ≤ 1000) :
    Calls Try.prog 61 #[v, .string (bs s)] w fun e w' => e = .returned (.bool (gB (its.map toPt) s)) ∧ Below w.heap.size w w' := by
  have HR := Aside0.mk hR
  clear hR
  obtain ⟨A, cp, hA⟩ := Kd.R_slice HR.out
  subst hA
  obtain ⟨RR, hRR⟩ : ∃ r, gB (its.map toPt) s = r := ⟨_, rfl⟩
  rw [hRR]
  have HRR := Aside0.mk hRR
  clear hRR
  have hbz := bs_size s
  obtain ⟨n, hn⟩ : ∃ n, s.length + 1 = n := ⟨_, rfl⟩
  have hmk := run_makeB ((s.length : Int) + 1) n (by omega) (by omega)
  have hn1 : (0 : Int) < (n : Int) := by omega
  have hn2 : 0 < n := by omega
  have hcell0 : (rowB (fun _ => false) n)[0]? = some (.bool false) := rowB_at _ _ _ hn2
  have hset0 : (rowB (fun _ => false) n).setIfInBounds 0 (.bool true) = rowB (fun k => gB ((its.take 0).map toPt) (s.take k)) n := by
    rw [rowB_set]
    apply rowB_congr
    intro k hk
    rw [List.take_zero, List.map_nil, tab_nil s k (by omega)]
    by_cases h : k = 0 <;> simp [h]
  obtain ⟨C0, hC0⟩ : ∃ C, rowB (fun k => gB ((its.take 0).map toPt) (s.take k)) n = C := ⟨_, rfl⟩
  rw [hC0] at hset0
  go_enter Try.func61, Try.ntmps61
  go_wp2
  go_loopg [5, 18] its.length (fun g s5 s18 wx => ∃ i b5 : Nat, i + g = its.length ∧ s18 = .int .i64 (i : Int) ∧ s5 = .slice (some ⟨b5, 0, none⟩) n n ∧ Aside0 (wx.heap[b5]? = some (.cells (rowB (fun k => gB ((its.take i).map toPt) (s.take k)) n) 4 (0, 0)) ∧ w.heap.size ≤ b5 ∧ Below w.heap.size w wx))
  case atStart => exact ⟨0, _, by omega, rfl, rfl, ⟨by rw [hC0]; exact heap_alloc_new w _, Nat.le_refl _, (Below.refl _ _).alloc (Nat.le_refl _) _⟩⟩
  case round =>
    obtain ⟨i, b5, hig, rfl, rfl, HM⟩ := hrel
    cases gk with
    | zero =>
      obtain rfl : i = its.length := by omega
      have d1 : decide (((its.length : Nat) : Int) < ((its.length : Nat) : Int)) = false := decide_eq_false (by omega)
      have k1 : (s.length : Int) < (n : Int) := by omega
      have k1n : s.length < n := by omega
      have hc5 : wr.cell? ⟨b5, s.length, none⟩ = some (.bool RR) := by
        rw [cell_of_row wr _ _ _ _ _ HM.out.1]
        refine (rowB_at _ _ _ k1n).trans ?_
        rw [List.take_length, List.take_length, HRR.out]
      go_wp2
      go_ret
      exact ⟨rfl, HM.out.2.2⟩
    | succ g =>
      have hi : i < its.length := by omega
      have d1 : decide ((i : Int) < ((its.length : Nat) : Int)) = true := decide_eq_true (by omega)
      have d1n : decide (i < its.length) = true := decide_eq_true hi
      have i0 : (0 : Int) ≤ (i : Int) := by omega
      have i1 : (i : Int) < (its.length : Int) := by omega
      obtain ⟨g0, cap, hv, _, _, _⟩ := Kd.R_form HR.out (by omega)
      injection hv with hv1 hv2 hv3
      subst hv1
      subst hv3
      obtain ⟨v, hrg, hrs0⟩ := kitem_at HR.out hi
      have HRS := Aside0.mk hrs0
      obtain ⟨v', hrg', hrs'⟩ := kitem_at (Kd.R_below HR.out HM.out.2.2) hi
      have hvv : v' = v := by
        have h1 := hrg 2 v rfl
        have h2 := hrg' 2 v' rfl
        have h3 := HM.out.2.2.cell (p := ⟨g0, i * 4 + 2, none⟩) (World.block_lt_of_cell? w _ h1)
        rw [h3, h1] at h2
        injection h2 with h2
        exact h2.symm
      subst hvv
      clear hrs' hrg hrs0
      have hrs := hrr its[i] (List.getElem_mem hi)
      have htk0 : (its.take (i + 1)).map toPt = (its.take i).map toPt ++ [toPt its[i]] := by rw [List.take_succ_eq_append_getElem hi, List.map_append]; rfl
      have htk1 : ∀ b, (toPt its[i]).2 b = takesI its[i] b := fun _ => rfl
      have htk2 : (toPt its[i]).1 = (its[i].1 == 42) := rfl
      obtain ⟨it, hit⟩ : ∃ it, its[i] = it := ⟨_, rfl⟩
      rw [hit] at hrg' HRS hrs htk0 htk1 htk2
      obtain ⟨kd, o, rs, nt⟩ := it
      dsimp only at hrg' HRS hrs
      obtain ⟨ps, hps⟩ : ∃ ps, (its.take i).map toPt = ps := ⟨_, rfl⟩
      rw [hps] at htk0 HM
      obtain ⟨p, hp⟩ : ∃ p, toPt (kd, o, rs, nt) = p := ⟨_, rfl⟩
      rw [hp] at htk0 htk1 htk2
      dsimp only at htk2
      have HT := Aside0.mk htk0
      clear htk0 hit hps hp
      obtain ⟨A2, c2, hv2⟩ := Kd.R_slice HRS.out
      subst hv2
      go_upto_region 6 with (first | (refine wpList_load_mid rfl 140 (.tmp 20) rfl g0 (i * 4) ?hx140 _ _ hrg' Try.underlying140 rfl (by kernel_rfl) ?_))
      obtain ⟨W1, hW1⟩ : ∃ W, wr.alloc (.cells #[.int .u8 (kd : Int), .int .u8 (o : Int), .slice A2 rs.length c2, .bool nt] 140) = W := ⟨_, rfl⟩
      obtain ⟨b7, hb7⟩ : ∃ b, wr.heap.size = b := ⟨_, rfl⟩
      have HN := Aside0.mk (OJ.new HM.out.1 HM.out.2.1 HM.out.2.2 #[.int .u8 (kd : Int), .int .u8 (o : Int), .slice A2 rs.length c2, .bool nt])
      rw [hW1, hb7] at HN
      rw [hW1, hb7]
      clear hW1 hb7 HM hrg'
      go_upto_region 7 with fail
      obtain ⟨W2, hW2⟩ : ∃ W, W1.alloc (.cells (rowB (fun _ => false) n) 4) = W := ⟨_, rfl⟩
      obtain ⟨b8, hb8⟩ : ∃ b, W1.heap.size = b := ⟨_, rfl⟩
      have HO := Aside0.mk (OJ.new2 HN.out (fun _ => false))
      rw [hW2, hb8] at HO ⊢
      clear hW2 hb8 HN
      go_wp2
      go_loopg [9] n (fun g s9 wx => ∃ k : Nat, k + g = n ∧ s9 = .int .i64 (k : Int) ∧ Aside0 (OJ w wx b5 b7 b8 n (fun k => gB ps (s.take k)) (fun j => if j < k then gB (ps ++ [p]) (s.take j) else false) #[.int .u8 (kd : Int), .int .u8 (o : Int), .slice A2 rs.length c2, .bool nt]))
      case atStart => exact ⟨0, by omega, rfl, ⟨HO.out.congr fun j _ => by rw [if_neg (by omega)]⟩⟩
      case round =>
        obtain ⟨k, hkg, rfl, HO⟩ := hrel
        cases gk with
        | zero =>
          obtain rfl : k = n := by omega
          have q1 : decide ((k : Int) ≤ (s.length : Int)) = false := decide_eq_false (by omega)
          have q1n : decide (k ≤ s.length) = false := decide_eq_false (by omega)
          go_wp2
          go_roundg g
          case measure => omega
          case rel => exact ⟨i + 1, b8, by omega, by rfl, rfl, ⟨by rw [HO.out.h8, HT.out]; congr 2; exact rowB_congr (fun j hj => by rw [if_pos hj]), by have := HO.out.l5; have := HO.out.l7; have := HO.out.l8; omega, HO.out.b⟩⟩
        | succ g2 =>
          have hkn : k < n := by omega
          have q1 : decide ((k : Int) ≤ (s.length : Int)) = true := decide_eq_true (by omega)
          have q1n : decide (k ≤ s.length) = true := decide_eq_true (by omega)
          have q2 : (k : Int) < (n : Int) := by omega
          have q3 : (0 : Int) ≤ (k : Int) := by omega
          have hk0 := HO.out.c7 0 (.int .u8 (kd : Int)) rfl
          by_cases c42 : kd = 42
          · subst c42
            have hp1 : p.1 = true := htk2
            have h5 := HO.out.c5 hkn
            have hf8 := HO.out.f8 k
            have hc8 := (HO.out.c8 hkn).trans (by rw [if_neg (Nat.lt_irrefl k)])
            obtain ⟨q, hq⟩ : ∃ q, gB ps (s.take k) = q := ⟨_, rfl⟩
            rw [hq] at h5
            cases q with
            | true =>
              have hx : true = gB (ps ++ [p]) (s.take k) := by
                cases k with
                | zero => rw [tab_zero_star hp1, hq]
                | succ m => rw [tab_star hp1 s m (by omega), hq, Bool.true_or]
              have HX := Aside0.mk hx
              clear hx hq
              go_wp2
              go_roundg g2
              case measure => omega
              case rel => exact ⟨k + 1, by omega, by rfl, ⟨HO.out.nxt hkn (by exact HX.out)⟩⟩
            | false =>
              by_cases hk : k = 0
              · have hx : false = gB (ps ++ [p]) (s.take k) := by rw [hk] at hq ⊢; rw [tab_zero_star hp1, hq]
                have HX := Aside0.mk hx
                clear hx hq
                have q4 : decide ((0 : Int) < (k : Int)) = false := decide_eq_false (by omega)
                have q4n : decide (0 < k) = false := decide_eq_false (by omega)
                clear hk
                go_wp2
                go_roundg g2
                case measure => omega
                case rel => exact ⟨k + 1, by omega, by rfl, ⟨HO.out.nxt hkn (by exact HX.out)⟩⟩
              · obtain ⟨m, hm⟩ : ∃ m, k = m + 1 := ⟨k - 1, by omega⟩
                have h8m := HO.out.c8 (k := m) (by omega)
                rw [if_pos (show m < k by omega)] at h8m
                obtain ⟨r, hr⟩ : ∃ r, gB (ps ++ [p]) (s.take m) = r := ⟨_, rfl⟩
                rw [hr] at h8m
                have hx : r = gB (ps ++ [p]) (s.take k) := by rw [hm] at hq ⊢; rw [tab_star hp1 s m (by omega), hq, hr, Bool.false_or]
                have HX := Aside0.mk hx
                clear hx hq hr
                have hkm : (k : Int) - 1 = (m : Int) := by omega
                have q4 : decide ((0 : Int) < (k : Int)) = true := decide_eq_true (by omega)
                have q4n : decide (0 < k) = true := decide_eq_true (by omega)
                have hmn : (m : Int) < (n : Int) := by omega
                have hm0 : (0 : Int) ≤ (m : Int) := by omega
                have hmn2 : m < n := by omega
                clear hm hk
                go_wp2
                go_roundg g2
                case measure => omega
                case rel => exact ⟨k + 1, by omega, by rfl, ⟨HO.out.nxt hkn (by exact HX.out)⟩⟩
          · have hp1 : p.1 = false := by rw [htk2]; exact beq_eq_false_iff_ne.2 c42
            have n42 : ((kd : Int) == 42) = false := beq_eq_false_iff_ne.2 (by omega)
            by_cases hk : k = 0
            · have hx : false = gB (ps ++ [p]) (s.take k) := by rw [hk, tab_zero_one hp1]
              have HX := Aside0.mk hx
              clear hx
              have q4 : decide ((0 : Int) < (k : Int)) = false := decide_eq_false (by omega)
              have q4n : decide (0 < k) = false := decide_eq_false (by omega)
              clear hk
              go_upto_region 12 with fail
              refine start_ (n := 21) (S := fun w' => True) (ds := [20]) #[false, false, false, false, false, false, false, false, false, false, false, false, false, false, false, false, false, false, false, false, false] (by kernel_rfl) rfl rfl trivial (fun hHeld => ?_)
              refine with_tabW globOf12.tab12 globOf12.bits12 (fun HT_ HW_ => ?_)
              have HO4 := Aside0.mk (HO.out.below ((Below.refl _ _).drew))
              obtain ⟨W4, hW4⟩ : ∃ W, wr.drew = W := ⟨_, rfl⟩
              try rw [hW4] at hHeld
              rw [hW4] at HO4 ⊢
              clear hW4
              refine pure_ (i := 0) (N := some 53) (v := ?_) (a' := ?_) #[true, false, false, false, false, false, false, false, false, false, false, false, false, false, false, false, false, false, false, false, false] rfl rfl (any_of HT_.out (by kernel_rfl)) (fun _ _ _ h => h) (Or.inl ⟨by rfl, ?_⟩) ?_ ?_
              rotate_left
              · intro w'
                go_simp
                with_reducible rfl
              rotate_left
              · simp only [Act.put, List.setIfInBounds_toArray, List.set_cons_zero, List.set_cons_succ, i64_w, i32_w]
                rfl
              refine pure_ (i := 1) (N := some 54) (v := ?_) (a' := ?_) #[true, true, false, false, false, false, false, false, false, false, false, false, false, false, false, false, false, false, false, false, false] rfl rfl (any_of HT_.out (by kernel_rfl)) (fun _ _ _ h => h) (Or.inl ⟨by rfl, ?_⟩) ?_ ?_
              rotate_left
              · intro w'
                go_simp
                with_reducible rfl
              rotate_left
              · simp only [Act.put, List.setIfInBounds_toArray, List.set_cons_zero, List.set_cons_succ, i64_w, i32_w]
                rfl
              refine pure_ (i := 2) (N := some 55) (v := ?_) (a' := ?_) #[true, true, true, false, false, false, false, false, false, false, false, false, false, false, false, false, false, false, false, false, false] rfl rfl (any_of HT_.out (by kernel_rfl)) (fun _ _ _ h => h) (Or.inl ⟨by rfl, ?_⟩) ?_ ?_
              rotate_left
              · intro w'
                go_simp
                with_reducible rfl
              rotate_left
              · simp only [Act.put, List.setIfInBounds_toArray, List.set_cons_zero, List.set_cons_succ, i64_w, i32_w]
                rfl
              refine pure_ (i := 3) (N := some 56) (v := ?_) (a' := ?_) #[true, true, true, true, false, false, false, false, false, false, false, false, false, false, false, false, false, false, false, false, false] rfl rfl (any_of HT_.out (by kernel_rfl)) (fun _ _ _ h => h) (Or.inl ⟨by rfl, ?_⟩) ?_ ?_
              rotate_left
              · intro w'
                go_simp
                with_reducible rfl
              rotate_left
              · simp only [Act.put, List.setIfInBounds_toArray, List.set_cons_zero, List.set_cons_succ, i64_w, i32_w]
                rfl
              refine pure_ (i := 4) (N := some 57) (v := ?_) (a' := ?_) #[true, true, true, true, true, false, false, false, false, false, false, false, false, false, false, false, false, false, false, false, false] rfl rfl (any_of HT_.out (by kernel_rfl)) (fun _ _ _ h => h) (Or.inl ⟨by rfl, ?_⟩) ?_ ?_
              rotate_left
              · intro w'
                go_simp
                with_reducible rfl
              rotate_left
              · simp only [Act.put, List.setIfInBounds_toArray, List.set_cons_zero, List.set_cons_succ, i64_w, i32_w]
                rfl
              refine pure_ (i := 5) (N := some 58) (v := undef) (a' := ?_) #[true, true, true, true, true, true, false, false, false, false, false, false, false, false, false, false, false, false, false, false, false] rfl rfl (any_of HT_.out (by kernel_rfl)) (fun _ _ _ h => h) (Or.inr ⟨by rfl, rfl⟩) ?_ ?_
              rotate_left
              · simp only [Act.put, List.setIfInBounds_toArray, List.set_cons_zero, List.set_cons_succ, i64_w, i32_w]
                rfl
              refine pure_ (i := 6) (N := some 59) (v := undef) (a' := ?_) #[true, true, true, true, true, true, true, false, false, false, false, false, false, false, false, false, false, false, false, false, false] rfl rfl (any_of HT_.out (by kernel_rfl)) (fun _ _ _ h => h) (Or.inr ⟨by rfl, rfl⟩) ?_ ?_
              rotate_left
              · simp only [Act.put, List.setIfInBounds_toArray, List.set_cons_zero, List.set_cons_succ, i64_w, i32_w]
                rfl
              refine pure_ (i := 7) (N := some 60) (v := undef) (a' := ?_) #[true, true, true, true, true, true, true, true, false, false, false, false, false, false, false, false, false, false, false, false, false] rfl rfl (any_of HT_.out (by kernel_rfl)) (fun _ _ _ h => h) (Or.inr ⟨by rfl, rfl⟩) ?_ ?_
              rotate_left
              · simp only [Act.put, List.setIfInBounds_toArray, List.set_cons_zero, List.set_cons_succ, i64_w, i32_w]
                rfl
              refine pure_ (i := 8) (N := some 61) (v := undef) (a' := ?_) #[true, true, true, true, true, true, true, true, true, false, false, false, false, false, false, false, false, false, false, false, false] rfl rfl (any_of HT_.out (by kernel_rfl)) (fun _ _ _ h => h) (Or.inr ⟨by rfl, rfl⟩) ?_ ?_
              rotate_left
              · simp only [Act.put, List.setIfInBounds_toArray, List.set_cons_zero, List.set_cons_succ, i64_w, i32_w]
                rfl
              refine pure_ (i := 9) (N := some 62) (v := undef) (a' := ?_) #[true, true, true, true, true, true, true, true, true, true, false, false, false, false, false, false, false, false, false, false, false] rfl rfl (any_of HT_.out (by kernel_rfl)) (fun _ _ _ h => h) (Or.inr ⟨by rfl, rfl⟩) ?_ ?_
              rotate_left
              · simp only [Act.put, List.setIfInBounds_toArray, List.set_cons_zero, List.set_cons_succ, i64_w, i32_w]
                rfl
              refine pure_ (i := 10) (N := some 63) (v := ?_) (a' := ?_) #[true, true, true, true, true, true, true, true, true, true, true, false, false, false, false, false, false, false, false, false, false] rfl rfl (any_of HT_.out (by kernel_rfl)) (fun _ _ _ h => h) (Or.inl ⟨by rfl, ?_⟩) ?_ ?_
              rotate_left
              · intro w'
                go_simp
                with_reducible rfl
              rotate_left
              · simp only [Act.put, List.setIfInBounds_toArray, List.set_cons_zero, List.set_cons_succ, i64_w, i32_w]
                rfl
              refine pure_ (i := 11) (N := some 64) (v := ?_) (a' := ?_) #[true, true, true, true, true, true, true, true, true, true, true, true, false, false, false, false, false, false, false, false, false] rfl rfl (any_of HT_.out (by kernel_rfl)) (fun _ _ _ h => h) (Or.inl ⟨by rfl, ?_⟩) ?_ ?_
              rotate_left
              · intro w'
                go_simp
                with_reducible rfl
              rotate_left
              · simp only [Act.put, List.setIfInBounds_toArray, List.set_cons_zero, List.set_cons_succ, i64_w, i32_w]
                rfl
              refine pure_ (i := 12) (N := some 65) (v := undef) (a' := ?_) #[true, true, true, true, true, true, true, true, true, true, true, true, true, false, false, false, false, false, false, false, false] rfl rfl (any_of HT_.out (by kernel_rfl)) (fun _ _ _ h => h) (Or.inr ⟨by rfl, rfl⟩) ?_ ?_
              rotate_left
              · simp only [Act.put, List.setIfInBounds_toArray, List.set_cons_zero, List.set_cons_succ, i64_w, i32_w]
                rfl
              refine pure_ (i := 13) (N := some 66) (v := undef) (a' := ?_) #[true, true, true, true, true, true, true, true, true, true, true, true, true, true, false, false, false, false, false, false, false] rfl rfl (any_of HT_.out (by kernel_rfl)) (fun _ _ _ h => h) (Or.inr ⟨by rfl, rfl⟩) ?_ ?_
              rotate_left
              · simp only [Act.put, List.setIfInBounds_toArray, List.set_cons_zero, List.set_cons_succ, i64_w, i32_w]
                rfl
              refine pure_ (i := 14) (N := some 67) (v := undef) (a' := ?_) #[true, true, true, true, true, true, true, true, true, true, true, true, true, true, true, false, false, false, false, false, false] rfl rfl (any_of HT_.out (by kernel_rfl)) (fun _ _ _ h => h) (Or.inr ⟨by rfl, rfl⟩) ?_ ?_
              rotate_left
              · simp only [Act.put, List.setIfInBounds_toArray, List.set_cons_zero, List.set_cons_succ, i64_w, i32_w]
                rfl
              refine pure_ (i := 15) (N := some 68) (v := undef) (a' := ?_) #[true, true, true, true, true, true, true, true, true, true, true, true, true, true, true, true, false, false, false, false, false] rfl rfl (any_of HT_.out (by kernel_rfl)) (fun _ _ _ h => h) (Or.inr ⟨by rfl, rfl⟩) ?_ ?_
              rotate_left
              · simp only [Act.put, List.setIfInBounds_toArray, List.set_cons_zero, List.set_cons_succ, i64_w, i32_w]
                rfl
              refine pure_ (i := 16) (N := some 69) (v := undef) (a' := ?_) #[true, true, true, true, true, true, true, true, true, true, true, true, true, true, true, true, true, false, false, false, false] rfl rfl (any_of HT_.out (by kernel_rfl)) (fun _ _ _ h => h) (Or.inr ⟨by rfl, rfl⟩) ?_ ?_
              rotate_left
              · simp only [Act.put, List.setIfInBounds_toArray, List.set_cons_zero, List.set_cons_succ, i64_w, i32_w]
                rfl
              refine pure_ (i := 17) (N := some 70) (v := undef) (a' := ?_) #[true, true, true, true, true, true, true, true, true, true, true, true, true, true, true, true, true, true, false, false, false] rfl rfl (any_of HT_.out (by kernel_rfl)) (fun _ _ _ h => h) (Or.inr ⟨by rfl, rfl⟩) ?_ ?_
              rotate_left
              · simp only [Act.put, List.setIfInBounds_toArray, List.set_cons_zero, List.set_cons_succ, i64_w, i32_w]
                rfl
              refine pure_ (i := 18) (N := some 71) (v := ?_) (a' := ?_) #[true, true, true, true, true, true, true, true, true, true, true, true, true, true, true, true, true, true, true, false, false] rfl rfl (any_of HT_.out (by kernel_rfl)) (fun _ _ _ h => h) (Or.inl ⟨by rfl, ?_⟩) ?_ ?_
              rotate_left
              · intro w'
                go_simp
                with_reducible rfl
              rotate_left
              · simp only [Act.put, List.setIfInBounds_toArray, List.set_cons_zero, List.set_cons_succ, i64_w, i32_w]
                rfl
              refine pure_ (i := 19) (N := some 72) (v := ?_) (a' := ?_) #[true, true, true, true, true, true, true, true, true, true, true, true, true, true, true, true, true, true, true, true, false] rfl rfl (any_of HT_.out (by kernel_rfl)) (fun _ _ _ h => h) (Or.inl ⟨by rfl, ?_⟩) ?_ ?_
              rotate_left
              · intro w'
                go_simp
                with_reducible rfl
              rotate_left
              · simp only [Act.put, List.setIfInBounds_toArray, List.set_cons_zero, List.set_cons_succ, i64_w, i32_w]
                rfl
              refine last_ (i := 20) (N := none) #[true, true, true, true, true, true, true, true, true, true, true, true, true, true, true, true, true, true, true, true, true] rfl rfl (one_of HT_.out (by kernel_rfl)) (by decide) (fun K hK => ?_)
              have hf8 := HO4.out.f8 k
              have hc8 := (HO4.out.c8 hkn).trans (by rw [if_neg (Nat.lt_irrefl k)])
              refine skip_ (w1 := ?_) (by rfl) rfl ?_ ?_
              rotate_left
              · go_simp
                rfl
              refine hK.out _ _ ?_
              clear hK K
              refine done_ (done_of HT_.out (by kernel_rfl)) ?_
              go_wp2
              go_roundg g2
              case measure => omega
              case rel => exact ⟨k + 1, by omega, by rfl, ⟨HO4.out.nxt hkn (by exact HX.out)⟩⟩
            · obtain ⟨m, hm⟩ : ∃ m, k = m + 1 := ⟨k - 1, by omega⟩
              have hms : m < s.length := by omega
              have ht1 := tab_one (ps := ps) hp1 s m hms
              rw [← hm] at ht1
              have hkm : (k : Int) - 1 = (m : Int) := by omega
              have q4 : decide ((0 : Int) < (k : Int)) = true := decide_eq_true (by omega)
              have q4n : decide (0 < k) = true := decide_eq_true (by omega)
              have hmn : m < n := by omega
              clear hm hk
              have HWM := Aside0.mk (show wrap64 (m : Int) = (m : Int) by unfold wrap64; omega)
              have hmi : (m : Int) < (n : Int) := by omega
              have hm0 : (0 : Int) ≤ (m : Int) := by omega
              obtain ⟨q, hq⟩ : ∃ q, gB ps (s.take m) = q := ⟨_, rfl⟩
              have hnow : (fun k => gB ps (s.take k)) m = q := hq
              cases q with
              | false =>
                have HX := Aside0.mk (show false = gB (ps ++ [p]) (s.take k) by rw [ht1, hq, Bool.false_and])
                clear ht1 hq
                have hwm := HWM.out
                go_upto_region 12 with fail
                refine start_ (n := 21) (S := fun w' => w'.cell? ⟨b5, m, none⟩ = some (.bool false)) (ds := [20]) #[false, false, false, false, false, false, false, false, false, false, false, false, false, false, false, false, false, false, false, false, false] (by kernel_rfl) rfl rfl ((HO.out.below ((Below.refl _ _).drew)).now5 hmn hnow) (fun hHeld => ?_)
                refine with_tabW globOf12.tab12 globOf12.bits12 (fun HT_ HW_ => ?_)
                have HO4 := Aside0.mk (HO.out.below ((Below.refl _ _).drew))
                obtain ⟨W4, hW4⟩ : ∃ W, wr.drew = W := ⟨_, rfl⟩
                try rw [hW4] at hHeld
                rw [hW4] at HO4 ⊢
                clear hW4
                refine pure_ (i := 0) (N := some 53) (v := ?_) (a' := ?_) #[true, false, false, false, false, false, false, false, false, false, false, false, false, false, false, false, false, false, false, false, false] rfl rfl (any_of HT_.out (by kernel_rfl)) (fun _ _ _ h => h) (Or.inl ⟨by rfl, ?_⟩) ?_ ?_
                rotate_left
                · intro w'
                  go_simp
                  with_reducible rfl
                rotate_left
                · simp only [Act.put, List.setIfInBounds_toArray, List.set_cons_zero, List.set_cons_succ, i64_w, i32_w]
                  rfl
                refine pure_ (i := 1) (N := some 54) (v := ?_) (a' := ?_) #[true, true, false, false, false, false, false, false, false, false, false, false, false, false, false, false, false, false, false, false, false] rfl rfl (any_of HT_.out (by kernel_rfl)) (fun _ _ _ h => h) (Or.inl ⟨by rfl, ?_⟩) ?_ ?_
                rotate_left
                · intro w'
                  go_simp
                  with_reducible rfl
                rotate_left
                · simp only [Act.put, List.setIfInBounds_toArray, List.set_cons_zero, List.set_cons_succ, i64_w, i32_w]
                  rfl
                refine pure_ (i := 2) (N := some 55) (v := ?_) (a' := ?_) #[true, true, true, false, false, false, false, false, false, false, false, false, false, false, false, false, false, false, false, false, false] rfl rfl (any_of HT_.out (by kernel_rfl)) (fun _ _ _ h => h) (Or.inl ⟨by rfl, ?_⟩) ?_ ?_
                rotate_left
                · intro w'
                  go_simp
                  with_reducible rfl
                rotate_left
                · simp only [Act.put, List.setIfInBounds_toArray, List.set_cons_zero, List.set_cons_succ, i64_w, i32_w]
                  rfl
                refine pure_ (i := 3) (N := some 56) (v := ?_) (a' := ?_) #[true, true, true, true, false, false, false, false, false, false, false, false, false, false, false, false, false, false, false, false, false] rfl rfl (any_of HT_.out (by kernel_rfl)) (fun _ _ _ h => h) (Or.inl ⟨by rfl, ?_⟩) ?_ ?_
                rotate_left
                · intro w'
                  go_simp
                  with_reducible rfl
                rotate_left
                · simp only [Act.put, List.setIfInBounds_toArray, List.set_cons_zero, List.set_cons_succ, i64_w, i32_w]
                  rfl
                refine pure_ (i := 4) (N := some 57) (v := ?_) (a' := ?_) #[true, true, true, true, true, false, false, false, false, false, false, false, false, false, false, false, false, false, false, false, false] rfl rfl (any_of HT_.out (by kernel_rfl)) (fun _ _ _ h => h) (Or.inl ⟨by rfl, ?_⟩) ?_ ?_
                rotate_left
                · intro w'
                  go_simp
                  with_reducible rfl
                rotate_left
                · simp only [Act.put, List.setIfInBounds_toArray, List.set_cons_zero, List.set_cons_succ, i64_w, i32_w]
                  rfl
                refine pure_ (i := 5) (N := some 58) (v := ?_) (a' := ?_) #[true, true, true, true, true, true, false, false, false, false, false, false, false, false, false, false, false, false, false, false, false] rfl rfl (any_of HT_.out (by kernel_rfl)) (fun _ _ _ h => h) (Or.inl ⟨by rfl, ?_⟩) ?_ ?_
                rotate_left
                · intro w'
                  go_simp
                  with_reducible rfl
                rotate_left
                · simp only [Act.put, List.setIfInBounds_toArray, List.set_cons_zero, List.set_cons_succ, i64_w, i32_w]
                  rfl
                refine pure_ (i := 6) (N := some 59) (v := ?_) (a' := ?_) #[true, true, true, true, true, true, true, false, false, false, false, false, false, false, false, false, false, false, false, false, false] rfl rfl (any_of HT_.out (by kernel_rfl)) (fun _ _ _ h => h) (Or.inl ⟨by rfl, ?_⟩) ?_ ?_
                rotate_left
                · intro w'
                  go_simp
                  with_reducible rfl
                rotate_left
                · simp only [Act.put, List.setIfInBounds_toArray, List.set_cons_zero, List.set_cons_succ, i64_w, i32_w]
                  rfl
                refine pure_ (i := 7) (N := some 60) (v := ?_) (a' := ?_) #[true, true, true, true, true, true, true, true, false, false, false, false, false, false, false, false, false, false, false, false, false] rfl rfl (any_of HT_.out (by kernel_rfl)) (fun _ _ _ h => h) (Or.inl ⟨by rfl, ?_⟩) ?_ ?_
                rotate_left
                · intro w'
                  go_simp
                  with_reducible rfl
                rotate_left
                · simp only [Act.put, List.setIfInBounds_toArray, List.set_cons_zero, List.set_cons_succ, i64_w, i32_w]
                  rfl
                refine pure_ (i := 8) (N := some 61) (v := ?_) (a' := ?_) #[true, true, true, true, true, true, true, true, true, false, false, false, false, false, false, false, false, false, false, false, false] rfl rfl (any_of HT_.out (by kernel_rfl)) (fun _ _ _ h => h) (Or.inl ⟨by rfl, ?_⟩) ?_ ?_
                rotate_left
                · intro w'
                  go_simp
                  with_reducible rfl
                rotate_left
                · simp only [Act.put, List.setIfInBounds_toArray, List.set_cons_zero, List.set_cons_succ, i64_w, i32_w]
                  rfl
                refine take_ (i := 9) (N := some 62) (v := ?_) (a' := ?_) #[true, true, true, true, true, true, true, true, true, true, false, false, false, false, false, false, false, false, false, false, false] rfl rfl (take_ofW HT_.out HW_.out (by kernel_rfl)) (fun _ _ _ h => h) (Or.inl ⟨by rfl, ?_⟩) hHeld ?_ ?_
                rotate_left
                · intro w' s0
                  go_simp
                  with_reducible rfl
                rotate_left
                · simp only [Act.put, List.setIfInBounds_toArray, List.set_cons_zero, List.set_cons_succ, i64_w, i32_w]
                  rfl
                refine pure_ (i := 10) (N := some 63) (v := ?_) (a' := ?_) #[true, true, true, true, true, true, true, true, true, true, true, false, false, false, false, false, false, false, false, false, false] rfl rfl (any_of HT_.out (by kernel_rfl)) (fun _ _ _ h => h) (Or.inl ⟨by rfl, ?_⟩) ?_ ?_
                rotate_left
                · intro w'
                  go_simp
                  with_reducible rfl
                rotate_left
                · simp only [Act.put, List.setIfInBounds_toArray, List.set_cons_zero, List.set_cons_succ, i64_w, i32_w]
                  rfl
                refine pure_ (i := 11) (N := some 64) (v := ?_) (a' := ?_) #[true, true, true, true, true, true, true, true, true, true, true, true, false, false, false, false, false, false, false, false, false] rfl rfl (any_of HT_.out (by kernel_rfl)) (fun _ _ _ h => h) (Or.inl ⟨by rfl, ?_⟩) ?_ ?_
                rotate_left
                · intro w'
                  go_simp
                  with_reducible rfl
                rotate_left
                · simp only [Act.put, List.setIfInBounds_toArray, List.set_cons_zero, List.set_cons_succ, i64_w, i32_w]
                  rfl
                refine pure_ (i := 12) (N := some 65) (v := undef) (a' := ?_) #[true, true, true, true, true, true, true, true, true, true, true, true, true, false, false, false, false, false, false, false, false] rfl rfl (any_of HT_.out (by kernel_rfl)) (fun _ _ _ h => h) (Or.inr ⟨by rfl, rfl⟩) ?_ ?_
                rotate_left
                · simp only [Act.put, List.setIfInBounds_toArray, List.set_cons_zero, List.set_cons_succ, i64_w, i32_w]
                  rfl
                refine pure_ (i := 13) (N := some 66) (v := undef) (a' := ?_) #[true, true, true, true, true, true, true, true, true, true, true, true, true, true, false, false, false, false, false, false, false] rfl rfl (any_of HT_.out (by kernel_rfl)) (fun _ _ _ h => h) (Or.inr ⟨by rfl, rfl⟩) ?_ ?_
                rotate_left
                · simp only [Act.put, List.setIfInBounds_toArray, List.set_cons_zero, List.set_cons_succ, i64_w, i32_w]
                  rfl
                refine pure_ (i := 14) (N := some 67) (v := undef) (a' := ?_) #[true, true, true, true, true, true, true, true, true, true, true, true, true, true, true, false, false, false, false, false, false] rfl rfl (any_of HT_.out (by kernel_rfl)) (fun _ _ _ h => h) (Or.inr ⟨by rfl, rfl⟩) ?_ ?_
                rotate_left
                · simp only [Act.put, List.setIfInBounds_toArray, List.set_cons_zero, List.set_cons_succ, i64_w, i32_w]
                  rfl
                refine pure_ (i := 15) (N := some 68) (v := undef) (a' := ?_) #[true, true, true, true, true, true, true, true, true, true, true, true, true, true, true, true, false, false, false, false, false] rfl rfl (any_of HT_.out (by kernel_rfl)) (fun _ _ _ h => h) (Or.inr ⟨by rfl, rfl⟩) ?_ ?_
                rotate_left
                · simp only [Act.put, List.setIfInBounds_toArray, List.set_cons_zero, List.set_cons_succ, i64_w, i32_w]
                  rfl
                refine pure_ (i := 16) (N := some 69) (v := undef) (a' := ?_) #[true, true, true, true, true, true, true, true, true, true, true, true, true, true, true, true, true, false, false, false, false] rfl rfl (any_of HT_.out (by kernel_rfl)) (fun _ _ _ h => h) (Or.inr ⟨by rfl, rfl⟩) ?_ ?_
                rotate_left
                · simp only [Act.put, List.setIfInBounds_toArray, List.set_cons_zero, List.set_cons_succ, i64_w, i32_w]
                  rfl
                refine pure_ (i := 17) (N := some 70) (v := undef) (a' := ?_) #[true, true, true, true, true, true, true, true, true, true, true, true, true, true, true, true, true, true, false, false, false] rfl rfl (any_of HT_.out (by kernel_rfl)) (fun _ _ _ h => h) (Or.inr ⟨by rfl, rfl⟩) ?_ ?_
                rotate_left
                · simp only [Act.put, List.setIfInBounds_toArray, List.set_cons_zero, List.set_cons_succ, i64_w, i32_w]
                  rfl
                refine pure_ (i := 18) (N := some 71) (v := ?_) (a' := ?_) #[true, true, true, true, true, true, true, true, true, true, true, true, true, true, true, true, true, true, true, false, false] rfl rfl (any_of HT_.out (by kernel_rfl)) (fun _ _ _ h => h) (Or.inl ⟨by rfl, ?_⟩) ?_ ?_
                rotate_left
                · intro w'
                  go_simp
                  with_reducible rfl
                rotate_left
                · simp only [Act.put, List.setIfInBounds_toArray, List.set_cons_zero, List.set_cons_succ, i64_w, i32_w]
                  rfl
                refine pure_ (i := 19) (N := some 72) (v := ?_) (a' := ?_) #[true, true, true, true, true, true, true, true, true, true, true, true, true, true, true, true, true, true, true, true, false] rfl rfl (any_of HT_.out (by kernel_rfl)) (fun _ _ _ h => h) (Or.inl ⟨by rfl, ?_⟩) ?_ ?_
                rotate_left
                · intro w'
                  go_simp
                  with_reducible rfl
                rotate_left
                · simp only [Act.put, List.setIfInBounds_toArray, List.set_cons_zero, List.set_cons_succ, i64_w, i32_w]
                  rfl
                refine last_ (i := 20) (N := none) #[true, true, true, true, true, true, true, true, true, true, true, true, true, true, true, true, true, true, true, true, true] rfl rfl (one_of HT_.out (by kernel_rfl)) (by decide) (fun K hK => ?_)
                have hf8 := HO4.out.f8 k
                have hc8 := (HO4.out.c8 hkn).trans (by rw [if_neg (Nat.lt_irrefl k)])
                refine skip_ (w1 := ?_) (by rfl) rfl ?_ ?_
                rotate_left
                · go_simp
                  rfl
                refine hK.out _ _ ?_
                clear hK K
                refine done_ (done_of HT_.out (by kernel_rfl)) ?_
                clear hwm
                go_wp2
                go_roundg g2
                case measure => omega
                case rel => exact ⟨k + 1, by omega, by rfl, ⟨HO4.out.nxt hkn (by exact HX.out)⟩⟩
              | true =>
                obtain ⟨x, hxx⟩ : ∃ x, s[m] = x := ⟨_, rfl⟩
                have hget : ∀ h : m < (bs s).size, (bs s)[m]'h = x := fun _ => hxx
                have hms1 : (m : Int) < ((bs s).size : Int) := by omega
                rw [hxx, hq, Bool.true_and, htk1] at ht1
                obtain ⟨r, htk⟩ : ∃ r, takesI (kd, o, rs, nt) x.toNat = r := ⟨_, rfl⟩
                rw [htk] at ht1
                have HX := Aside0.mk (show r = gB (ps ++ [p]) (s.take k) from ht1.symm)
                clear ht1 hq hxx
                have hwm := HWM.out
                go_upto_region 12 with fail
                refine start_ (n := 21) (S := fun w' => w'.cell? ⟨b5, m, none⟩ = some (.bool true) ∧ w'.cell? ⟨b7, 0, none⟩ = some (.int .u8 (kd : Int)) ∧ w'.cell? ⟨b7, 1, none⟩ = some (.int .u8 (o : Int)) ∧ w'.cell? ⟨b7, 2, none⟩ = some (.slice A2 rs.length c2) ∧ w'.cell? ⟨b7, 3, none⟩ = some (.bool nt)) (ds := [20]) #[false, false, false, false, false, false, false, false, false, false, false, false, false, false, false, false, false, false, false, false, false] (by kernel_rfl) rfl rfl ⟨(HO.out.below ((Below.refl _ _).drew)).now5 hmn hnow, (HO.out.below ((Below.refl _ _).drew)).c7 0 _ rfl, (HO.out.below ((Below.refl _ _).drew)).c7 1 _ rfl, (HO.out.below ((Below.refl _ _).drew)).c7 2 _ rfl, (HO.out.below ((Below.refl _ _).drew)).c7 3 _ rfl⟩ (fun hHeld => ?_)
                refine with_tabW globOf12.tab12 globOf12.bits12 (fun HT_ HW_ => ?_)
                have HO4 := Aside0.mk (HO.out.below ((Below.refl _ _).drew))
                obtain ⟨W4, hW4⟩ : ∃ W, wr.drew = W := ⟨_, rfl⟩
                try rw [hW4] at hHeld
                rw [hW4] at HO4 ⊢
                clear hW4
                refine pure_ (i := 0) (N := some 53) (v := ?_) (a' := ?_) #[true, false, false, false, false, false, false, false, false, false, false, false, false, false, false, false, false, false, false, false, false] rfl rfl (any_of HT_.out (by kernel_rfl)) (fun _ _ _ h => h) (Or.inl ⟨by rfl, ?_⟩) ?_ ?_
                rotate_left
                · intro w'
                  go_simp
                  with_reducible rfl
                rotate_left
                · simp only [Act.put, List.setIfInBounds_toArray, List.set_cons_zero, List.set_cons_succ, i64_w, i32_w]
                  rfl
                refine pure_ (i := 1) (N := some 54) (v := ?_) (a' := ?_) #[true, true, false, false, false, false, false, false, false, false, false, false, false, false, false, false, false, false, false, false, false] rfl rfl (any_of HT_.out (by kernel_rfl)) (fun _ _ _ h => h) (Or.inl ⟨by rfl, ?_⟩) ?_ ?_
                rotate_left
                · intro w'
                  go_simp
                  with_reducible rfl
                rotate_left
                · simp only [Act.put, List.setIfInBounds_toArray, List.set_cons_zero, List.set_cons_succ, i64_w, i32_w]
                  rfl
                refine pure_ (i := 2) (N := some 55) (v := ?_) (a' := ?_) #[true, true, true, false, false, false, false, false, false, false, false, false, false, false, false, false, false, false, false, false, false] rfl rfl (any_of HT_.out (by kernel_rfl)) (fun _ _ _ h => h) (Or.inl ⟨by rfl, ?_⟩) ?_ ?_
                rotate_left
                · intro w'
                  go_simp
                  with_reducible rfl
                rotate_left
                · simp only [Act.put, List.setIfInBounds_toArray, List.set_cons_zero, List.set_cons_succ, i64_w, i32_w]
                  rfl
                refine pure_ (i := 3) (N := some 56) (v := ?_) (a' := ?_) #[true, true, true, true, false, false, false, false, false, false, false, false, false, false, false, false, false, false, false, false, false] rfl rfl (any_of HT_.out (by kernel_rfl)) (fun _ _ _ h => h) (Or.inl ⟨by rfl, ?_⟩) ?_ ?_
                rotate_left
                · intro w'
                  go_simp
                  with_reducible rfl
                rotate_left
                · simp only [Act.put, List.setIfInBounds_toArray, List.set_cons_zero, List.set_cons_succ, i64_w, i32_w]
                  rfl
                refine pure_ (i := 4) (N := some 57) (v := ?_) (a' := ?_) #[true, true, true, true, true, false, false, false, false, false, false, false, false, false, false, false, false, false, false, false, false] rfl rfl (any_of HT_.out (by kernel_rfl)) (fun _ _ _ h => h) (Or.inl ⟨by rfl, ?_⟩) ?_ ?_
                rotate_left
                · intro w'
                  go_simp
                  with_reducible rfl
                rotate_left
                · simp only [Act.put, List.setIfInBounds_toArray, List.set_cons_zero, List.set_cons_succ, i64_w, i32_w]
                  rfl
                refine pure_ (i := 5) (N := some 58) (v := ?_) (a' := ?_) #[true, true, true, true, true, true, false, false, false, false, false, false, false, false, false, false, false, false, false, false, false] rfl rfl (any_of HT_.out (by kernel_rfl)) (fun _ _ _ h => h) (Or.inl ⟨by rfl, ?_⟩) ?_ ?_
                rotate_left
                · intro w'
                  go_simp
                  with_reducible rfl
                rotate_left
                · simp only [Act.put, List.setIfInBounds_toArray, List.set_cons_zero, List.set_cons_succ, i64_w, i32_w]
                  rfl
                refine pure_ (i := 6) (N := some 59) (v := ?_) (a' := ?_) #[true, true, true, true, true, true, true, false, false, false, false, false, false, false, false, false, false, false, false, false, false] rfl rfl (any_of HT_.out (by kernel_rfl)) (fun _ _ _ h => h) (Or.inl ⟨by rfl, ?_⟩) ?_ ?_
                rotate_left
                · intro w'
                  go_simp
                  with_reducible rfl
                rotate_left
                · simp only [Act.put, List.setIfInBounds_toArray, List.set_cons_zero, List.set_cons_succ, i64_w, i32_w]
                  rfl
                refine pure_ (i := 7) (N := some 60) (v := ?_) (a' := ?_) #[true, true, true, true, true, true, true, true, false, false, false, false, false, false, false, false, false, false, false, false, false] rfl rfl (any_of HT_.out (by kernel_rfl)) (fun _ _ _ h => h) (Or.inl ⟨by rfl, ?_⟩) ?_ ?_
                rotate_left
                · intro w'
                  go_simp
                  with_reducible rfl
                rotate_left
                · simp only [Act.put, List.setIfInBounds_toArray, List.set_cons_zero, List.set_cons_succ, i64_w, i32_w]
                  rfl
                refine pure_ (i := 8) (N := some 61) (v := ?_) (a' := ?_) #[true, true, true, true, true, true, true, true, true, false, false, false, false, false, false, false, false, false, false, false, false] rfl rfl (any_of HT_.out (by kernel_rfl)) (fun _ _ _ h => h) (Or.inl ⟨by rfl, ?_⟩) ?_ ?_
                rotate_left
                · intro w'
                  go_simp
                  with_reducible rfl
                rotate_left
                · simp only [Act.put, List.setIfInBounds_toArray, List.set_cons_zero, List.set_cons_succ, i64_w, i32_w]
                  rfl
                refine take_ (i := 9) (N := some 62) (v := ?_) (a' := ?_) #[true, true, true, true, true, true, true, true, true, true, false, false, false, false, false, false, false, false, false, false, false] rfl rfl (take_ofW HT_.out HW_.out (by kernel_rfl)) (fun _ _ _ h => h) (Or.inl ⟨by rfl, ?_⟩) hHeld ?_ ?_
                rotate_left
                · rintro w' ⟨s0, s1, s2, s3, s4⟩
                  go_simp
                  with_reducible rfl
                rotate_left
                · simp only [Act.put, List.setIfInBounds_toArray, List.set_cons_zero, List.set_cons_succ, i64_w, i32_w]
                  rfl
                refine pure_ (i := 10) (N := some 63) (v := ?_) (a' := ?_) #[true, true, true, true, true, true, true, true, true, true, true, false, false, false, false, false, false, false, false, false, false] rfl rfl (any_of HT_.out (by kernel_rfl)) (fun _ _ _ h => h) (Or.inl ⟨by rfl, ?_⟩) ?_ ?_
                rotate_left
                · intro w'
                  go_simp
                  with_reducible rfl
                rotate_left
                · simp only [Act.put, List.setIfInBounds_toArray, List.set_cons_zero, List.set_cons_succ, i64_w, i32_w]
                  rfl
                refine pure_ (i := 11) (N := some 64) (v := ?_) (a' := ?_) #[true, true, true, true, true, true, true, true, true, true, true, true, false, false, false, false, false, false, false, false, false] rfl rfl (any_of HT_.out (by kernel_rfl)) (fun _ _ _ h => h) (Or.inl ⟨by rfl, ?_⟩) ?_ ?_
                rotate_left
                · intro w'
                  go_simp
                  with_reducible rfl
                rotate_left
                · simp only [Act.put, List.setIfInBounds_toArray, List.set_cons_zero, List.set_cons_succ, i64_w, i32_w]
                  rfl
                refine pure_ (i := 13) (N := some 66) (v := ?_) (a' := ?_) #[true, true, true, true, true, true, true, true, true, true, true, true, false, true, false, false, false, false, false, false, false] rfl rfl (any_of HT_.out (by kernel_rfl)) (fun _ _ _ h => h) (Or.inl ⟨by rfl, ?_⟩) ?_ ?_
                rotate_left
                · intro w'
                  go_simp
                  with_reducible rfl
                rotate_left
                · simp only [Act.put, List.setIfInBounds_toArray, List.set_cons_zero, List.set_cons_succ, i64_w, i32_w]
                  rfl
                refine pure_ (i := 14) (N := some 67) (v := ?_) (a' := ?_) #[true, true, true, true, true, true, true, true, true, true, true, true, false, true, true, false, false, false, false, false, false] rfl rfl (any_of HT_.out (by kernel_rfl)) (fun _ _ _ h => h) (Or.inl ⟨by rfl, ?_⟩) ?_ ?_
                rotate_left
                · intro w'
                  go_simp
                  with_reducible rfl
                rotate_left
                · simp only [Act.put, List.setIfInBounds_toArray, List.set_cons_zero, List.set_cons_succ, i64_w, i32_w]
                  rfl
                refine pure_ (i := 15) (N := some 68) (v := ?_) (a' := ?_) #[true, true, true, true, true, true, true, true, true, true, true, true, false, true, true, true, false, false, false, false, false] rfl rfl (any_of HT_.out (by kernel_rfl)) (fun _ _ _ h => h) (Or.inl ⟨by rfl, ?_⟩) ?_ ?_
                rotate_left
                · intro w'
                  go_simp
                  with_reducible rfl
                rotate_left
                · simp only [Act.put, List.setIfInBounds_toArray, List.set_cons_zero, List.set_cons_succ, i64_w, i32_w]
                  rfl
                refine take_ (i := 12) (N := some 65) (v := ?_) (a' := ?_) #[true, true, true, true, true, true, true, true, true, true, true, true, true, true, true, true, false, false, false, false, false] rfl rfl (take_ofW HT_.out HW_.out (by kernel_rfl)) (fun _ _ _ h => h) (Or.inl ⟨by rfl, ?_⟩) hHeld ?_ ?_
                rotate_left
                · rintro w' ⟨s0, s1, s2, s3, s4⟩
                  go_simp
                  with_reducible rfl
                rotate_left
                · simp only [Act.put, List.setIfInBounds_toArray, List.set_cons_zero, List.set_cons_succ, i64_w, i32_w]
                  rfl
                refine take_ (i := 16) (N := some 69) (v := ?_) (a' := ?_) #[true, true, true, true, true, true, true, true, true, true, true, true, true, true, true, true, true, false, false, false, false] rfl rfl (take_ofW HT_.out HW_.out (by kernel_rfl)) (fun _ _ _ h => h) (Or.inl ⟨by rfl, ?_⟩) hHeld ?_ ?_
                rotate_left
                · rintro w' ⟨s0, s1, s2, s3, s4⟩
                  go_simp
                  with_reducible rfl
                rotate_left
                · simp only [Act.put, List.setIfInBounds_toArray, List.set_cons_zero, List.set_cons_succ, i64_w, i32_w]
                  rfl
                refine one_ (i := 17) (N := some 70) #[true, true, true, true, true, true, true, true, true, true, true, true, true, true, true, true, true, true, false, false, false] rfl rfl (one_of HT_.out (by kernel_rfl)) (by decide) (fun K hK => ?_)
                refine call_ 89 #[.agg #[.int .u8 (kd : Int), .int .u8 (o : Int), .slice A2 rs.length c2, .bool nt], .int .u8 (x.toNat : Int)] (by rfl) rfl ?hr ?_
                (case hr => first | rfl | (go_simp; done) | (go_simp; rfl))
                refine (takes_calls kd o nt rs _ x.toNat _ base (fun k => ok k ∧ k ≠ g0) (Kd.R_below HRS.out HO4.out.b) hrs).mono ?_
                rintro e' w2 ⟨rfl, hb2⟩
                refine ⟨_, rfl, ?_⟩
                have HO5 := Aside0.mk (HO4.out.below hb2)
                clear hb2
                rw [htk]
                refine hK.out _ _ ⟨HO5.out.now5 hmn hnow, HO5.out.c7 0 _ rfl, HO5.out.c7 1 _ rfl, HO5.out.c7 2 _ rfl, HO5.out.c7 3 _ rfl⟩ (fun hHeld => ?_)
                clear hK K
                refine norm_ (a' := ?_) ?_ ?_
                rotate_left
                · show Act.put _ (some 70) _ = _
                  simp only [Act.put, List.setIfInBounds_toArray, List.set_cons_zero, List.set_cons_succ, i64_w, i32_w]
                  rfl
                refine pure_ (i := 18) (N := some 71) (v := ?_) (a' := ?_) #[true, true, true, true, true, true, true, true, true, true, true, true, true, true, true, true, true, true, true, false, false] rfl rfl (any_of HT_.out (by kernel_rfl)) (fun _ _ _ h => h) (Or.inl ⟨by rfl, ?_⟩) ?_ ?_
                rotate_left
                · intro w'
                  go_simp
                  with_reducible rfl
                rotate_left
                · simp only [Act.put, List.setIfInBounds_toArray, List.set_cons_zero, List.set_cons_succ, i64_w, i32_w]
                  rfl
                refine pure_ (i := 19) (N := some 72) (v := ?_) (a' := ?_) #[true, true, true, true, true, true, true, true, true, true, true, true, true, true, true, true, true, true, true, true, false] rfl rfl (any_of HT_.out (by kernel_rfl)) (fun _ _ _ h => h) (Or.inl ⟨by rfl, ?_⟩) ?_ ?_
                rotate_left
                · intro w'
                  go_simp
                  with_reducible rfl
                rotate_left
                · simp only [Act.put, List.setIfInBounds_toArray, List.set_cons_zero, List.set_cons_succ, i64_w, i32_w]
                  rfl
                refine last_ (i := 20) (N := none) #[true, true, true, true, true, true, true, true, true, true, true, true, true, true, true, true, true, true, true, true, true] rfl rfl (one_of HT_.out (by kernel_rfl)) (by decide) (fun K hK => ?_)
                have hf8 := HO5.out.f8 k
                have hc8 := (HO5.out.c8 hkn).trans (by rw [if_neg (Nat.lt_irrefl k)])
                refine skip_ (w1 := ?_) (by rfl) rfl ?_ ?_
                rotate_left
                · go_simp
                  rfl
                refine hK.out _ _ ?_
                clear hK K
                refine done_ (done_of HT_.out (by kernel_rfl)) ?_
                clear hwm
                go_wp2
                go_roundg g2
                case measure => omega
                case rel => exact ⟨k + 1, by omega, by rfl, ⟨HO5.out.nxt hkn (by exact HX.out)⟩⟩
end Go.Proofs.Ytkghoodhgihokaa.Glob
