/- strings.Join by a slash, of at most 12 texts of at most 16 bytes each: at this program; no further condition. (The walk is turned from the kit's worked text of strings.Join.) -/
import Derived.Test.YtkghoodhgihokaaXBuild
namespace Go.Proofs.Ytkghoodhgihokaa
set_option linter.unusedVariables false
open Go.RowKit Go.Lib Go.Proofs.YtkghoodhgihokaaW.PrintWords Go.Proofs.YtkghoodhgihokaaW.PrintLast Go.Proofs.YtkghoodhgihokaaW.PrintMore
def slash : ByteArray := ⟨#[47]⟩
theorem rdOf_get {l : List ByteArray} {k : Nat} (h : k < l.length) : rdOf ByteArray.empty l (k : Int) = l[k] := by
  simp [rdOf, List.getD_eq_getElem?_getD, List.getElem?_eq_getElem h]
theorem join_none (A : Option Addr) (c : Nat) (w : World) :
    Calls Try.prog 39 #[.slice A 0 c, .string slash] w fun e w' => e = .returned (.string ⟨#[]⟩) ∧ w' = w := by
  go_enter Try.func39, Try.ntmps39
  go_wp2
  go_ret
  exact ⟨rfl, rfl⟩
theorem join_one (A : Option Addr) (c : Nat) (x : ByteArray) (w : World) (hr : Kd.C Kd.string w A 1 [x]) :
    Calls Try.prog 39 #[.slice A 1 c, .string slash] w fun e w' => e = .returned (.string x) ∧ w' = w := by
  obtain ⟨ad, rfl, h0⟩ := Kd.at_string hr 0 (by omega) (by omega)
  have h1 : w.cell? (ad.add 0) = some (.string x) := h0
  have h2 : w.cell? ad = some (.string x) := h0
  clear h0
  go_enter Try.func39, Try.ntmps39
  go_wp2
  go_ret
  exact ⟨rfl, rfl⟩
set_option maxHeartbeats 8000000 in
set_option maxRecDepth 100000 in
theorem join_many (A : Option Addr) (c : Nat) (x0 : ByteArray) (r : List ByteArray) (w : World) (hr : Kd.C Kd.string w A (x0 :: r).length (x0 :: r)) (hc : (x0 :: r).length ≤ c) (h2 : 1 ≤ r.length) (hl : r.length ≤ 11) (hs : ∀ x ∈ x0 :: r, x.size ≤ 16) :
    Calls Try.prog 39 #[.slice A (x0 :: r).length c, .string slash] w fun e w' => e = .returned (.string ⟨(Lib.join ((x0 :: r).map (·.data.toList)) [47]).toArray⟩) ∧ Below w.heap.size w w' := by
  obtain ⟨l, hlr⟩ : ∃ l, x0 :: r = l := ⟨_, rfl⟩
  obtain ⟨n, hn⟩ : ∃ n, r.length = n := ⟨_, rfl⟩
  have hlen : l.length = n + 1 := by rw [← hlr, ← hn]; rfl
  rw [hlr] at hr hc hs ⊢
  rw [hn] at h2 hl
  have HR := Aside0.mk hr
  have HS := Aside0.mk hs
  have HL := Aside0.mk hlr
  have HN := Aside0.mk hn
  have HLE := Aside0.mk hlen
  clear hr hs hlr hn
  rw [hlen] at hc ⊢
  clear hlen
  have hbs : ∀ k, k < n + 1 → (rdOf ByteArray.empty l (k : Int)).size ≤ 16 := fun k hk => by
    rw [rdOf_get (by rw [HLE.out]; exact hk)]
    exact HS.out _ (List.getElem_mem _)
  have HBS := Aside0.mk hbs
  clear hbs
  have hlens : ∀ k, Lib.lens ((l.map (·.data.toList)).take k) ≤ 16 * k := by
    intro k
    induction k with
    | zero => simp [Lib.lens]
    | succ k ih =>
      by_cases hk : k < n + 1
      · have hk' : k < l.length := by rw [HLE.out]; exact hk
        rw [Lib.lens_take_succ (l.map (·.data.toList)) k l[k].data.toList (by simp [List.getElem?_eq_getElem hk'])]
        have := HS.out l[k] (List.getElem_mem hk')
        rw [Lib.size_eq] at this
        omega
      · have hle : (l.map (·.data.toList)).length ≤ k := by rw [List.length_map, HLE.out]; omega
        rw [List.take_of_length_le hle] at ih
        rw [List.take_of_length_le (by omega)]
        omega
  have HLN := Aside0.mk hlens
  clear hlens
  have hz : (slash.size : Int) = 1 := rfl
  have hp1 : decide ((0 : Int) < (slash.size : Int)) = true := rfl
  have hn0 : ((n : Int) + 1 == 0) = false := beq_eq_false_iff_ne.2 (by omega)
  have hn1 : ((n : Int) + 1 == 1) = false := beq_eq_false_iff_ne.2 (by omega)
  have hn0' : (n == 0) = false := beq_eq_false_iff_ne.2 (by omega)
  have hdv0 : ¬ ((9223372036854775807 : Int) / (n : Int) ≤ 1) := by
    have h1 : (2 : Int) ≤ 9223372036854775807 / (n : Int) := (Int.le_ediv_iff_mul_le (by omega)).2 (by omega)
    omega
  have hdv : decide ((9223372036854775807 : Int) / (n : Int) ≤ 1) = false := decide_eq_false hdv0
  go_enter Try.func39, Try.ntmps39
  go_wp2_with fail
  all_goals (
    go_loop [5, 41] (fun v5 v41 => ∃ k : Nat, k ≤ n + 1 ∧ v41 = .int .i64 k ∧ v5 = .int .i64 ((n + Lib.lens ((l.map (·.data.toList)).take k) : Nat) : Int)) (fun _ i => n + 1 - (RowKit.intOf i).toNat)
    case atStart => exact ⟨0, Nat.zero_le _, rfl, by simp [Lib.lens]⟩
    case round =>
      obtain ⟨k, hk, rfl, rfl⟩ := hrel
      by_cases hkn : k < n + 1
      · have e1_ : decide ((k : Int) < (n : Int) + 1) = true := decide_eq_true (by omega)
        obtain ⟨ad, rfl, h0⟩ := Kd.at_string HR.out (k : Int) (by omega) (by rw [HLE.out]; omega)
        rw [Int.toNat_natCast] at h0
        have hb := HBS.out k hkn
        have hst : Lib.lens ((l.map (·.data.toList)).take (k + 1)) = Lib.lens ((l.map (·.data.toList)).take k) + (rdOf ByteArray.empty l (k : Int)).size := by
          have hk' : k < l.length := by rw [HLE.out]; exact hkn
          rw [rdOf_get hk', Lib.lens_take_succ (l.map (·.data.toList)) k l[k].data.toList (by simp [List.getElem?_eq_getElem hk']), Lib.size_eq]
        have hln := HLN.out k
        generalize rdOf ByteArray.empty l (k : Int) = s at h0 hb hst
        obtain ⟨A1, hA1⟩ : ∃ A1, Lib.lens ((l.map (·.data.toList)).take (k + 1)) = A1 := ⟨_, rfl⟩
        rw [hA1] at hst
        have HA1 := Aside0.mk hA1
        clear hA1
        generalize Lib.lens ((l.map (·.data.toList)).take k) = A0 at hst hln
        go_wp2
        exact ⟨⟨k + 1, by omega, by first | rfl | go_num, by rw [HA1.out, hst]; refine congrArg _ ?_; omega⟩, by simp [RowKit.intOf]; omega⟩
      · obtain rfl : k = n + 1 := by omega
        have e1_ : decide ((((n + 1 : Nat) : Int)) < (n : Int) + 1) = false := decide_eq_false (by omega)
        have hT := HLN.out (n + 1)
        obtain ⟨T, hTT⟩ : ∃ T, n + Lib.lens ((l.map (·.data.toList)).take (n + 1)) = T := ⟨_, rfl⟩
        rw [hTT]
        have hT2 : T ≤ 400 := by omega
        clear hTT hT
        go_wp2_with fail
        refine (Grow_fresh w.heap.size w.heap.size T _ (Nat.le_refl _) (heap_alloc_new w _) (by simp) (by omega)).mono ?_
        rintro e w1 ⟨rfl, h1, hb1⟩
        have hb1' : Below w.heap.size w w1 := ((Below.refl w.heap.size w).alloc (Nat.le_refl _) _).trans hb1
        have hBw1 : w.heap.size ≤ w1.heap.size := hb1'.size
        obtain ⟨ad, rfl, h0⟩ := Kd.at_string (Kd.C_below HR.out hb1') 0 (by omega) (by rw [HLE.out]; omega)
        have hx0 : rdOf ByteArray.empty l 0 = x0 := by rw [← HL.out]; rfl
        rw [hx0] at h0
        have h0a : w1.cell? (ad.add 0) = some (.string x0) := h0
        have h0b : w1.cell? ad = some (.string x0) := h0
        have H1 := Aside0.mk (Or.inr h1 : Lib.IsBuilder 118 5 w.heap.size w.heap.size [] w1)
        have Hb1 := Aside0.mk hb1'
        clear h1 hb1 hb1' h0
        have hs0 : x0.size ≤ 16 := HS.out x0 (by rw [← HL.out]; exact List.mem_cons_self)
        go_wp2_with fail
        refine (writeString_calls w.heap.size w.heap.size [] x0 w1 H1.out (by simp; omega) hBw1).mono ?_
        rintro e w2 ⟨rfl, h2', hb2⟩
        have hstart : ([] : List Value) ++ Lib.strCells x0 = Lib.byteCells (x0.data.toList ++ Lib.joinTail [47] ((r.map (·.data.toList)).take 0)) := by
          simp [Lib.joinTail, Lib.strCells_eq]
        rw [hstart] at h2'
        have H2 := Aside0.mk (Or.inr h2' : Lib.IsBuilder 118 5 w.heap.size w.heap.size _ w2)
        have Hb2 := Aside0.mk (Hb1.out.trans hb2)
        clear h2' hb2 hstart
        go_wp2_with fail
        have hlim : ∀ k, (Lib.joinTail [47] ((r.map (·.data.toList)).take k)).length ≤ 187 := by
          intro k
          have h1 := Lib.joinTail_take_le [47] (r.map (·.data.toList)) k
          have h2 := Lib.joinTail_length [47] (r.map (·.data.toList))
          rw [List.length_map, HN.out] at h2
          have h3 := HLN.out (n + 1)
          rw [← HL.out, List.map_cons, List.take_succ_cons, List.take_of_length_le (by rw [List.length_map, HN.out]; exact Nat.le_refl _)] at h3
          have h4 : Lib.lens (x0.data.toList :: r.map (·.data.toList)) = x0.data.toList.length + Lib.lens (r.map (·.data.toList)) := by simp [Lib.lens]
          have h5 : Lib.lens (r.map (·.data.toList)) ≤ 16 * n := by
            have h6 : ∀ q : List ByteArray, (∀ x ∈ q, x.size ≤ 16) → Lib.lens (q.map (·.data.toList)) ≤ 16 * q.length := by
              intro q
              induction q with
              | nil => intro _; simp [Lib.lens]
              | cons y t ih =>
                intro hq
                have h7 := ih (fun x hx => hq x (List.mem_cons_of_mem _ hx))
                have h8 := hq y List.mem_cons_self
                rw [Lib.size_eq] at h8
                simp only [Lib.lens, List.map_cons, List.sum_cons, List.length_cons] at h7 ⊢
                omega
            have := h6 r (fun x hx => HS.out x (by rw [← HL.out]; exact List.mem_cons_of_mem _ hx))
            rw [HN.out] at this
            exact this
          have e1 : ([47] : List UInt8).length = 1 := rfl
          rw [e1] at h2
          omega
        have HLM := Aside0.mk hlim
        clear hlim
        go_loopw [65] (fun i wr => ∃ k : Nat, k ≤ n ∧ i = .int .i64 k ∧ Aside0 (Lib.IsBuilder 118 5 w.heap.size w.heap.size (Lib.byteCells (x0.data.toList ++ Lib.joinTail [47] ((r.map (·.data.toList)).take k))) wr) ∧ Aside0 (Below w.heap.size w wr)) (fun i _ => n - (RowKit.intOf i).toNat)
        case atStart => exact ⟨0, Nat.zero_le _, rfl, H2, Hb2⟩
        case round =>
          obtain ⟨k, hk', rfl, HB, HW⟩ := hrel
          by_cases hkr : k < n
          · have hkr' : k < r.length := by rw [HN.out]; exact hkr
            have e2_ : decide ((k : Int) < (n : Int)) = true := decide_eq_true (by omega)
            obtain ⟨y, hy⟩ : ∃ y, r[k]? = some y := ⟨r[k], List.getElem?_eq_getElem hkr'⟩
            obtain ⟨ad', ea, h0⟩ := Kd.at_string (Kd.C_below HR.out HW.out) ((k : Int) + 1) (by omega) (by rw [HLE.out]; omega)
            cases ea
            have hxy : rdOf ByteArray.empty l ((k : Int) + 1) = y := by
              have : rdOf ByteArray.empty l (((k + 1 : Nat)) : Int) = y := by
                rw [rdOf_get (by rw [HLE.out]; omega)]
                have hg : l[k + 1]? = some y := by rw [← HL.out, List.getElem?_cons_succ]; exact hy
                exact (List.getElem?_eq_some_iff.1 hg).2
              exact this
            rw [hxy, show ((k : Int) + 1).toNat = k + 1 by omega] at h0
            have hcy : wr.cell? ⟨ad.block, ad.off + 1 + k, none⟩ = some (.string y) := by rw [show ad.off + 1 + k = ad.off + (k + 1) by omega]; exact h0
            have hsy : y.size ≤ 16 := HS.out y (by rw [← HL.out]; exact List.mem_cons_of_mem _ (List.mem_of_getElem? hy))
            have hBw : w.heap.size ≤ wr.heap.size := HW.out.size
            have hnext : Lib.byteCells (x0.data.toList ++ Lib.joinTail [47] ((r.map (·.data.toList)).take k)) ++ Lib.strCells slash ++ Lib.strCells y = Lib.byteCells (x0.data.toList ++ Lib.joinTail [47] ((r.map (·.data.toList)).take (k + 1))) := by
              rw [Lib.joinTail_take_succ [47] (r.map (·.data.toList)) k y.data.toList (by simp [hy]), Lib.strCells_eq, Lib.strCells_eq, ← Lib.byteCells_append, ← Lib.byteCells_append, List.append_assoc, List.append_assoc, List.append_assoc]
              rfl
            have hl1 := HLM.out k
            have hl0 : (Lib.byteCells (x0.data.toList ++ Lib.joinTail [47] ((r.map (·.data.toList)).take k))).length = x0.size + (Lib.joinTail [47] ((r.map (·.data.toList)).take k)).length := by
              rw [Lib.byteCells_length, List.length_append, ← Lib.size_eq]
            have hsl : slash.size = 1 := rfl
            have hl2 : (Lib.strCells slash).length = 1 := rfl
            have Hn := Aside0.mk hnext
            have HL0 := Aside0.mk hl0
            clear hnext hy hxy hl0
            generalize (Lib.joinTail [47] ((r.map (·.data.toList)).take k)).length = J at HL0 hl1
            go_wp2_with fail
            refine (writeString_calls w.heap.size w.heap.size _ slash wr HB.out (by rw [HL0.out, hsl]; omega) hBw).mono ?_
            rintro e w3 ⟨rfl, h3, hb3⟩
            have hBw3 : w.heap.size ≤ w3.heap.size := Nat.le_trans hBw hb3.size
            have H3 := Aside0.mk h3
            have Hb3 := Aside0.mk hb3
            clear h3 hb3
            go_wp2_with fail
            refine (writeString_calls w.heap.size w.heap.size _ y w3 (Or.inr H3.out) (by rw [List.length_append, HL0.out, hl2]; omega) hBw3).mono ?_
            rintro e w4 ⟨rfl, h4, hb4⟩
            rw [Hn.out] at h4
            have H4 := Aside0.mk (Or.inr h4 : Lib.IsBuilder 118 5 w.heap.size w.heap.size _ w4)
            have Hb4 := Aside0.mk ((HW.out.trans Hb3.out).trans hb4)
            clear h4 hb4
            go_wp2
            exact ⟨⟨k + 1, by omega, by first | rfl | go_num, H4, Hb4⟩, by simp [RowKit.intOf]; omega⟩
          · obtain rfl : k = n := by omega
            have e2_ : decide ((k : Int) < (k : Int)) = false := decide_eq_false (by omega)
            have hB' := HB.out
            have hfull : (r.map (·.data.toList)).take k = r.map (·.data.toList) := List.take_of_length_le (by rw [List.length_map, HN.out]; exact Nat.le_refl _)
            rw [hfull] at hB'
            have hwh : x0.data.toList ++ Lib.joinTail [47] (r.map (·.data.toList)) = Lib.join (l.map (·.data.toList)) [47] := by rw [← HL.out, List.map_cons, Lib.join_cons]
            rw [hwh] at hB'
            have hne : Lib.join (l.map (·.data.toList)) [47] ≠ [] := by
              rw [← hwh]
              intro h
              have h3 := congrArg List.length h
              rw [List.length_append, Lib.joinTail_length, List.length_map, HN.out] at h3
              have e1 : ([47] : List UInt8).length = 1 := rfl
              rw [e1] at h3
              simp only [List.length_nil] at h3
              omega
            have hBw : w.heap.size ≤ wr.heap.size := HW.out.size
            have HBB := Aside0.mk hB'
            have HNE := Aside0.mk hne
            clear hB' hwh hne hfull
            go_wp2_with fail
            refine (string_calls w.heap.size w.heap.size _ wr HBB.out HNE.out).mono ?_
            rintro e w5 ⟨rfl, hb5⟩
            have Hb5 := Aside0.mk (HW.out.trans hb5)
            clear hb5
            go_wp2
            go_ret
            exact ⟨rfl, Hb5.out⟩)
/-- strings.Join of names, by a slash. -/
theorem join_calls (A : Option Addr) (c : Nat) (l : List ByteArray) (w : World) (hr : Kd.C Kd.string w A l.length l) (hc : l.length ≤ c) (hl : l.length ≤ 12) (hs : ∀ x ∈ l, x.size ≤ 16) :
    Calls Try.prog 39 #[.slice A l.length c, .string slash] w fun e w' => e = .returned (.string ⟨(Lib.join (l.map (·.data.toList)) [47]).toArray⟩) ∧ Below w.heap.size w w' := by
  match l, hr, hc, hl, hs with
  | [], _, _, _, _ => exact (join_none A c w).mono fun e w' ⟨he, hw⟩ => ⟨he, hw ▸ Below.refl _ _⟩
  | [x], hr, _, _, _ =>
    refine (join_one A c x w hr).mono fun e w' ⟨he, hw⟩ => ⟨?_, hw ▸ Below.refl _ _⟩
    rw [he, List.map_cons, List.map_nil, Lib.join_one, Lib.mk_data]
  | x :: y :: t, hr, hc, hl, hs => exact join_many A c x (y :: t) w hr hc (by simp) (by simpa using hl) hs
end Go.Proofs.Ytkghoodhgihokaa
