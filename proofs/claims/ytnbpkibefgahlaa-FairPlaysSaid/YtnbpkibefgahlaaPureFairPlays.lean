/- fair.Play answers what its reference answers, at every list of quanta and feeds; no further condition. -/
import Derived.Test.YtnbpkibefgahlaaHFairPlaysx
import Derived.Test.YtnbpkibefgahlaaHelp
namespace Go.Proofs.Ytnbpkibefgahlaa.Pure
open Go.RowKit Go.Proofs.Ytnbpkibefgahlaa.HFairPlays Go.Proofs.YtnbpkibefgahlaaW.PrintWords Go.Proofs.YtnbpkibefgahlaaW.PrintLast Go.Proofs.YtnbpkibefgahlaaW.PrintMore Go.Proofs.Ytnbpkibefgahlaa.Help
set_option linter.unusedSimpArgs false
set_option linter.unusedVariables false
/-- The flows that the reference's state tells. -/
def mkF (qs : List Int) (ws : List (List Int)) (ds : List Int) (has : Int) : List Fl := (List.range qs.length).map fun (i : Nat) => (⟨rd qs (i : Int), ws.getD i [], rd ds (i : Int), has == (i : Int)⟩ : Fl)
theorem mkF_length (qs : List Int) (ws : List (List Int)) (ds : List Int) (has : Int) : (mkF qs ws ds has).length = qs.length := by simp [mkF]
theorem mkF_get {qs : List Int} {ws : List (List Int)} {ds : List Int} {has : Int} {n : Nat} (h : n < qs.length) : (mkF qs ws ds has).getD n ⟨0, [], 0, false⟩ = ⟨rd qs (n : Int), ws.getD n [], rd ds (n : Int), has == (n : Int)⟩ := by
  rw [getD_fl (by rw [mkF_length]; exact h)]
  simp [mkF]
theorem mkF_upd {qs : List Int} {ws ws' : List (List Int)} {ds ds' : List Int} {has has' : Int} {n : Nat} (h : n < qs.length) (F : Fl → Fl)
    (hn : F ⟨rd qs (n : Int), ws.getD n [], rd ds (n : Int), has == (n : Int)⟩ = ⟨rd qs (n : Int), ws'.getD n [], rd ds' (n : Int), has' == (n : Int)⟩)
    (ho : ∀ j : Nat, j ≠ n → ws'.getD j [] = ws.getD j [] ∧ rd ds' (j : Int) = rd ds (j : Int) ∧ (has' == (j : Int)) = (has == (j : Int))) : upd (mkF qs ws ds has) n F = mkF qs ws' ds' has' := by
  unfold upd
  rw [mkF_get h, hn]
  apply List.ext_getElem
  · simp [mkF]
  · intro j h1 h2
    by_cases e : n = j
    · subst e
      rw [List.getElem_set_self]
      simp only [mkF, List.getElem_map, List.getElem_range]
    · rw [List.getElem_set_ne e]
      obtain ⟨e1, e2, e3⟩ := ho j (fun h => e h.symm)
      simp only [mkF, List.getElem_map, List.getElem_range]
      rw [e1, e2, e3]
/-- What the reference's state keeps. -/
structure Inv (qs : List Int) (ws : List (List Int)) (ds rg : List Int) (has : Int) : Prop where
  hq : ∀ n : Nat, n < qs.length → 1 ≤ rd qs (n : Int) ∧ rd qs (n : Int) ≤ 1500
  hn : 1 ≤ qs.length ∧ qs.length ≤ 6
  hw : ws.length = qs.length
  hd : ds.length = qs.length
  nd : rg.Nodup
  mem : ∀ x ∈ rg, 0 ≤ x ∧ x < (qs.length : Int) ∧ 0 < (ws.getD x.toNat []).length
  sz : ∀ n : Nat, n < qs.length → (ws.getD n []).length ≤ 40 ∧ ∀ x ∈ ws.getD n [], 1 ≤ x ∧ x ≤ 1500
  d0 : ∀ n : Nat, n < qs.length → 0 ≤ rd ds (n : Int) ∧ rd ds (n : Int) ≤ 2999
  d1 : ∀ n : Nat, n < qs.length → has ≠ (n : Int) → rd ds (n : Int) ≤ 1499
  hh : has = -1 ∨ (rd rg 0 = has ∧ 0 < rg.length)
theorem nodup_short : ∀ (N : Nat) {l : List Int}, l.Nodup → (∀ x ∈ l, 0 ≤ x ∧ x < (N : Int)) → l.length ≤ N
  | 0, l, _, hm => by
    cases l with
    | nil => simp
    | cons x t => have := hm x (by simp); omega
  | N + 1, l, hn, hm => by
    by_cases h : (N : Int) ∈ l
    · have h1 := nodup_short N (l := l.erase (N : Int)) (hn.erase _) (fun x hx => by
        obtain ⟨h2, h3⟩ := (List.Nodup.mem_erase_iff hn).1 hx
        have := hm x h3
        omega)
      rw [List.length_erase_of_mem h] at h1
      omega
    · have h1 := nodup_short N hn (fun x hx => by
        have := hm x hx
        have : x ≠ (N : Int) := fun e => h (e ▸ hx)
        omega)
      omega
theorem Inv.short {qs : List Int} {ws : List (List Int)} {ds rg : List Int} {has : Int} (h : Inv qs ws ds rg has) : rg.length ≤ 6 := by
  have := nodup_short qs.length h.nd (fun x hx => ⟨(h.mem x hx).1, (h.mem x hx).2.1⟩)
  have := h.hn
  omega
/-- How many more times flows may be fed: each has at most 1500 to come. -/
def room (ds : List Int) : Nat := (ds.map fun d => (1500 - d).toNat).sum
theorem room_set {ds : List Int} {n : Nat} {x : Int} (h : n < ds.length) (hx : rd ds (n : Int) < x) (hd : rd ds (n : Int) ≤ 1499) : room (ds.set n x) < room ds := by
  have he : rd ds (n : Int) = ds[n] := by unfold rd; rw [Int.toNat_natCast, List.getD_eq_getElem?_getD, List.getElem?_eq_getElem h]; rfl
  rw [he] at hx hd
  clear he
  induction ds generalizing n with
  | nil => simp at h
  | cons a t ih =>
    cases n with
    | zero => simp only [List.getElem_cons_zero] at hx hd; simp only [room, List.set_cons_zero, List.map_cons, List.sum_cons]; omega
    | succ m =>
      simp only [List.length_cons, List.getElem_cons_succ] at h hx hd
      have := ih (by omega) hx hd
      simp only [room, List.set_cons_succ, List.map_cons, List.sum_cons] at this ⊢
      omega
theorem getD_set_self {ws : List (List Int)} {n : Nat} (h : n < ws.length) (x : List Int) : (ws.set n x).getD n [] = x := by
  rw [List.getD_eq_getElem?_getD, List.getElem?_set_self h]; rfl
theorem getD_set_ne {ws : List (List Int)} {n j : Nat} (h : j ≠ n) (x : List Int) : (ws.set n x).getD j [] = ws.getD j [] := by
  rw [List.getD_eq_getElem?_getD, List.getD_eq_getElem?_getD, List.getElem?_set_ne (fun e => h e.symm)]
theorem rd_set_self {ds : List Int} {n : Nat} (h : n < ds.length) (x : Int) : rd (ds.set n x) (n : Int) = x := by
  unfold rd; rw [Int.toNat_natCast, List.getD_eq_getElem?_getD, List.getElem?_set_self h]; rfl
theorem rd_set_ne {ds : List Int} {n j : Nat} (h : j ≠ n) (x : Int) : rd (ds.set n x) (j : Int) = rd ds (j : Int) := by
  unfold rd; rw [Int.toNat_natCast, List.getD_eq_getElem?_getD, List.getD_eq_getElem?_getD, List.getElem?_set_ne (fun e => h e.symm)]
theorem sent_sim {qs : List Int} {ws : List (List Int)} {ds : List Int} {n : Nat} {t : List Int} (hI : Inv qs ws ds ((n : Int) :: t) (n : Int)) (hle : rd (ws.getD n []) 0 ≤ rd ds (n : Int)) :
    ∃ o ws' ds' rg' has', sendR ws ds ((n : Int) :: t) (n : Int) = some (o, ws', ds', rg', has') ∧ sentF (mkF qs ws ds (n : Int)) ((n : Int) :: t) n = some ((o.f0, o.f1, o.f2), mkF qs ws' ds' has', rg') ∧ Inv qs ws' ds' rg' has' := by
  have hm := hI.mem (n : Int) (by simp)
  rw [Int.toNat_natCast] at hm
  have hn : n < qs.length := by omega
  have hs := hI.sz n hn
  have hd := hI.d0 n hn
  have hN := hI.hn
  have hnd := List.nodup_cons.1 hI.nd
  have hw := hI.hw
  have hdl := hI.hd
  cases hq : ws.getD n [] with
  | nil => rw [hq] at hm; simp at hm
  | cons p r =>
    rw [hq] at hm hs hle
    have hp := hs.2 p (by simp)
    have e0 : rd (p :: r) 0 = p := rfl
    rw [e0] at hle
    have eh : rd ((n : Int) :: t) 0 = (n : Int) := rfl
    have hg : n < (mkF qs ws ds (n : Int)).length := by rw [mkF_length]; exact hn
    have e1 : sendR ws ds ((n : Int) :: t) (n : Int) = if (p :: r).length = 1 then some (⟨0, (n : Int), p⟩, ws.set n r, ds.set n 0, t, -1) else some (⟨0, (n : Int), p⟩, ws.set n r, ds.set n (rd ds (n : Int) - p), (n : Int) :: t, (n : Int)) := by
      unfold sendR
      rw [eh, Int.toNat_natCast, hq, e0]
      exact if_pos (by refine ⟨by simp, by omega, by omega, by omega, by omega, by simp, by omega, by omega⟩)
    have e2 : sentF (mkF qs ws ds (n : Int)) ((n : Int) :: t) n = if (p :: r).length = 1 then some ((0, (n : Int), p), upd (mkF qs ws ds (n : Int)) n (fun z => { z with ws := [], d := 0, fed := false }), t) else some ((0, (n : Int), p), upd (mkF qs ws ds (n : Int)) n (fun z => { z with ws := z.ws.drop 1, d := z.d - p }), (n : Int) :: t) := by
      unfold sentF
      rw [mkF_get hn, hq]
      dsimp only
      rw [e0]
      exact if_pos (by rw [mkF_length]; refine ⟨hn, by simp, by simp, by omega, by omega, by omega, by omega, by omega⟩)
    by_cases hr : r = []
    · subst hr
      rw [if_pos (show [p].length = 1 from rfl)] at e1 e2
      refine ⟨_, _, _, _, _, e1, ?_, ?_⟩
      · rw [e2]
        congr 3
        refine mkF_upd hn _ ?_ (fun j hj => ⟨getD_set_ne hj _, rd_set_ne hj _, ?_⟩)
        · rw [getD_set_self (by omega), rd_set_self (by omega)]
          simp
        · rw [Bool.eq_iff_iff, beq_iff_eq, beq_iff_eq]
          omega
      · refine ⟨hI.hq, hN, by rw [List.length_set]; exact hw, by rw [List.length_set]; exact hdl, hnd.2, fun x hx => ?_, fun m hm' => ?_, fun m hm' => ?_, fun m hm' hh => ?_, .inl rfl⟩
        · obtain ⟨h1, h2, h3⟩ := hI.mem x (List.mem_cons_of_mem _ hx)
          have hne : x ≠ (n : Int) := fun e => hnd.1 (e ▸ hx)
          refine ⟨h1, h2, ?_⟩
          rw [getD_set_ne (by omega)]
          exact h3
        · by_cases e : m = n
          · subst e; rw [getD_set_self (by omega)]; simp
          · rw [getD_set_ne e]; exact hI.sz m hm'
        · by_cases e : m = n
          · subst e; rw [rd_set_self (by omega)]; omega
          · rw [rd_set_ne e]; exact hI.d0 m hm'
        · by_cases e : m = n
          · subst e; rw [rd_set_self (by omega)]; omega
          · rw [rd_set_ne e]; exact hI.d1 m hm' (by omega)
    · rw [if_neg (by simpa using hr)] at e1 e2
      refine ⟨_, _, _, _, _, e1, ?_, ?_⟩
      · rw [e2]
        congr 3
        refine mkF_upd hn _ ?_ (fun j hj => ⟨getD_set_ne hj _, rd_set_ne hj _, rfl⟩)
        rw [getD_set_self (by omega), rd_set_self (by omega), hq]
        rfl
      · refine ⟨hI.hq, hN, by rw [List.length_set]; exact hw, by rw [List.length_set]; exact hdl, hI.nd, fun x hx => ?_, fun m hm' => ?_, fun m hm' => ?_, fun m hm' hh => ?_, .inr ⟨rfl, by simp⟩⟩
        · obtain ⟨h1, h2, h3⟩ := hI.mem x hx
          refine ⟨h1, h2, ?_⟩
          by_cases e : x.toNat = n
          · rw [e, getD_set_self (by omega)]; exact List.length_pos_iff.2 hr
          · rw [getD_set_ne e]; exact h3
        · by_cases e : m = n
          · subst e
            rw [getD_set_self (by omega)]
            exact ⟨by have := hs.1; simp only [List.length_cons] at this; omega, fun x hx => hs.2 x (List.mem_cons_of_mem _ hx)⟩
          · rw [getD_set_ne e]; exact hI.sz m hm'
        · by_cases e : m = n
          · subst e; rw [rd_set_self (by omega)]; omega
          · rw [rd_set_ne e]; exact hI.d0 m hm'
        · by_cases e : m = n
          · subst e; exact absurd rfl hh
          · rw [rd_set_ne e]; exact hI.d1 m hm' hh
theorem fed_sim {qs : List Int} {ws : List (List Int)} {ds : List Int} {n : Nat} {t : List Int} {has : Int} (hI : Inv qs ws ds ((n : Int) :: t) has) :
    upd (mkF qs ws ds has) n fedUp = mkF qs ws (if has = (n : Int) then ds else ds.set n (rd ds (n : Int) + rd qs (n : Int))) (n : Int) ∧ Inv qs ws (if has = (n : Int) then ds else ds.set n (rd ds (n : Int) + rd qs (n : Int))) ((n : Int) :: t) (n : Int) := by
  have hm := hI.mem (n : Int) (by simp)
  rw [Int.toNat_natCast] at hm
  have hn : n < qs.length := by omega
  by_cases hh : has = (n : Int)
  · subst hh
    rw [if_pos rfl]
    refine ⟨?_, hI⟩
    refine mkF_upd hn _ ?_ (fun j _ => ⟨rfl, rfl, rfl⟩)
    simp [fedUp]
  · rw [if_neg hh]
    have h1 : has = -1 := by
      rcases hI.hh with h | ⟨h, _⟩
      · exact h
      · exact absurd h.symm hh
    have hd := hI.d0 n hn
    have hd1 := hI.d1 n hn hh
    have hq := hI.hq n hn
    have hdl := hI.hd
    refine ⟨?_, hI.hq, hI.hn, hI.hw, by rw [List.length_set]; exact hI.hd, hI.nd, hI.mem, hI.sz, fun m hm' => ?_, fun m hm' hne => ?_, .inr ⟨rfl, by simp⟩⟩
    · refine mkF_upd hn _ ?_ (fun j hj => ⟨rfl, rd_set_ne hj _, ?_⟩)
      · rw [rd_set_self (by omega)]
        have : (has == (n : Int)) = false := beq_eq_false_iff_ne.2 hh
        simp [fedUp, this]
      · rw [Bool.eq_iff_iff, beq_iff_eq, beq_iff_eq]
        omega
    · by_cases e : m = n
      · subst e; rw [rd_set_self (by omega)]; omega
      · rw [rd_set_ne e]; exact hI.d0 m hm'
    · by_cases e : m = n
      · subst e; exact absurd rfl hne
      · rw [rd_set_ne e]; exact hI.d1 m hm' (by omega)
/-- The head's turn ends: it stands last. -/
theorem turn_inv {qs : List Int} {ws : List (List Int)} {ds : List Int} {n : Nat} {t : List Int} (hI : Inv qs ws ds ((n : Int) :: t) (n : Int)) (hle : rd ds (n : Int) < rd (ws.getD n []) 0) :
    upd (mkF qs ws ds (n : Int)) n (fun z => { z with fed := false }) = mkF qs ws ds (-1) ∧ Inv qs ws ds (t ++ [(n : Int)]) (-1) ∧ rd ds (n : Int) ≤ 1499 := by
  have hm := hI.mem (n : Int) (by simp)
  rw [Int.toNat_natCast] at hm
  have hn : n < qs.length := by omega
  have hs := hI.sz n hn
  have hp : rd (ws.getD n []) 0 ≤ 1500 := by
    cases hq : ws.getD n [] with
    | nil => rw [hq] at hm; simp at hm
    | cons p r => rw [hq] at hs; exact (hs.2 p (by simp)).2
  have hnd := List.nodup_cons.1 hI.nd
  refine ⟨?_, ⟨hI.hq, hI.hn, hI.hw, hI.hd, ?_, fun x hx => hI.mem x (by simp at hx ⊢; rcases hx with h | h <;> simp [h]), hI.sz, hI.d0, fun m hm' _ => ?_, .inl rfl⟩, by omega⟩
  · refine mkF_upd hn _ ?_ (fun j hj => ⟨rfl, rfl, ?_⟩)
    · have : ((-1 : Int) == (n : Int)) = false := beq_eq_false_iff_ne.2 (by omega)
      rw [this]
    · rw [Bool.eq_iff_iff, beq_iff_eq, beq_iff_eq]
      omega
  · rw [List.nodup_append]
    refine ⟨hnd.2, by simp, fun a ha b hb e => ?_⟩
    simp only [List.mem_singleton] at hb
    subst hb e
    exact hnd.1 ha
  · by_cases e : m = n
    · subst e; omega
    · exact hI.d1 m hm' (by omega)
theorem turn_sim {qs : List Int} {ws : List (List Int)} : ∀ (m k : Nat) (ds : List Int) (n : Nat) (t : List Int) (has : Int), Inv qs ws ds ((n : Int) :: t) has → room ds + (if has = (n : Int) then 1 else 0) ≤ m → m < k →
    ∃ o ws3 ds3 rg3 has3, ((turnR k qs ws ds ((n : Int) :: t) has).bind fun r => sendR ws r.1 r.2.1 r.2.2) = some (o, ws3, ds3, rg3, has3) ∧ sendsL k (mkF qs ws ds has) ((n : Int) :: t) = some ((o.f0, o.f1, o.f2), mkF qs ws3 ds3 has3, rg3) ∧ Inv qs ws3 ds3 rg3 has3 := by
  intro m
  induction m using Nat.strongRecOn with
  | ind m ih =>
  intro k ds n t has hI hm hk
  obtain ⟨k, rfl⟩ : ∃ k', k = k' + 1 := ⟨k - 1, by omega⟩
  have hmm := hI.mem (n : Int) (by simp)
  rw [Int.toNat_natCast] at hmm
  have hn : n < qs.length := by omega
  have hs := hI.sz n hn
  have hd := hI.d0 n hn
  have hq := hI.hq n hn
  have hN := hI.hn
  have hw := hI.hw
  have hdl := hI.hd
  have hsh := hI.short
  have eh : rd ((n : Int) :: t) 0 = (n : Int) := rfl
  obtain ⟨f1, f2⟩ := fed_sim hI
  obtain ⟨dU, hdU⟩ : ∃ y, (if has = (n : Int) then ds else ds.set n (rd ds (n : Int) + rd qs (n : Int))) = y := ⟨_, rfl⟩
  rw [hdU] at f1 f2
  have hp : 1 ≤ rd (ws.getD n []) 0 ∧ rd (ws.getD n []) 0 ≤ 1500 := by
    cases hq : ws.getD n [] with
    | nil => rw [hq] at hmm; simp at hmm
    | cons p r => rw [hq] at hs; exact hs.2 p (by simp)
  have e1 : turnR (k + 1) qs ws ds ((n : Int) :: t) has = if rd (ws.getD n []) 0 ≤ rd dU (n : Int) then some (dU, (n : Int) :: t, (n : Int)) else turnR k qs ws dU (t ++ [(n : Int)]) (-1) := by
    rw [turnR, eh, Int.toNat_natCast, hdU]
    exact if_pos (by refine ⟨by simp, by omega, by omega, by omega, by omega, by omega, by omega, by omega, by omega, by omega, by omega, by omega⟩)
  have e2 : sendsL (k + 1) (mkF qs ws ds has) ((n : Int) :: t) = if rd (ws.getD n []) 0 ≤ rd dU (n : Int) then sentF (mkF qs ws dU (n : Int)) ((n : Int) :: t) n else sendsL k (upd (mkF qs ws dU (n : Int)) n (fun z => { z with fed := false })) (t ++ [(n : Int)]) := by
    rw [sendsL, eh, Int.toNat_natCast, f1]
    have e3 : (fedUp ((mkF qs ws ds has).getD n ⟨0, [], 0, false⟩)).d = rd dU (n : Int) := by
      have h1 := congrArg (fun l => (l.getD n ⟨0, [], 0, false⟩).d) f1
      rw [upd_getD (by rw [mkF_length]; exact hn), mkF_get (has := (n : Int)) hn] at h1
      exact h1
    have e4 : ((mkF qs ws ds has).getD n ⟨0, [], 0, false⟩).ws = ws.getD n [] := by rw [mkF_get hn]
    rw [e3, e4]
    exact if_pos (by
      rw [mkF_length, mkF_get hn]
      refine ⟨by simp, by omega, by omega, by omega, by omega, ?_⟩
      unfold okX
      dsimp only
      omega)
  by_cases hle : rd (ws.getD n []) 0 ≤ rd dU (n : Int)
  · rw [e1, e2, if_pos hle, if_pos hle]
    obtain ⟨o, ws3, ds3, rg3, has3, g1, g2, g3⟩ := sent_sim f2 hle
    exact ⟨o, ws3, ds3, rg3, has3, g1, g2, g3⟩
  · rw [e1, e2, if_neg hle, if_neg hle]
    obtain ⟨g1, g2, g3⟩ := turn_inv f2 (by omega)
    rw [g1]
    have hr : room dU + 1 ≤ m := by
      by_cases hh : has = (n : Int)
      · rw [if_pos hh] at hm hdU
        rw [← hdU]
        exact hm
      · rw [if_neg hh] at hm hdU
        have := room_set (ds := ds) (n := n) (x := rd ds (n : Int) + rd qs (n : Int)) (by omega) (by omega) (hI.d1 n hn hh)
        rw [hdU] at this
        omega
    cases t with
    | nil =>
      refine ih (m - 1) (by omega) k dU n [] (-1) g2 ?_ (by omega)
      rw [if_neg (by omega)]
      omega
    | cons y t' =>
      have hy := g2.mem y (by simp)
      obtain ⟨y', rfl⟩ := Int.eq_ofNat_of_zero_le hy.1
      refine ih (m - 1) (by omega) k dU y' (t' ++ [(n : Int)]) (-1) g2 ?_ (by omega)
      rw [if_neg (by omega)]
      omega
theorem room_le : ∀ {ds : List Int}, (∀ n : Nat, n < ds.length → 0 ≤ rd ds (n : Int)) → room ds ≤ 1500 * ds.length
  | [], _ => by simp [room]
  | a :: t, h => by
    have h0 := h 0 (by simp)
    have e0 : rd (a :: t) ((0 : Nat) : Int) = a := rfl
    rw [e0] at h0
    have := room_le (ds := t) (fun n hn => h (n + 1) (by simp; omega))
    simp only [room, List.map_cons, List.sum_cons, List.length_cons] at this ⊢
    omega
theorem add_inv {qs : List Int} {ws : List (List Int)} {ds rg : List Int} {has : Int} {n : Nat} {x : Int} (hI : Inv qs ws ds rg has) (hn : n < qs.length) (hl : (ws.getD n []).length < 40) (hx : 1 ≤ x ∧ x ≤ 1500) :
    upd (mkF qs ws ds has) n (fun z => { z with ws := z.ws ++ [x] }) = mkF qs (ws.set n (ws.getD n [] ++ [x])) ds has ∧ Inv qs (ws.set n (ws.getD n [] ++ [x])) ds (if (ws.getD n []).length = 0 then rg ++ [(n : Int)] else rg) has := by
  have hw := hI.hw
  refine ⟨?_, hI.hq, hI.hn, by rw [List.length_set]; exact hw, hI.hd, ?_, fun y hy => ?_, fun m hm => ?_, hI.d0, hI.d1, ?_⟩
  · refine mkF_upd hn _ ?_ (fun j hj => ⟨getD_set_ne hj _, rfl, rfl⟩)
    rw [getD_set_self (by omega)]
  · by_cases e : (ws.getD n []).length = 0
    · rw [if_pos e, List.nodup_append]
      refine ⟨hI.nd, by simp, fun a ha b hb e2 => ?_⟩
      simp only [List.mem_singleton] at hb
      subst hb e2
      have := (hI.mem _ ha).2.2
      rw [Int.toNat_natCast] at this
      omega
    · rw [if_neg e]; exact hI.nd
  · have h1 : y ∈ rg ∨ y = (n : Int) := by
      split at hy
      · simpa using hy
      · exact .inl hy
    by_cases e : y.toNat = n
    · rw [e, getD_set_self (by omega)]
      refine ⟨?_, ?_, by simp⟩
      · rcases h1 with h | h
        · exact (hI.mem y h).1
        · omega
      · rcases h1 with h | h
        · exact (hI.mem y h).2.1
        · omega
    · rcases h1 with h | h
      · rw [getD_set_ne e]; exact hI.mem y h
      · omega
  · by_cases e : m = n
    · subst e
      rw [getD_set_self (by omega)]
      refine ⟨by rw [List.length_append, List.length_singleton]; omega, fun z hz => ?_⟩
      rcases List.mem_append.1 hz with h | h
      · exact (hI.sz m hm).2 z h
      · simp only [List.mem_singleton] at h; subst h; exact hx
    · rw [getD_set_ne e]; exact hI.sz m hm
  · rcases hI.hh with h | ⟨h1, h2⟩
    · exact .inl h
    · refine .inr ?_
      split
      · cases rg with
        | nil => simp at h2
        | cons a b => exact ⟨h1, by simp⟩
      · exact ⟨h1, h2⟩
theorem play_sim {qs : List Int} (k : Nat) (hk : 9001 < k) : ∀ (l : List S35) (ws : List (List Int)) (ds rg : List Int) (has : Int) (o : List S29), Inv qs ws ds rg has →
    ∃ O, playL k l (mkF qs ws ds has) rg o = some O ∧ refL k qs l ws ds rg has o = some O ∧ O.length = o.length + l.length
  | [], ws, ds, rg, has, o, _ => ⟨o, rfl, rfl, by simp⟩
  | x :: t, ws, ds, rg, has, o, hI => by
    rw [playL, refL]
    have hsh := hI.short
    have hN := hI.hn
    have hl : ∀ (a : S29), (o ++ [a]).length + t.length = o.length + (x :: t).length := fun a => by simp; omega
    by_cases hpos : 0 < x.f1
    · rw [if_pos hpos, if_neg (show ¬ x.f1 < 0 by omega), if_pos hpos]
      unfold comesF
      rw [mkF_length]
      by_cases hout : x.f0 < 0 ∨ (qs.length : Int) ≤ x.f0 ∨ 1500 < x.f1
      · rw [if_pos hout, if_pos hout]
        obtain ⟨O, h1, h2, h3⟩ := play_sim k hk t ws ds rg has (o ++ [⟨2, 0, 0⟩]) hI
        exact ⟨O, h1, h2, by rw [h3, hl]⟩
      · rw [if_neg hout, if_neg hout]
        obtain ⟨n, hn⟩ := Int.eq_ofNat_of_zero_le (show 0 ≤ x.f0 by omega)
        rw [hn, Int.toNat_natCast]
        have hnq : n < qs.length := by omega
        have hs := (hI.sz n hnq).1
        rw [mkF_get hnq]
        dsimp only
        rw [if_pos (show qs.length < 1000 ∧ rg.length < 1000000 ∧ (ws.getD n []).length < 1000000 by omega)]
        by_cases hf : (ws.getD n []).length = 40
        · rw [if_pos hf, if_pos (show 40 ≤ (ws.getD n []).length by omega)]
          obtain ⟨O, h1, h2, h3⟩ := play_sim k hk t ws ds rg has (o ++ [⟨9, 0, 0⟩]) hI
          exact ⟨O, h1, h2, by rw [h3, hl]⟩
        · rw [if_neg hf, if_neg (show ¬ 40 ≤ (ws.getD n []).length by omega), if_pos (show rg.length < 1000 by omega)]
          obtain ⟨g1, g2⟩ := add_inv (x := x.f1) hI hnq (by omega) (by omega)
          obtain ⟨O, h1, h2, h3⟩ := play_sim k hk t _ ds _ has (o ++ [⟨0, 0, 0⟩]) g2
          rw [Option.bind_some]
          dsimp only
          rw [g1]
          exact ⟨O, h1, h2, by rw [h3, hl]⟩
    · rw [if_neg hpos]
      by_cases hneg : x.f1 < 0
      · rw [if_pos hneg, if_pos hneg]
        obtain ⟨O, h1, h2, h3⟩ := play_sim k hk t ws ds rg has (o ++ [⟨2, 0, 0⟩]) hI
        exact ⟨O, h1, h2, by rw [h3, hl]⟩
      · rw [if_neg hneg, if_neg hneg, if_neg hpos]
        unfold sendsF
        by_cases h0 : rg.length = 0
        · rw [if_pos h0, if_pos h0]
          obtain ⟨O, h1, h2, h3⟩ := play_sim k hk t ws ds rg has (o ++ [⟨7, 0, 0⟩]) hI
          exact ⟨O, h1, h2, by rw [h3, hl]⟩
        · rw [if_neg h0, if_neg h0]
          cases rg with
          | nil => exact absurd rfl h0
          | cons y t' =>
            have hy := hI.mem y (by simp)
            obtain ⟨n, rfl⟩ := Int.eq_ofNat_of_zero_le hy.1
            have hr := room_le (ds := ds) (fun m hm => (hI.d0 m (by have := hI.hd; omega)).1)
            obtain ⟨s, ws3, ds3, rg3, has3, e1, e2, e3⟩ := turn_sim 9001 k ds n t' has hI (by have := hI.hd; split <;> omega) hk
            rw [e2, Option.bind_some]
            dsimp only
            obtain ⟨O, h1, h2, h3⟩ := play_sim k hk t ws3 ds3 rg3 has3 (o ++ [s]) e3
            obtain ⟨r, hr1, hr2⟩ := Option.bind_eq_some_iff.1 e1
            rw [hr1, Option.bind_some, hr2, Option.bind_some]
            exact ⟨O, h1, h2, by rw [h3, hl]⟩
theorem cmp (o : List S29) (ho : o.length ≤ 1000) : ∀ (m i k : Nat), o.length - i = m → i ≤ o.length → m < k → packthreadlaw_FairPlays.l0 k o o (i : Int) = some true := by
  intro m
  induction m with
  | zero =>
    intro i k h1 h2 h3
    obtain ⟨k, rfl⟩ : ∃ k', k = k' + 1 := ⟨k - 1, by omega⟩
    rw [packthreadlaw_FairPlays.l0, if_neg (by omega)]
  | succ m ih =>
    intro i k h1 h2 h3
    obtain ⟨k, rfl⟩ : ∃ k', k = k' + 1 := ⟨k - 1, by omega⟩
    rw [packthreadlaw_FairPlays.l0, if_pos (by omega), if_pos (by omega), if_pos (by omega), if_neg (by simp), w64 (by omega) (by omega)]
    exact ih (i + 1) k (by omega) (by omega) (by omega)
theorem law_ok (k : Nat) (o : List S29) (ho : o.length ≤ 1000) (hk : 1002 < k) (r : Int) : (if (o.length : Int) = (o.length : Int) then (packthreadlaw_FairPlays.j0 k o o (r != r)) else (packthreadlaw_FairPlays.j0 k o o true)) = some true := by
  rw [if_pos rfl]
  obtain ⟨k, rfl⟩ : ∃ k', k = k' + 1 := ⟨k - 1, by omega⟩
  rw [packthreadlaw_FairPlays.j0, if_neg (by simp)]
  exact cmp o ho o.length 0 k (by omega) (by omega) (by omega)
theorem FairPlays (l0 : List Int) (l1 : List S35) {P Q : Prop} (_ : P) (_ : Q) : ∃ k, packthreadlaw_FairPlays.f k l0 l1 = some true := by
  refine ⟨20000, ?_⟩
  unfold packthreadlaw_FairPlays.f fair_Play.f packthreadref_FairPlayed.f
  by_cases h1 : l0.length < 1 ∨ 6 < l0.length ∨ 300 < l1.length
  · rw [if_pos h1, if_pos (show l0.length = 0 ∨ 6 < l0.length ∨ 300 < l1.length by omega)]
    exact law_ok 20000 [] (by simp) (by omega) 1
  rw [if_neg h1, if_neg (show ¬ (l0.length = 0 ∨ 6 < l0.length ∨ 300 < l1.length) by omega)]
  by_cases h2 : l0.any badQ = true
  · rw [if_pos h2, if_pos h2]
    exact law_ok 20000 [] (by simp) (by omega) 2
  rw [if_neg h2, if_neg h2]
  have hinv : Inv l0 (List.replicate l0.length []) (List.replicate l0.length 0) [] (-1) := by
    have hrep : ∀ n : Nat, n < l0.length → rd (List.replicate l0.length (0 : Int)) (n : Int) = 0 := fun n hn => by
      unfold rd; rw [Int.toNat_natCast, List.getD_eq_getElem?_getD, List.getElem?_eq_getElem (by simpa using hn)]; simp
    have hrw : ∀ n : Nat, n < l0.length → (List.replicate l0.length ([] : List Int)).getD n [] = [] := fun n hn => by
      rw [List.getD_eq_getElem?_getD, List.getElem?_eq_getElem (by simpa using hn)]; simp
    refine ⟨fun n hn => ?_, by omega, by simp, by simp, List.nodup_nil, by simp, fun n hn => by rw [hrw n hn]; simp, fun n hn => by rw [hrep n hn]; omega, fun n hn _ => by rw [hrep n hn]; omega, .inl rfl⟩
    have e : rd l0 (n : Int) = l0[n] := by unfold rd; rw [Int.toNat_natCast, List.getD_eq_getElem?_getD, List.getElem?_eq_getElem hn]; rfl
    rw [e]
    have h3 : badQ l0[n] = false := by
      cases hb : badQ l0[n] with
      | false => rfl
      | true => exact absurd (List.any_eq_true.2 ⟨l0[n], List.getElem_mem hn, hb⟩) h2
    unfold badQ at h3
    simp only [Bool.or_eq_false_iff, decide_eq_false_iff_not] at h3
    omega
  have hmk : l0.map newFl = mkF l0 (List.replicate l0.length []) (List.replicate l0.length 0) (-1) := by
    apply List.ext_getElem
    · simp [mkF]
    · intro n h3 h4
      have hn : n < l0.length := by simpa using h3
      have hb : ((-1 : Int) == (n : Int)) = false := beq_eq_false_iff_ne.2 (by omega)
      simp [mkF, newFl, rd, hn, hb]
  obtain ⟨O, g1, g2, g3⟩ := play_sim (qs := l0) 20000 (by omega) l1 _ _ [] (-1) [] hinv
  rw [hmk, g1, g2]
  exact law_ok 20000 O (by rw [g3]; simp; omega) (by omega) 0
end Go.Proofs.Ytnbpkibefgahlaa.Pure
