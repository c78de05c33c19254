/- What a fair line sends, shaped by a bucket, is within the bound, at every quanta, feeds, rate and burst; no further condition. -/
import Derived.Test.YtnbpkibefgahlaaHTopShapedx
import Derived.Test.YtnbpkibefgahlaaHelp
namespace Go.Proofs.Ytnbpkibefgahlaa.Pure
open Go.RowKit Go.Proofs.Ytnbpkibefgahlaa.HTopShaped Go.Proofs.YtnbpkibefgahlaaW.PrintWords Go.Proofs.YtnbpkibefgahlaaW.PrintLast Go.Proofs.YtnbpkibefgahlaaW.PrintMore Go.Proofs.Ytnbpkibefgahlaa.Help
set_option linter.unusedSimpArgs false
set_option linter.unusedVariables false

theorem w64 {x : Int} (h : -9223372036854775808 ≤ x) (h' : x ≤ 9223372036854775807) : wrap64 x = x := by unfold wrap64; omega
/-! ### Picked numbers -/
theorem picked (a n : Int) (h : 0 < n) (h' : n ≤ 1000000) : ∃ p, packthreadkeep_Picked.f a n = some p ∧ 0 ≤ p ∧ p < n := by
  unfold packthreadkeep_Picked.f
  rw [if_neg (by omega)]
  have h1 := Int.tmod_lt_of_pos a h
  have h2 := Int.lt_tmod_of_pos a h
  by_cases c : Int.tmod a n < 0
  · rw [if_pos c]
    exact ⟨_, rfl, by rw [w64 (by omega) (by omega)]; omega, by rw [w64 (by omega) (by omega)]; omega⟩
  · rw [if_neg c]
    exact ⟨_, rfl, by omega, h1⟩
theorem feeds_l (l : List Int) : ∀ (d k i : Nat) (out : List S35), 150 - i = d → out.length = i → i ≤ 150 → 2 * d + 1 < k →
    ∃ fs, packthreadkeep_Feeds.l0 k l 150 out (i : Int) = some fs ∧ fs.length ≤ 150 := by
  intro d
  induction d with
  | zero =>
    intro k i out hd ho hi hk
    obtain ⟨k, rfl⟩ : ∃ m, k = m + 1 + 1 := ⟨k - 2, by omega⟩
    have hf : (decide ((i : Int) < 150)) = false := decide_eq_false (by omega)
    rw [packthreadkeep_Feeds.l0, hf]
    by_cases c : (i : Int) < (l.length : Int)
    · rw [if_pos c, packthreadkeep_Feeds.j1, if_neg (by simp)]
      exact ⟨_, rfl, by omega⟩
    · rw [if_neg c, packthreadkeep_Feeds.j1, if_neg (by simp)]
      exact ⟨_, rfl, by omega⟩
  | succ d ih =>
    intro k i out hd ho hi hk
    obtain ⟨k, rfl⟩ : ∃ m, k = m + 1 + 1 := ⟨k - 2, by omega⟩
    rw [packthreadkeep_Feeds.l0]
    by_cases c : (i : Int) < (l.length : Int)
    · rw [if_pos c, packthreadkeep_Feeds.j1, if_pos (decide_eq_true (by omega)), if_pos (by omega), if_pos c]
      obtain ⟨p, hp, hp0, hp1⟩ := picked (rd l (i : Int)) 7 (by omega) (by omega)
      obtain ⟨q, hq, hq0, hq1⟩ := picked (wrap64 (Int.tdiv (rd l (i : Int)) 7)) 3 (by omega) (by omega)
      obtain ⟨s, hs, hs0, hs1⟩ := picked (wrap64 (Int.tdiv (rd l (i : Int)) 21)) 150 (by omega) (by omega)
      rw [hp, hq, hs]
      simp only [Option.bind_some]
      have e : wrap64 ((i : Int) + 1) = ((i + 1 : Nat) : Int) := by rw [w64 (by omega) (by omega)]; omega
      rw [e]
      by_cases c4 : p < 4
      · rw [if_pos c4, if_pos (by omega)]
        exact ih k (i + 1) _ (by omega) (by simp; omega) (by omega) (by omega)
      · rw [if_neg c4, if_pos (by omega)]
        exact ih k (i + 1) _ (by omega) (by simp; omega) (by omega) (by omega)
    · rw [if_neg c, packthreadkeep_Feeds.j1, if_neg (by simp)]
      exact ⟨_, rfl, by omega⟩
theorem quanta_l (l : List Int) : ∀ (d k i : Nat) (q : List Int), 3 - i = d → i ≤ 3 → d < k → q.length = 3 → (∀ x ∈ q, 1 ≤ x ∧ x ≤ 1500) →
    ∃ r, packthreadkeep_Quanta.l0 k l q (i : Int) = some r ∧ r.length = 3 ∧ ∀ x ∈ r, 1 ≤ x ∧ x ≤ 1500 := by
  intro d
  induction d with
  | zero =>
    intro k i q hd hi hk hq hb
    obtain ⟨k, rfl⟩ : ∃ m, k = m + 1 := ⟨k - 1, by omega⟩
    rw [packthreadkeep_Quanta.l0, if_neg (by omega)]
    exact ⟨_, rfl, hq, hb⟩
  | succ d ih =>
    intro k i q hd hi hk hq hb
    obtain ⟨k, rfl⟩ : ∃ m, k = m + 1 := ⟨k - 1, by omega⟩
    rw [packthreadkeep_Quanta.l0, if_pos (by omega)]
    by_cases c : (i : Int) < (l.length : Int)
    · rw [if_pos c, if_pos (by omega)]
      obtain ⟨p, hp, hp0, hp1⟩ := picked (rd l (i : Int)) 200 (by omega) (by omega)
      rw [hp]
      simp only [Option.bind_some]
      have e : wrap64 ((i : Int) + 1) = ((i + 1 : Nat) : Int) := by rw [w64 (by omega) (by omega)]; omega
      rw [e, if_pos (by omega)]
      refine ih k (i + 1) _ (by omega) (by omega) (by omega) (by rw [List.length_set]; exact hq) (fun x hx => ?_)
      rcases List.mem_or_eq_of_mem_set hx with h | h
      · exact hb x h
      · rw [h, w64 (by omega) (by omega)]; omega
    · rw [if_neg c]
      exact ⟨_, rfl, hq, hb⟩
/-! ### The line -/
theorem nodup_short : ∀ (N : Nat) {l : List Int}, l.Nodup → (∀ x ∈ l, 0 ≤ x ∧ x < (N : Int)) → l.length ≤ N
  | 0, l, _, hm => by
    cases l with
    | nil => simp
    | cons x t => have := hm x (by simp); omega
  | N + 1, l, hn, hm => by
    by_cases h : (N : Int) ∈ l
    · have h1 := nodup_short N (l := l.erase (N : Int)) (hn.erase _) (fun x hx => by
        obtain ⟨h2, h3⟩ := (List.Nodup.mem_erase_iff hn).1 hx
        have := hm x h3
        omega)
      rw [List.length_erase_of_mem h] at h1
      omega
    · have h1 := nodup_short N hn (fun x hx => by
        have := hm x hx
        have : x ≠ (N : Int) := fun e => h (e ▸ hx)
        omega)
      omega
def zf : Fl := ⟨0, [], 0, false⟩
/-- What one flow keeps. -/
structure G (z : Fl) : Prop where
  q : 1 ≤ z.q ∧ z.q ≤ 1500
  l : z.ws.length ≤ 40
  s : ∀ x ∈ z.ws, 1 ≤ x ∧ x ≤ 1500
  d : 0 ≤ z.d ∧ z.d ≤ 2999
  u : z.fed = false → z.d ≤ 1499
/-- What the line keeps. -/
structure Inv (fs : List Fl) (tn : List Int) : Prop where
  n : 1 ≤ fs.length ∧ fs.length ≤ 6
  g : ∀ z ∈ fs, G z
  nd : tn.Nodup
  mem : ∀ x ∈ tn, 0 ≤ x ∧ x < (fs.length : Int) ∧ 0 < (fs.getD x.toNat zf).ws.length
theorem Inv.short {fs : List Fl} {tn : List Int} (h : Inv fs tn) : tn.length ≤ 6 := by
  have := nodup_short fs.length h.nd (fun x hx => ⟨(h.mem x hx).1, (h.mem x hx).2.1⟩)
  have := h.n
  omega
theorem upd_len (fs : List Fl) (n : Nat) (F : Fl → Fl) : (upd fs n F).length = fs.length := by unfold upd; exact List.length_set
theorem upd_mem {fs : List Fl} {n : Nat} {F : Fl → Fl} {z : Fl} (h : z ∈ upd fs n F) : z ∈ fs ∨ z = F (fs.getD n zf) := List.mem_or_eq_of_mem_set h
theorem upd_self {fs : List Fl} {n : Nat} (h : n < fs.length) (F : Fl → Fl) : (upd fs n F).getD n zf = F (fs.getD n zf) := by
  unfold upd; rw [List.getD_eq_getElem?_getD, List.getElem?_set_self h]; rfl
theorem upd_ne {fs : List Fl} {n j : Nat} (h : j ≠ n) (F : Fl → Fl) : (upd fs n F).getD j zf = fs.getD j zf := by
  unfold upd; rw [List.getD_eq_getElem?_getD, List.getElem?_set_ne (fun e => h e.symm), ← List.getD_eq_getElem?_getD]
theorem getD_mem {fs : List Fl} {n : Nat} (h : n < fs.length) : fs.getD n zf ∈ fs := by
  rw [List.getD_eq_getElem?_getD, List.getElem?_eq_getElem h]; exact List.getElem_mem h
theorem rd_mem {ws : List Int} (h : 0 < ws.length) : rd ws 0 ∈ ws := by
  cases ws with
  | nil => simp at h
  | cons a t => exact List.mem_cons_self
/-- How many more rounds may pass before something is sent. -/
def cost (z : Fl) : Nat := (1500 - z.d).toNat + if z.fed = true then 1 else 0
def room (fs : List Fl) : Nat := (fs.map cost).sum
theorem room_upd {fs : List Fl} {n : Nat} (h : n < fs.length) (F : Fl → Fl) (hc : cost (F (fs.getD n zf)) < cost (fs.getD n zf)) : room (upd fs n F) < room fs := by
  unfold upd
  induction fs generalizing n with
  | nil => simp at h
  | cons a t ih =>
    cases n with
    | zero => 
      simp only [List.getD_cons_zero] at hc
      simp only [room, List.getD_cons_zero, List.set_cons_zero, List.map_cons, List.sum_cons]
      change cost (F a) + _ < _
      omega
    | succ m =>
      have := ih (n := m) (by simpa using h) (by simpa using hc)
      simp only [room, List.getD_cons_succ, List.set_cons_succ, List.map_cons, List.sum_cons] at this ⊢
      exact Nat.add_lt_add_left this _
theorem room_le {fs : List Fl} (h : ∀ z ∈ fs, G z) : room fs ≤ 1501 * fs.length := by
  induction fs with
  | nil => simp [room]
  | cons a t ih =>
    have h1 := ih (fun z hz => h z (List.mem_cons_of_mem _ hz))
    have h2 := (h a List.mem_cons_self).d
    simp only [room, List.map_cons, List.sum_cons, List.length_cons] at h1 ⊢
    have : cost a ≤ 1501 := by unfold cost; split <;> omega
    omega
theorem sent_ok {fs : List Fl} {n : Nat} {t : List Int} (hI : Inv fs ((n : Int) :: t)) (hn : n < fs.length) (hle : rd (fs.getD n zf).ws 0 ≤ (fs.getD n zf).d) :
    ∃ s fs' tn', sentF fs ((n : Int) :: t) n = some ((0, (n : Int), s), fs', tn') ∧ Inv fs' tn' ∧ 1 ≤ s ∧ s ≤ 1500 := by
  have hm := hI.mem (n : Int) (by simp)
  rw [Int.toNat_natCast] at hm
  have hG := hI.g _ (getD_mem hn)
  have hs := hG.s _ (rd_mem hm.2.2)
  have hnd := List.nodup_cons.1 hI.nd
  have hN := hI.n
  have hd := hG.d
  have hl := hG.l
  have e : sentF fs ((n : Int) :: t) n = if (fs.getD n zf).ws.length = 1 then some ((0, (n : Int), rd (fs.getD n zf).ws 0), upd fs n (fun z => { z with ws := [], d := 0, fed := false }), t) else some ((0, (n : Int), rd (fs.getD n zf).ws 0), upd fs n (fun z => { z with ws := z.ws.drop 1, d := z.d - rd (fs.getD n zf).ws 0 }), (n : Int) :: t) := by
    unfold sentF
    exact if_pos ⟨hn, by simp, hm.2.2, by omega, by change -1000000 ≤ (fs.getD n zf).d; omega, by change (fs.getD n zf).d ≤ 1000000; omega, by change -1000000 ≤ rd (fs.getD n zf).ws 0; omega, by change rd (fs.getD n zf).ws 0 ≤ 1000000; omega⟩
  by_cases c : (fs.getD n zf).ws.length = 1
  · rw [if_pos c] at e
    refine ⟨_, _, _, e, ⟨by rw [upd_len]; exact hN, fun z hz => ?_, hnd.2, fun x hx => ?_⟩, hs⟩
    · rcases upd_mem hz with h | rfl
      · exact hI.g z h
      · exact ⟨hG.q, by simp, by simp, by simp, fun _ => by simp⟩
    · have h := hI.mem x (List.mem_cons_of_mem _ hx)
      have hne : x ≠ (n : Int) := fun e => hnd.1 (e ▸ hx)
      rw [upd_len, upd_ne (by omega)]
      exact h
  · rw [if_neg c] at e
    refine ⟨_, _, _, e, ⟨by rw [upd_len]; exact hN, fun z hz => ?_, hI.nd, fun x hx => ?_⟩, hs⟩
    · rcases upd_mem hz with h | rfl
      · exact hI.g z h
      · refine ⟨hG.q, by simp only [List.length_drop]; omega, fun x hx => hG.s x (List.mem_of_mem_drop hx), by dsimp only; omega, fun hf => ?_⟩
        have := hG.u hf
        dsimp only
        omega
    · have h := hI.mem x hx
      rw [upd_len]
      by_cases ex : x.toNat = n
      · rw [ex, upd_self hn]
        refine ⟨h.1, h.2.1, ?_⟩
        simp only [List.length_drop]
        omega
      · rw [upd_ne ex]
        exact h
theorem fed_G {z : Fl} (h : G z) : G (fedUp z) := by
  unfold fedUp
  by_cases c : z.fed = true
  · rw [if_pos c]; exact h
  · rw [if_neg c]
    have h1 := h.u (by simpa using c)
    have h2 := h.q
    have h3 := h.d
    exact ⟨h.q, h.l, h.s, by dsimp only; omega, by simp⟩
theorem fed_ws (z : Fl) : (fedUp z).ws = z.ws := by unfold fedUp; split <;> rfl
theorem fed_Inv {fs : List Fl} {tn : List Int} {n : Nat} (hI : Inv fs tn) (hn : n < fs.length) : Inv (upd fs n fedUp) tn := by
  refine ⟨by rw [upd_len]; exact hI.n, fun z hz => ?_, hI.nd, fun x hx => ?_⟩
  · rcases upd_mem hz with h | rfl
    · exact hI.g z h
    · exact fed_G (hI.g _ (getD_mem hn))
  · have h := hI.mem x hx
    rw [upd_len]
    by_cases ex : x.toNat = n
    · rw [ex, upd_self hn, fed_ws]
      rw [ex] at h
      exact h
    · rw [upd_ne ex]; exact h
theorem sends_ok : ∀ (m k : Nat) (fs : List Fl) (tn : List Int), Inv fs tn → 0 < tn.length → room fs ≤ m → m < k →
    ∃ a s fs' tn', sendsL k fs tn = some ((0, a, s), fs', tn') ∧ Inv fs' tn' ∧ 1 ≤ s ∧ s ≤ 1500 := by
  intro m
  induction m with
  | zero =>
    intro k fs tn hI ht hr hk
    obtain ⟨k, rfl⟩ : ∃ j, k = j + 1 := ⟨k - 1, by omega⟩
    cases tn with
    | nil => simp at ht
    | cons y t =>
      obtain ⟨n, rfl⟩ := Int.eq_ofNat_of_zero_le (hI.mem y (by simp)).1
      have hm := hI.mem (n : Int) (by simp)
      rw [Int.toNat_natCast] at hm
      have hn : n < fs.length := by omega
      have hG := hI.g _ (getD_mem hn)
      have hG' := fed_G hG
      have hs := hG.s _ (rd_mem hm.2.2)
      have hsh := hI.short
      have hN := hI.n
      have hq := hG.q
      have hd := hG.d
      have e0 : rd ((n : Int) :: t) 0 = (n : Int) := rfl
      rw [sendsL, e0, Int.toNat_natCast]
      rw [if_pos ⟨by simp, by omega, by omega, by omega, by omega, hm.2.2, by change -1000000 ≤ (fs.getD n zf).d; omega, by change (fs.getD n zf).d ≤ 1000000; omega, by change -1000000 ≤ (fs.getD n zf).q; omega, by change (fs.getD n zf).q ≤ 1000000; omega, by change -1000000 ≤ rd (fs.getD n zf).ws 0; omega, by change rd (fs.getD n zf).ws 0 ≤ 1000000; omega⟩]
      have hz : 1500 ≤ (fs.getD n zf).d := by
        rcases Int.lt_or_le (fs.getD n zf).d 1500 with h | h
        · exfalso
          have h0 : 0 < cost (fs.getD n zf) := by unfold cost; split <;> omega
          have := room_upd hn (fun _ => ⟨0, [], 1500, false⟩) h0
          omega
        · exact h
      have hle : rd (fs.getD n zf).ws 0 ≤ (fedUp (fs.getD n zf)).d := by
        unfold fedUp; split <;> (try dsimp only) <;> omega
      rw [if_pos (show rd (fs.getD n ⟨0, [], 0, false⟩).ws 0 ≤ (fedUp (fs.getD n ⟨0, [], 0, false⟩)).d from hle)]
      obtain ⟨s, fs', tn', h1, h2, h3⟩ := sent_ok (fed_Inv hI hn) (by rw [upd_len]; exact hn) (by rw [upd_self hn, fed_ws]; exact hle)
      exact ⟨_, s, fs', tn', h1, h2, h3⟩
  | succ m ih =>
    intro k fs tn hI ht hr hk
    obtain ⟨k, rfl⟩ : ∃ j, k = j + 1 := ⟨k - 1, by omega⟩
    cases tn with
    | nil => simp at ht
    | cons y t =>
      obtain ⟨n, rfl⟩ := Int.eq_ofNat_of_zero_le (hI.mem y (by simp)).1
      have hm := hI.mem (n : Int) (by simp)
      rw [Int.toNat_natCast] at hm
      have hn : n < fs.length := by omega
      have hG := hI.g _ (getD_mem hn)
      have hG' := fed_G hG
      have hs := hG.s _ (rd_mem hm.2.2)
      have hsh := hI.short
      have hN := hI.n
      have hq := hG.q
      have hd := hG.d
      have e0 : rd ((n : Int) :: t) 0 = (n : Int) := rfl
      rw [sendsL, e0, Int.toNat_natCast]
      rw [if_pos ⟨by simp, by omega, by omega, by omega, by omega, hm.2.2, by change -1000000 ≤ (fs.getD n zf).d; omega, by change (fs.getD n zf).d ≤ 1000000; omega, by change -1000000 ≤ (fs.getD n zf).q; omega, by change (fs.getD n zf).q ≤ 1000000; omega, by change -1000000 ≤ rd (fs.getD n zf).ws 0; omega, by change rd (fs.getD n zf).ws 0 ≤ 1000000; omega⟩]
      have hF := fed_Inv hI hn
      by_cases hle : rd (fs.getD n zf).ws 0 ≤ (fedUp (fs.getD n zf)).d
      · rw [if_pos (show rd (fs.getD n ⟨0, [], 0, false⟩).ws 0 ≤ (fedUp (fs.getD n ⟨0, [], 0, false⟩)).d from hle)]
        obtain ⟨s, fs', tn', h1, h2, h3⟩ := sent_ok hF (by rw [upd_len]; exact hn) (by rw [upd_self hn, fed_ws]; exact hle)
        exact ⟨_, s, fs', tn', h1, h2, h3⟩
      · rw [if_neg (show ¬ rd (fs.getD n ⟨0, [], 0, false⟩).ws 0 ≤ (fedUp (fs.getD n ⟨0, [], 0, false⟩)).d from hle)]
        have hn' : n < (upd fs n fedUp).length := by rw [upd_len]; exact hn
        have hnd := List.nodup_cons.1 hI.nd
        have ed : List.drop 1 ((n : Int) :: t) = t := rfl
        rw [ed]
        refine ih k _ _ ⟨by rw [upd_len, upd_len]; exact hN, fun z hz => ?_, ?_, fun x hx => ?_⟩ (by simp) ?_ (by omega)
        · rcases upd_mem hz with h | rfl
          · exact hF.g z h
          · rw [upd_self hn]
            refine ⟨hG'.q, hG'.l, hG'.s, hG'.d, fun _ => ?_⟩
            dsimp only
            omega
        · refine List.nodup_append.2 ⟨hnd.2, by simp, fun a ha b hb => ?_⟩
          rw [List.mem_singleton] at hb
          subst hb
          exact fun e => hnd.1 (e ▸ ha)
        · have hx' : x ∈ (n : Int) :: t := by
            rcases List.mem_append.1 hx with h | h
            · exact List.mem_cons_of_mem _ h
            · rw [List.mem_singleton] at h; subst h; exact List.mem_cons_self
          have h := hF.mem x hx'
          rw [upd_len]
          by_cases ex : x.toNat = n
          · rw [ex, upd_self hn']
            rw [ex] at h
            exact h
          · rw [upd_ne ex]; exact h
        · have : room (upd (upd fs n fedUp) n (fun z => { z with fed := false })) < room fs := by
            have e2 : upd (upd fs n fedUp) n (fun z => { z with fed := false }) = upd fs n (fun z => { fedUp z with fed := false }) := by
              change (upd fs n fedUp).set n ((fun z => { z with fed := false }) ((upd fs n fedUp).getD n zf)) = _
              rw [upd_self hn]
              unfold upd
              rw [List.set_set]
              rfl
            rw [e2]
            refine room_upd hn _ ?_
            unfold cost fedUp
            unfold fedUp at hle
            by_cases c : (fs.getD n zf).fed = true
            · rw [if_pos c] at hle ⊢
              rw [if_pos c, if_neg (by simp)]
              dsimp only
              omega
            · rw [if_neg c] at hle ⊢
              rw [if_neg c, if_neg (by simp)]
              dsimp only at hle ⊢
              omega
          omega
/-- What is told of feeds and of what they came to. -/
def Told : List S35 → List S29 → Prop
  | [], [] => True
  | x :: t, y :: u => (x.f1 = 0 → y.f0 = 0 → 1 ≤ y.f2 ∧ y.f2 ≤ 1500) ∧ Told t u
  | _, _ => False
theorem Told.len : ∀ {a : List S35} {b : List S29}, Told a b → b.length = a.length
  | [], [], _ => rfl
  | [], _ :: _, h => h.elim
  | _ :: _, [], h => h.elim
  | _ :: t, _ :: u, h => by simp [Told.len h.2]
theorem play_ok (k : Nat) (hk : 9006 < k) : ∀ (l : List S35) (fs : List Fl) (tn : List Int) (o : List S29), Inv fs tn → ∃ O, playL k l fs tn o = some (o ++ O) ∧ Told l O
  | [], fs, tn, o, _ => ⟨[], by rw [playL, List.append_nil], trivial⟩
  | x :: t, fs, tn, o, hI => by
    rw [playL]
    have hsh := hI.short
    have hN := hI.n
    by_cases hpos : 0 < x.f1
    · rw [if_pos hpos]
      have hc : ∃ r, comesF fs tn x.f0 x.f1 = some r ∧ Inv r.2.1 r.2.2 := by
        unfold comesF
        by_cases hout : x.f0 < 0 ∨ (fs.length : Int) ≤ x.f0 ∨ 1500 < x.f1
        · rw [if_pos hout]; exact ⟨_, rfl, hI⟩
        · rw [if_neg hout]
          obtain ⟨n, hn⟩ := Int.eq_ofNat_of_zero_le (show 0 ≤ x.f0 by omega)
          rw [hn, Int.toNat_natCast]
          have hnq : n < fs.length := by omega
          have hG := hI.g _ (getD_mem hnq)
          have hl := hG.l
          rw [if_pos ⟨by omega, by omega, by change (fs.getD n zf).ws.length < 1000000; omega⟩]
          by_cases hf : (fs.getD n zf).ws.length = 40
          · rw [if_pos (show (fs.getD n ⟨0, [], 0, false⟩).ws.length = 40 from hf)]; exact ⟨_, rfl, hI⟩
          · rw [if_neg (show ¬ (fs.getD n ⟨0, [], 0, false⟩).ws.length = 40 from hf)]
            refine ⟨_, rfl, by dsimp only; rw [upd_len]; exact hN, fun z hz => ?_, ?_, fun y hy => ?_⟩
            · dsimp only at hz
              rcases upd_mem hz with h | rfl
              · exact hI.g z h
              · refine ⟨hG.q, by simp only [List.length_append, List.length_cons, List.length_nil]; omega, fun y hy => ?_, hG.d, hG.u⟩
                rcases List.mem_append.1 hy with h | h
                · exact hG.s y h
                · rw [List.mem_singleton] at h; omega
            · dsimp only
              by_cases h0 : (fs.getD n zf).ws.length = 0
              · rw [if_pos (show (fs.getD n ⟨0, [], 0, false⟩).ws.length = 0 from h0)]
                refine List.nodup_append.2 ⟨hI.nd, by simp, fun a ha b hb => ?_⟩
                rw [List.mem_singleton] at hb
                subst hb
                intro e
                subst e
                have := (hI.mem _ ha).2.2
                rw [Int.toNat_natCast] at this
                omega
              · rw [if_neg (show ¬ (fs.getD n ⟨0, [], 0, false⟩).ws.length = 0 from h0)]; exact hI.nd
            · dsimp only at hy ⊢
              rw [upd_len]
              by_cases ey : y.toNat = n
              · rw [ey, upd_self hnq]
                refine ⟨?_, ?_, by simp⟩
                · by_cases h0 : (fs.getD n zf).ws.length = 0
                  · rw [if_pos (show (fs.getD n ⟨0, [], 0, false⟩).ws.length = 0 from h0)] at hy
                    rcases List.mem_append.1 hy with h | h
                    · exact (hI.mem y h).1
                    · rw [List.mem_singleton] at h; omega
                  · rw [if_neg (show ¬ (fs.getD n ⟨0, [], 0, false⟩).ws.length = 0 from h0)] at hy; exact (hI.mem y hy).1
                · omega
              · rw [upd_ne ey]
                by_cases h0 : (fs.getD n zf).ws.length = 0
                · rw [if_pos (show (fs.getD n ⟨0, [], 0, false⟩).ws.length = 0 from h0)] at hy
                  rcases List.mem_append.1 hy with h | h
                  · exact hI.mem y h
                  · rw [List.mem_singleton] at h; subst h; exact absurd (Int.toNat_natCast n) ey
                · rw [if_neg (show ¬ (fs.getD n ⟨0, [], 0, false⟩).ws.length = 0 from h0)] at hy; exact hI.mem y hy
      obtain ⟨r, h1, h2⟩ := hc
      rw [h1, Option.bind_some]
      obtain ⟨O, h3, h4⟩ := play_ok k hk t _ _ (o ++ [⟨r.1.1, r.1.2.1, r.1.2.2⟩]) h2
      exact ⟨⟨r.1.1, r.1.2.1, r.1.2.2⟩ :: O, by rw [h3, List.append_assoc]; rfl, ⟨fun h => by omega, h4⟩⟩
    · rw [if_neg hpos]
      by_cases hneg : x.f1 < 0
      · rw [if_pos hneg]
        obtain ⟨O, h3, h4⟩ := play_ok k hk t _ _ (o ++ [⟨2, 0, 0⟩]) hI
        exact ⟨⟨2, 0, 0⟩ :: O, by rw [h3, List.append_assoc]; rfl, ⟨fun h => by omega, h4⟩⟩
      · rw [if_neg hneg]
        unfold sendsF
        by_cases ht : tn.length = 0
        · rw [if_pos ht, Option.bind_some]
          obtain ⟨O, h3, h4⟩ := play_ok k hk t fs tn (o ++ [⟨7, 0, 0⟩]) hI
          exact ⟨⟨7, 0, 0⟩ :: O, by dsimp only; rw [h3, List.append_assoc]; rfl, ⟨fun _ (h : (7 : Int) = 0) => absurd h (by decide), h4⟩⟩
        · rw [if_neg ht]
          have hr := room_le hI.g
          obtain ⟨a, s, fs', tn', h1, h2, h5⟩ := sends_ok 9006 k fs tn hI (by omega) (by omega) hk
          rw [h1, Option.bind_some]
          obtain ⟨O, h3, h4⟩ := play_ok k hk t fs' tn' (o ++ [⟨0, a, s⟩]) h2
          exact ⟨⟨0, a, s⟩ :: O, by dsimp only; rw [h3, List.append_assoc]; rfl, ⟨fun _ _ => h5, h4⟩⟩
theorem fair_ok (k : Nat) (hk : 9006 < k) (q : List Int) (l : List S35) (hq : q.length = 3) (hb : ∀ x ∈ q, 1 ≤ x ∧ x ≤ 1500) (hl : l.length ≤ 150) : ∃ O, fair_Play.f k q l = some (O, 0) ∧ Told l O := by
  unfold fair_Play.f
  rw [if_neg (by omega)]
  have hno : ¬ q.any badQ = true := by
    rw [List.any_eq_true]
    rintro ⟨x, hx, h⟩
    have := hb x hx
    unfold badQ at h
    simp only [Bool.or_eq_true, decide_eq_true_eq] at h
    omega
  rw [if_neg hno]
  obtain ⟨O, h1, h2⟩ := play_ok k hk l (q.map newFl) [] [] ⟨by rw [List.length_map]; omega, fun z hz => by
    obtain ⟨x, hx, rfl⟩ := List.mem_map.1 hz
    exact ⟨hb x hx, by simp [newFl], by simp [newFl], by simp [newFl], fun _ => by simp [newFl]⟩, List.nodup_nil, by simp⟩
  rw [h1]
  exact ⟨O, rfl, h2⟩
/-! ### The bucket -/
/-- Of packets what passed. -/
def gain : List S37 → List Bool → Int
  | p :: t, b :: u => (if b = true then p.f1 else 0) + gain t u
  | _, _ => 0
/-- Packets of a line: from a time on, up to a time. -/
def Late (M : Int) : Int → List S37 → Prop
  | _, [] => True
  | a, p :: t => a ≤ p.f0 ∧ p.f0 ≤ M ∧ 1 ≤ p.f1 ∧ p.f1 ≤ 1500 ∧ Late M p.f0 t
theorem in_ok {a b c : Int} (h : b ≤ a) (h' : a ≤ c) : bucket_in.f a b c = some true := by
  unfold bucket_in.f
  rw [if_pos (by omega), decide_eq_true h']
theorem rdT (l : List S37) (i : Nat) (x : S37) (t : List S37) (h : l.drop i = x :: t) : rd_T37 l (i : Int) = x ∧ l.drop (i + 1) = t ∧ i < l.length := by
  have hl : i < l.length := by
    rcases Nat.lt_or_ge i l.length with h1 | h1
    · exact h1
    · rw [List.drop_eq_nil_of_le h1] at h; cases h
  have h2 := List.drop_eq_getElem_cons hl
  rw [h] at h2
  injection h2 with h3 h4
  exact ⟨by simp [rd_T37, List.getD_eq_getElem?_getD, List.getElem?_eq_getElem hl, h3], h4.symm, hl⟩
theorem mul_bd {r d : Int} (h0 : 0 ≤ r) (h1 : r ≤ 59) (h2 : 0 ≤ d) (h3 : d ≤ 1000) : 0 ≤ r * d ∧ r * d ≤ 59000 := ⟨Int.mul_nonneg h0 h2, by
  have := Int.mul_le_mul h1 h3 h2 (by omega : (0 : Int) ≤ 59)
  omega⟩
theorem bucket_l (r u : Int) (hr : 0 ≤ r ∧ r ≤ 59) (hu : 0 ≤ u ∧ u ≤ 899) (M : Int) (hM : 0 ≤ M ∧ M ≤ 150) (ps : List S37) (hps : ps.length ≤ 150) :
    ∀ (t : List S37) (k i : Nat) (o : List Bool) (c last : Int), ps.drop i = t → 3 * t.length + 3 < k → o.length = i → Late M last t → 0 ≤ c → c ≤ u → 0 ≤ last → last ≤ M → (i = 0 → last = 0) →
      ∃ O, bucket_Play.l0 k r u o c last ps (ps.length : Int) (i : Int) = some (o ++ O, 0) ∧ O.length = t.length ∧ gain t O ≤ c + r * (M - last)
  | [], k, i, o, c, last, hd, hk, ho, hL, hc0, hc1, hl0, hl1, hi0 => by
    obtain ⟨k, rfl⟩ : ∃ m, k = m + 1 := ⟨k - 1, by simp at hk; omega⟩
    have : ps.length ≤ i := List.drop_eq_nil_iff.1 hd
    rw [bucket_Play.l0, if_neg (by omega)]
    have h := mul_bd hr.1 hr.2 (show 0 ≤ M - last by omega) (by omega)
    exact ⟨[], by rw [List.append_nil], rfl, by simp only [gain]; omega⟩
  | p :: t, k, i, o, c, last, hd, hk, ho, hL, hc0, hc1, hl0, hl1, hi0 => by
    simp only [List.length_cons] at hk
    obtain ⟨k, rfl⟩ : ∃ m, k = m + 1 + 1 + 1 := ⟨k - 3, by omega⟩
    obtain ⟨e1, e2, e3⟩ := rdT ps i p t hd
    obtain ⟨L1, L2, L3, L4, L5⟩ := hL
    rw [bucket_Play.l0, if_pos (by omega), if_pos (by omega), if_pos (by omega), e1, in_ok (show (0 : Int) ≤ p.f0 by omega) (by omega), Option.bind_some, if_pos rfl, in_ok (show (1 : Int) ≤ p.f1 by omega) (by omega), Option.bind_some]
    rw [bucket_Play.j1, if_neg (by simp)]
    have hb1 := mul_bd hr.1 hr.2 (show 0 ≤ p.f0 - last by omega) (by omega)
    have hb2 := mul_bd hr.1 hr.2 (show 0 ≤ M - p.f0 by omega) (by omega)
    have hsum : r * (M - last) = r * (p.f0 - last) + r * (M - p.f0) := by rw [← Int.mul_add]; congr 1; omega
    -- the credit at this packet
    have main : ∀ c', 0 ≤ c' → c' ≤ u → c' ≤ c + r * (p.f0 - last) → ∃ O, (if p.f1 ≤ c' then (if o.length < 140737488355328 then (bucket_Play.l0 k r u (o ++ [decide (p.f1 ≤ c')]) (wrap64 (c' - p.f1)) p.f0 ps (ps.length : Int) (wrap64 ((i : Int) + 1))) else (none)) else (if o.length < 140737488355328 then (bucket_Play.l0 k r u (o ++ [decide (p.f1 ≤ c')]) c' p.f0 ps (ps.length : Int) (wrap64 ((i : Int) + 1))) else (none))) = some (o ++ O, 0) ∧ O.length = (p :: t).length ∧ gain (p :: t) O ≤ c + r * (M - last) := by
      intro c' h0 h1 h2
      rw [show wrap64 ((i : Int) + 1) = ((i + 1 : Nat) : Int) by rw [w64 (by omega) (by omega)]; omega]
      by_cases hp : p.f1 ≤ c'
      · rw [if_pos hp, if_pos (by omega), decide_eq_true hp, w64 (by omega) (by omega)]
        obtain ⟨O, g1, g2, g3⟩ := bucket_l r u hr hu M hM ps hps t k (i + 1) (o ++ [true]) (c' - p.f1) p.f0 e2 (by omega) (by simp; omega) L5 (by omega) (by omega) (by omega) (by omega) (by omega)
        refine ⟨true :: O, by rw [g1, List.append_assoc]; rfl, by simp [g2], ?_⟩
        simp only [gain, if_pos]
        omega
      · rw [if_neg hp, if_pos (by omega), decide_eq_false hp]
        obtain ⟨O, g1, g2, g3⟩ := bucket_l r u hr hu M hM ps hps t k (i + 1) (o ++ [false]) c' p.f0 e2 (by omega) (by simp; omega) L5 (by omega) (by omega) (by omega) (by omega) (by omega)
        refine ⟨false :: O, by rw [g1, List.append_assoc]; rfl, by simp [g2], ?_⟩
        simp only [gain]
        rw [if_neg (by simp)]
        omega
    by_cases hi : (i : Int) > 0
    · rw [if_pos hi, if_neg (by omega), bucket_Play.j2, if_pos hi]
      rw [w64 (x := p.f0 - last) (by omega) (by omega), w64 (x := r * (p.f0 - last)) (by omega) (by omega), w64 (x := c + r * (p.f0 - last)) (by omega) (by omega)]
      exact main (mn u (c + r * (p.f0 - last))) (by unfold mn; split <;> omega) (by unfold mn; split <;> omega) (by unfold mn; split <;> omega)
    · rw [if_neg hi, bucket_Play.j2, if_neg hi]
      exact main c hc0 hc1 (by omega)
theorem bucket_ok (k : Nat) (r u : Int) (hr : 0 ≤ r ∧ r ≤ 59) (hu : 0 ≤ u ∧ u ≤ 899) (M : Int) (hM : 0 ≤ M ∧ M ≤ 150) (ps : List S37) (hps : ps.length ≤ 150) (hL : Late M 0 ps) (hk : 500 < k) :
    ∃ O, bucket_Play.f k r u ps = some (O, 0) ∧ O.length = ps.length ∧ gain ps O ≤ u + r * M := by
  unfold bucket_Play.f bucket_may.f
  rw [in_ok hr.1 (by omega), Option.bind_some, if_pos rfl, in_ok hu.1 (by omega), Option.bind_some, Option.bind_some, if_pos rfl, if_neg (by omega)]
  obtain ⟨O, h1, h2, h3⟩ := bucket_l r u hr hu M hM ps hps ps k 0 [] u 0 rfl (by omega) rfl hL hu.1 (by omega) (by omega) hM.1 (fun _ => rfl)
  rw [Int.sub_zero] at h3
  exact ⟨O, by simpa using h1, h2, h3⟩
theorem bound_ok (r u m : Int) (hr : 0 ≤ r ∧ r ≤ 59) (hu : 0 ≤ u ∧ u ≤ 899) (hm : 0 ≤ m ∧ m ≤ 150) : bucket_Bound.f r u m = some (u + r * m, 0) := by
  have hb := mul_bd hr.1 hr.2 hm.1 (by omega)
  unfold bucket_Bound.f bucket_may.f
  rw [in_ok hr.1 (by omega), Option.bind_some, if_pos rfl, in_ok hu.1 (by omega), Option.bind_some, Option.bind_some, if_pos rfl, in_ok hm.1 (by omega), Option.bind_some, if_pos rfl, w64 (x := r * m) (by omega) (by omega), w64 (by omega) (by omega)]
theorem one_ok (k : Nat) (hk : 10 < k) : bucket_Play.f k 1 5 [(⟨0, 5⟩ : S37)] = some ([true], 0) := by
  obtain ⟨k, rfl⟩ : ∃ m, k = m + 1 + 1 + 1 + 1 := ⟨k - 4, by omega⟩
  have e0 : rd_T37 [(⟨0, 5⟩ : S37)] 0 = ⟨0, 5⟩ := rfl
  have e1 : (([(⟨0, 5⟩ : S37)] : List S37).length : Int) = 1 := rfl
  unfold bucket_Play.f bucket_may.f
  rw [in_ok (by omega) (by omega), Option.bind_some, if_pos rfl, in_ok (by omega) (by omega), Option.bind_some, Option.bind_some, if_pos rfl, e1, if_neg (by omega)]
  rw [bucket_Play.l0, e1, if_pos (by omega), if_pos (by omega), if_pos (by omega), e0]
  dsimp only
  rw [in_ok (by omega) (by omega), Option.bind_some, if_pos rfl, in_ok (by omega) (by omega), Option.bind_some]
  rw [bucket_Play.j1, if_neg (by simp), if_neg (by omega), bucket_Play.j2, if_neg (by omega), if_pos (by omega), if_pos (by simp), w64 (x := 0 + 1) (by omega) (by omega), bucket_Play.l0, if_neg (by omega)]
  rfl
/-! ### The law -/
theorem sum_l (ps : List S37) (O : List Bool) (hl : O.length = ps.length) (hps : ps.length ≤ 150) (hb : ∀ p ∈ ps, 1 ≤ p.f1 ∧ p.f1 ≤ 1500) (most : Int) :
    ∀ (t : List S37) (u : List Bool) (k i : Nat) (s : Int), ps.drop i = t → O.drop i = u → t.length + 1 < k → 0 ≤ s → s ≤ 1500 * (i : Int) → s + gain t u ≤ most → packthreadtop_TopShaped.l1 k ps O most s (i : Int) = some true
  | [], u, k, i, s, hd, hu, hk, h0, h1, hs => by
    obtain ⟨k, rfl⟩ : ∃ m, k = m + 1 := ⟨k - 1, by omega⟩
    have : ps.length ≤ i := List.drop_eq_nil_iff.1 hd
    rw [packthreadtop_TopShaped.l1, if_neg (by omega)]
    simp only [gain] at hs
    rw [decide_eq_true (by omega)]
  | p :: t, u, k, i, s, hd, hu, hk, h0, h1, hs => by
    obtain ⟨k, rfl⟩ : ∃ m, k = m + 1 := ⟨k - 1, by omega⟩
    obtain ⟨e1, e2, e3⟩ := rdT ps i p t hd
    have hi : i < O.length := by omega
    have e4 := List.drop_eq_getElem_cons hi
    rw [hu] at e4
    subst e4
    have e5 : rdOf false O (i : Int) = O[i] := by simp [rdOf, List.getD_eq_getElem?_getD, List.getElem?_eq_getElem hi]
    have hp := hb p (List.mem_of_mem_drop (hd ▸ List.mem_cons_self : p ∈ ps.drop i))
    have e : wrap64 ((i : Int) + 1) = ((i + 1 : Nat) : Int) := by rw [w64 (by omega) (by omega)]; omega
    rw [packthreadtop_TopShaped.l1, if_pos (by omega), if_pos (by omega), if_pos (by omega), e5, e1, e]
    simp only [List.length_cons] at hk
    simp only [gain] at hs
    by_cases c : O[i] = true
    · rw [if_pos c] at hs ⊢
      rw [w64 (by omega) (by omega)]
      exact sum_l ps O hl hps hb most t _ k (i + 1) _ e2 rfl (by omega) (by omega) (by omega) (by omega)
    · rw [if_neg c] at hs ⊢
      exact sum_l ps O hl hps hb most t _ k (i + 1) _ e2 rfl (by omega) (by omega) (by omega) (by omega)
theorem late_app (M : Int) : ∀ (ps : List S37) (a : Int) (p : S37), Late M a ps → (∀ q ∈ ps, q.f0 ≤ p.f0) → a ≤ p.f0 → p.f0 ≤ M → 1 ≤ p.f1 → p.f1 ≤ 1500 → Late M a (ps ++ [p])
  | [], a, p, _, _, h1, h2, h3, h4 => ⟨h1, h2, h3, h4, trivial⟩
  | q :: t, a, p, hL, hq, h1, h2, h3, h4 => ⟨hL.1, hL.2.1, hL.2.2.1, hL.2.2.2.1, late_app M t q.f0 p hL.2.2.2.2 (fun x hx => hq x (List.mem_cons_of_mem _ hx)) (hq q List.mem_cons_self) h2 h3 h4⟩
theorem late_mem (M : Int) : ∀ (ps : List S37) (a : Int), Late M a ps → ∀ p ∈ ps, 1 ≤ p.f1 ∧ p.f1 ≤ 1500
  | [], _, _, p, hp => by simp at hp
  | q :: t, a, hL, p, hp => by
    rcases List.mem_cons.1 hp with rfl | h
    · exact ⟨hL.2.2.1, hL.2.2.2.1⟩
    · exact late_mem M t _ hL.2.2.2.2 p h
theorem top_end (k : Nat) (hk : 1000 < k) (a2 a3 : Int) (fs : List S35) (O : List S29) (ps : List S37) (i : Nat) (hi : O.length ≤ i) (hO : O.length ≤ 150) (hps : ps.length ≤ O.length) (hL : Late (O.length : Int) 0 ps) :
    packthreadtop_TopShaped.l0 (k + 1) a2 a3 fs O ps (i : Int) = some true := by
  rw [packthreadtop_TopShaped.l0, if_neg (by omega)]
  obtain ⟨r, hr, hr0, hr1⟩ := picked a2 60 (by omega) (by omega)
  obtain ⟨u, hu, hu0, hu1⟩ := picked a3 900 (by omega) (by omega)
  obtain ⟨P, h1, h2, h3⟩ := bucket_ok k r u (by omega) (by omega) (O.length : Int) (by omega) ps (by omega) hL (by omega)
  rw [hr, hu]
  simp only [Option.bind_some, List.nil_append, List.length_nil, Nat.zero_add]
  rw [if_pos (by omega), h1, bound_ok r u _ (by omega) (by omega) (by omega), one_ok k (by omega), Option.bind_some, Option.bind_some, Option.bind_some]
  dsimp only
  rw [if_pos rfl, if_pos rfl, if_pos rfl, if_pos (by rw [h2]), if_pos (by rfl), if_pos (by decide)]
  obtain ⟨k, rfl⟩ : ∃ m, k = m + 1 := ⟨k - 1, by omega⟩
  have e : (!(rdOf false [true] 0)) = false := rfl
  rw [e, packthreadtop_TopShaped.j2, if_neg (by simp)]
  exact sum_l ps P h2 (by omega) (late_mem _ ps 0 hL) _ ps P k 0 0 rfl rfl (by omega) (by omega) (by omega) (by omega)
theorem top_l (a2 a3 : Int) (fs : List S35) (O : List S29) (hO : O.length ≤ 150) (hl : O.length = fs.length) :
    ∀ (x : List S35) (y : List S29) (k i : Nat) (ps : List S37), fs.drop i = x → O.drop i = y → Told x y → i ≤ O.length → 1001 + (O.length - i) < k → ps.length ≤ i → Late (O.length : Int) 0 ps → (∀ q ∈ ps, q.f0 ≤ (i : Int)) → packthreadtop_TopShaped.l0 k a2 a3 fs O ps (i : Int) = some true
  | [], [], k, i, ps, hx, hy, hT, hi, hk, hn, hL, hq => by
    obtain ⟨k, rfl⟩ : ∃ m, k = m + 1 := ⟨k - 1, by omega⟩
    have : O.length ≤ i := List.drop_eq_nil_iff.1 hy
    exact top_end k (by omega) a2 a3 fs O ps i this hO (by omega) hL
  | [], _ :: _, _, _, _, _, _, hT, _, _, _, _, _ => hT.elim
  | _ :: _, [], _, _, _, _, _, hT, _, _, _, _, _ => hT.elim
  | p :: t, s :: u, k, i, ps, hx, hy, hT, hi, hk, hn, hL, hq => by
    have hio : i < O.length := by
      rcases Nat.lt_or_ge i O.length with h1 | h1
      · exact h1
      · rw [List.drop_eq_nil_of_le h1] at hy; cases hy
    have hif : i < fs.length := by omega
    obtain ⟨k, rfl⟩ : ∃ m, k = m + 1 := ⟨k - 1, by omega⟩
    have e1 := List.drop_eq_getElem_cons hio
    rw [hy] at e1
    injection e1 with e1 e2
    have e3 := List.drop_eq_getElem_cons hif
    rw [hx] at e3
    injection e3 with e3 e4
    have r1 : rd_T35 fs (i : Int) = p := by simp [rd_T35, List.getD_eq_getElem?_getD, List.getElem?_eq_getElem hif, e3]
    have r2 : rd_T29 O (i : Int) = s := by simp [rd_T29, List.getD_eq_getElem?_getD, List.getElem?_eq_getElem hio, e1]
    have e : wrap64 ((i : Int) + 1) = ((i + 1 : Nat) : Int) := by rw [w64 (by omega) (by omega)]; omega
    rw [packthreadtop_TopShaped.l0, if_pos (by omega), if_pos (by omega), if_pos (by omega), r1, r2, e]
    have hq' : ∀ q ∈ ps, q.f0 ≤ ((i + 1 : Nat) : Int) := fun q h => by have := hq q h; omega
    by_cases c1 : p.f1 = 0
    · rw [if_pos c1]
      by_cases c2 : s.f0 = 0
      · rw [if_pos c2, if_pos (by omega)]
        have hs := hT.1 c1 c2
        refine top_l a2 a3 fs O hO hl t u k (i + 1) _ e4.symm e2.symm hT.2 (by omega) (by omega) (by simp; omega) ?_ (fun q hq2 => ?_)
        · exact late_app _ ps 0 _ hL hq (by dsimp only; omega) (by dsimp only; omega) hs.1 hs.2
        · rcases List.mem_append.1 hq2 with h | h
          · exact hq' q h
          · rw [List.mem_singleton] at h; subst h; dsimp only; omega
      · rw [if_neg c2]
        exact top_l a2 a3 fs O hO hl t u k (i + 1) _ e4.symm e2.symm hT.2 (by omega) (by omega) (by omega) hL hq'
    · rw [if_neg c1]
      exact top_l a2 a3 fs O hO hl t u k (i + 1) _ e4.symm e2.symm hT.2 (by omega) (by omega) (by omega) hL hq'
theorem TopShaped {A B C D : Prop} (l0 l1 : List Int) (a2 a3 : Int) (_ : A) (_ : B) (_ : C) (_ : D) : ∃ k, packthreadtop_TopShaped.f k l0 l1 a2 a3 = some true := by
  refine ⟨20000, ?_⟩
  unfold packthreadtop_TopShaped.f packthreadkeep_Feeds.f packthreadkeep_Quanta.f
  obtain ⟨fs, h1, h2⟩ := feeds_l l1 150 20000 0 [] rfl rfl (by omega) (by omega)
  obtain ⟨q, h3, h4, h5⟩ := quanta_l l0 3 20000 0 [50, 100, 70] rfl (by omega) (by omega) rfl (by simp)
  obtain ⟨O, h6, h7⟩ := fair_ok 20000 (by omega) q fs h4 h5 h2
  have hl := h7.len
  rw [show packthreadkeep_Feeds.l0 20000 l1 150 [] 0 = some fs from h1, Option.bind_some, show packthreadkeep_Quanta.l0 20000 l0 [50, 100, 70] 0 = some q from h3, Option.bind_some, List.nil_append, List.length_nil, Nat.zero_add, if_pos (by omega), h6, Option.bind_some]
  dsimp only
  rw [if_pos rfl, show (20000 : Nat) = 19999 + 1 from rfl, packthreadtop_TopShaped.j0, if_neg (by simp [hl])]
  exact top_l a2 a3 fs O (by omega) hl fs O 19999 0 [] rfl rfl h7 (by omega) (by omega) (by simp) trivial (by simp)
end Go.Proofs.Ytnbpkibefgahlaa.Pure
