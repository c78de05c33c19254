/- Messages: replies. -/
import Derived.Test.YtkghoodhgihokaaXMsgW
import Derived.Test.YtkghoodhgihokaaXMsgV
namespace Go.Proofs.Ytkghoodhgihokaa.Msg
open Go.RowKit Go.Lib Go.Proofs.YtkghoodhgihokaaW.PrintWords Go.Proofs.YtkghoodhgihokaaW.PrintLast Go.Proofs.YtkghoodhgihokaaW.PrintMore
set_option linter.unusedVariables false
set_option linter.unusedSimpArgs false
theorem readN_short (wd : Nat) (l : List Int) : (readN wd l true).2.2 = true := by unfold readN; split <;> rfl
theorem readN_less {wd : Nat} {l : List Int} (h : l.length < wd) (sh : Bool) : readN wd l sh = (0, [], true) := by unfold readN; rw [if_pos h]
theorem readN_more {wd : Nat} {l : List Int} (h : ¬ l.length < wd) (sh : Bool) : readN wd l sh = (((valN (l.take wd) : Nat) : Int), l.drop wd, sh) := by unfold readN; rw [if_neg h]
theorem readT_short (l : List Int) : (readT l true).2.2 = true := by
  unfold readT
  split
  · rfl
  · exact readN_short 2 l
theorem ltrR_short (c : Nat) (q : Rq) (l : List Int) : (ltrR c (q, l, true)).2.2 = true := by
  unfold ltrR
  repeat' split
  all_goals first
    | exact readT_short l
    | exact readN_short _ l
theorem ltrsR_short : ∀ (cs : List Nat) (st : Rq × List Int × Bool), st.2.2 = true → (ltrsR cs st).2.2 = true
  | [], _, h => h
  | c :: t, (q, l, sh), h => by
    have h : sh = true := h
    subst h
    show (ltrsR t (ltrR c (q, l, true))).2.2 = true
    exact ltrsR_short t _ (ltrR_short c q l)
theorem getG_num {wd : Nat} {a : Addr} {n : Int} {l : List Int} : getG (.num wd a n) l = if l.length < wd then none else some (.num (valN (l.take wd)), l.drop wd) := rfl
theorem getG_text {a : Addr} {s : ByteArray} {l : List Int} : getG (.text a s) l = if l.length < 2 then none else if (l.drop 2).length < valN (l.take 2) then none else some (.text (strOfNums ((l.drop 2).take (valN (l.take 2)))), (l.drop 2).drop (valN (l.take 2))) := rfl
theorem getG_data {a : Addr} {A : Option Addr} {d : List Int} {c : Nat} {l : List Int} : getG (.data a A d c) l = if l.length < 2 then none else if (l.drop 2).length < valN (l.take 2) then none else some (.data ((l.drop 2).take (valN (l.take 2))), (l.drop 2).drop (valN (l.take 2))) := rfl
theorem readT_less {l : List Int} (h : l.length < 2) : readT l false = (⟨#[]⟩, [], true) := by
  unfold readT
  rw [readN_less h]
  rfl
theorem readT_less2 {l : List Int} (h : ¬ l.length < 2) (h2 : (l.drop 2).length < valN (l.take 2)) : readT l false = (⟨#[]⟩, [], true) := by
  unfold readT
  rw [readN_more h]
  show (if (l.drop 2).length < (((valN (l.take 2) : Nat) : Int)).toNat then _ else _) = _
  rw [Int.toNat_natCast, if_pos h2]
theorem readT_more {l : List Int} (h : ¬ l.length < 2) (h2 : ¬ (l.drop 2).length < valN (l.take 2)) : readT l false = (strOfNums ((l.drop 2).take (valN (l.take 2))), (l.drop 2).drop (valN (l.take 2)), false) := by
  unfold readT
  rw [readN_more h]
  show (if (l.drop 2).length < (((valN (l.take 2) : Nat) : Int)).toNat then _ else _) = _
  rw [Int.toNat_natCast, if_neg h2]
theorem corr_no {p : Pv} {c : Nat} (hc : Corr p c) (q : Rq) {l : List Int} (h : getG p l = none) : (ltrR c (q, l, false)).2.2 = true := by
  have key : ∀ {l : List Int} {X : GV × List Int}, (if l.length < 2 then none else if (l.drop 2).length < valN (l.take 2) then none else some X) = none → (readT l false).2.2 = true := by
    intro l X h
    by_cases h1 : l.length < 2
    · rw [readT_less h1]
    · rw [if_neg h1] at h
      by_cases h2 : (l.drop 2).length < valN (l.take 2)
      · rw [readT_less2 h1 h2]
      · rw [if_neg h2] at h; cases h
  have keyn : ∀ {wd : Nat} {l : List Int} {X : GV × List Int}, (if l.length < wd then none else some X) = none → (readN wd l false).2.2 = true := by
    intro wd l X h
    by_cases h1 : l.length < wd
    · rw [readN_less h1]
    · rw [if_neg h1] at h; cases h
  rcases hc with ⟨a, s, rfl, ⟨_, rfl⟩ | ⟨_, rfl⟩⟩ | ⟨a, n, rfl, _, rfl⟩ | ⟨a, n, rfl, ⟨_, rfl⟩ | ⟨_, rfl⟩⟩ | ⟨a, n, rfl, _, rfl⟩ | ⟨a, A, d, e, rfl, rfl⟩
  · exact key (getG_text.symm.trans h)
  · exact key (getG_text.symm.trans h)
  · exact keyn (getG_num.symm.trans h)
  · exact keyn (getG_num.symm.trans h)
  · exact keyn (getG_num.symm.trans h)
  · exact keyn (getG_num.symm.trans h)
  · exact key (getG_data.symm.trans h)
theorem corr_yes {p : Pv} {c : Nat} (hc : Corr p c) (q : Rq) {l r : List Int} {x : GV} (hb : ∀ y ∈ l, 0 ≤ y ∧ y ≤ 255) (h : getG p l = some (x, r)) : ltrR c (q, l, false) = (updQ q p x, r, false) := by
  have key : ∀ {l : List Int} {X : GV × List Int} {Y : GV × List Int}, (if l.length < 2 then none else if (l.drop 2).length < valN (l.take 2) then none else some X) = some Y → X = Y ∧ readT l false = (strOfNums ((l.drop 2).take (valN (l.take 2))), (l.drop 2).drop (valN (l.take 2)), false) := by
    intro l X Y h
    by_cases h1 : l.length < 2
    · rw [if_pos h1] at h; cases h
    · rw [if_neg h1] at h
      by_cases h2 : (l.drop 2).length < valN (l.take 2)
      · rw [if_pos h2] at h; cases h
      · rw [if_neg h2] at h; exact ⟨Option.some.inj h, readT_more h1 h2⟩
  have keyn : ∀ {wd : Nat} {l : List Int} {X Y : GV × List Int}, (if l.length < wd then none else some X) = some Y → X = Y ∧ readN wd l false = (((valN (l.take wd) : Nat) : Int), l.drop wd, false) := by
    intro wd l X Y h
    by_cases h1 : l.length < wd
    · rw [if_pos h1] at h; cases h
    · rw [if_neg h1] at h; exact ⟨Option.some.inj h, readN_more h1 _⟩
  rcases hc with ⟨a, s, rfl, ⟨ho, rfl⟩ | ⟨ho, rfl⟩⟩ | ⟨a, n, rfl, ho, rfl⟩ | ⟨a, n, rfl, ⟨ho, rfl⟩ | ⟨ho, rfl⟩⟩ | ⟨a, n, rfl, ho, rfl⟩ | ⟨a, A, d, e, rfl, rfl⟩
  · obtain ⟨hx, hr⟩ := key (getG_text.symm.trans h)
    cases hx
    show ((_, (readT l false).2) : Rq × List Int × Bool) = _
    rw [hr]
    show _ = ((if a.off = 2 then _ else _), _, _)
    rw [if_pos ho]
  · obtain ⟨hx, hr⟩ := key (getG_text.symm.trans h)
    cases hx
    show ((_, (readT l false).2) : Rq × List Int × Bool) = _
    rw [hr]
    show _ = ((if a.off = 2 then _ else _), _, _)
    rw [if_neg (by omega)]
  · obtain ⟨hx, hr⟩ := keyn (getG_num.symm.trans h)
    cases hx
    show ((_, (readN 1 l false).2) : Rq × List Int × Bool) = _
    rw [hr]
    show _ = ((if a.off = 0 then _ else if a.off = 1 then _ else if a.off = 4 then _ else _), _, _)
    rw [if_neg (by omega), if_neg (by omega), if_pos ho]
  · obtain ⟨hx, hr⟩ := keyn (getG_num.symm.trans h)
    cases hx
    show ((_, (readN 4 l false).2) : Rq × List Int × Bool) = _
    rw [hr]
    show _ = ((if a.off = 0 then _ else if a.off = 1 then _ else if a.off = 4 then _ else if a.off = 5 then _ else _), _, _)
    rw [if_neg (by omega), if_neg (by omega), if_neg (by omega), if_pos ho]
  · obtain ⟨hx, hr⟩ := keyn (getG_num.symm.trans h)
    cases hx
    show ((_, (readN 4 l false).2) : Rq × List Int × Bool) = _
    rw [hr]
    show _ = ((if a.off = 0 then _ else if a.off = 1 then _ else if a.off = 4 then _ else if a.off = 5 then _ else if a.off = 6 then _ else _), _, _)
    rw [if_neg (by omega), if_neg (by omega), if_neg (by omega), if_neg (by omega), if_pos ho]
  · obtain ⟨hx, hr⟩ := keyn (getG_num.symm.trans h)
    cases hx
    show ((_, (readN 2 l false).2) : Rq × List Int × Bool) = _
    rw [hr]
    show _ = ((if a.off = 0 then _ else if a.off = 1 then _ else if a.off = 4 then _ else if a.off = 5 then _ else if a.off = 6 then _ else _), _, _)
    rw [if_neg (by omega), if_neg (by omega), if_neg (by omega), if_neg (by omega), if_neg (by omega)]
  · obtain ⟨hx, hr⟩ := key (getG_data.symm.trans h)
    cases hx
    show (({ q with data := bytesOf (readT l false).1 }, (readT l false).2) : Rq × List Int × Bool) = _
    rw [hr]
    show (({ q with data := bytesOf (strOfNums _) }, _) : Rq × List Int × Bool) = _
    rw [str_bytes (bytes_take (bytes_drop hb 2) _)]
    rfl
theorem sim : ∀ (zs : List (Pv × Nat)), (∀ z ∈ zs, Corr z.1 z.2) → ∀ (q : Rq) (l : List Int), (∀ y ∈ l, 0 ≤ y ∧ y ≤ 255) → (takeG updQ (zs.map Prod.fst) q l = none → (ltrsR (zs.map Prod.snd) (q, l, false)).2.2 = true) ∧ (∀ q' r, takeG updQ (zs.map Prod.fst) q l = some (q', r) → ltrsR (zs.map Prod.snd) (q, l, false) = (q', r, false))
  | [], _, q, l, _ => ⟨fun h => (by cases h), fun q' r h => (by cases h; rfl)⟩
  | (p, c) :: t, hz, q, l, hb => by
    have hc := hz (p, c) List.mem_cons_self
    show (takeG updQ (p :: t.map Prod.fst) q l = none → (ltrsR (t.map Prod.snd) (ltrR c (q, l, false))).2.2 = true) ∧ (∀ q' r, takeG updQ (p :: t.map Prod.fst) q l = some (q', r) → ltrsR (t.map Prod.snd) (ltrR c (q, l, false)) = (q', r, false))
    cases hG : getG p l with
    | none =>
      rw [takeG_no hG]
      exact ⟨fun _ => ltrsR_short _ _ (corr_no hc q hG), fun _ _ h => (by cases h)⟩
    | some xr =>
      obtain ⟨x, r⟩ := xr
      rw [takeG_yes hG, corr_yes hc q hb hG]
      exact sim t (fun z hz' => hz z (List.mem_cons_of_mem _ hz')) _ r ((getG_part hG).2.1 hb)
/-- The parts and letters of a kind. -/
theorem kind_zs (q : Rq) : ∃ zs : List (Pv × Nat), zs.map Prod.fst = partsV 0 q ∧ zs.map Prod.snd = namesK q.kind ∧ ∀ z ∈ zs, Corr z.1 z.2 := by
  unfold partsV namesK
  by_cases h1 : q.kind = 1
  · rw [if_pos h1, if_pos h1]
    exact ⟨[(.text ⟨0, 2, none⟩ q.path, 112), (.num 1 ⟨0, 4, none⟩ q.how, 104)], rfl, rfl, by simp [Corr]⟩
  rw [if_neg h1, if_neg h1]
  by_cases h2 : q.kind = 2
  · rw [if_pos h2, if_pos h2]
    exact ⟨[(.num 4 ⟨0, 5, none⟩ q.handle, 110)], rfl, rfl, by simp [Corr]⟩
  rw [if_neg h2, if_neg h2]
  by_cases h3 : q.kind = 3
  · rw [if_pos h3, if_pos h3]
    exact ⟨[(.num 4 ⟨0, 5, none⟩ q.handle, 110), (.num 4 ⟨0, 6, none⟩ q.at_, 97), (.num 2 ⟨0, 7, none⟩ q.count, 99)], rfl, rfl, by simp [Corr]⟩
  rw [if_neg h3, if_neg h3]
  by_cases h4 : q.kind = 4
  · rw [if_pos h4, if_pos h4]
    exact ⟨[(.num 4 ⟨0, 5, none⟩ q.handle, 110), (.num 4 ⟨0, 6, none⟩ q.at_, 97), (.data ⟨0, 8, none⟩ q.dA q.data q.dc, 100)], rfl, rfl, by simp [Corr]⟩
  rw [if_neg h4, if_neg h4]
  by_cases h5 : q.kind = 5 ∨ q.kind = 6 ∨ q.kind = 7 ∨ q.kind = 8
  · rw [if_pos h5, if_pos h5]
    exact ⟨[(.text ⟨0, 2, none⟩ q.path, 112)], rfl, rfl, by simp [Corr]⟩
  rw [if_neg h5, if_neg h5]
  by_cases h9 : q.kind = 9 ∨ q.kind = 10
  · rw [if_pos h9, if_pos h9]
    exact ⟨[(.text ⟨0, 2, none⟩ q.path, 112), (.text ⟨0, 3, none⟩ q.to_, 116)], rfl, rfl, by simp [Corr]⟩
  rw [if_neg h9, if_neg h9]
  exact ⟨[], rfl, rfl, by simp⟩
theorem take_one {p : Pv} {t : List Pv} {q q2 : Rq} {l r : List Int} (h : takeG updQ (p :: t) q l = some (q2, r)) : ∃ x l', getG p l = some (x, l') ∧ x.of p ∧ l'.length ≤ l.length ∧ takeG updQ t (updQ q p x) l' = some (q2, r) := by
  cases hG : getG p l with
  | none => rw [takeG_no hG] at h; cases h
  | some xr =>
    obtain ⟨x, r'⟩ := xr
    rw [takeG_yes hG] at h
    exact ⟨x, r', rfl, (getG_part hG).2.2, (getG_part hG).1, h⟩
/-- What is read of a kind's parts leaves nothing else. -/
theorem take_bare (k m : Int) (hk : 1 ≤ k ∧ k ≤ 10) (l : List Int) (q2 : Rq) (r : List Int) (h : takeG updQ (partsV 0 { zeroQ with kind := k, mark := m }) { zeroQ with kind := k, mark := m } l = some (q2, r)) : q2.kind = k ∧ q2.mark = m ∧ bareF 0 q2 = true := by
  have hcs : k = 1 ∨ k = 2 ∨ k = 3 ∨ k = 4 ∨ (k = 5 ∨ k = 6 ∨ k = 7 ∨ k = 8) ∨ (k = 9 ∨ k = 10) := by omega
  rcases hcs with rfl | rfl | rfl | rfl | hk' | hk'
  · rw [show partsV 0 { zeroQ with kind := 1, mark := m } = [.text ⟨0, 2, none⟩ ⟨#[]⟩, .num 1 ⟨0, 4, none⟩ 0] from rfl] at h
    obtain ⟨x, _, _, ⟨s, rfl⟩, _, h⟩ := take_one h
    obtain ⟨x, _, _, ⟨n, rfl⟩, _, h⟩ := take_one h
    cases h
    exact ⟨rfl, rfl, by simp [bareF, begunV, partsV, Pv.off, Pv.addr, clrO, bareB, updQ, zeroQ]⟩
  · rw [show partsV 0 { zeroQ with kind := 2, mark := m } = [.num 4 ⟨0, 5, none⟩ 0] from rfl] at h
    obtain ⟨x, _, _, ⟨n, rfl⟩, _, h⟩ := take_one h
    cases h
    exact ⟨rfl, rfl, by simp [bareF, begunV, partsV, Pv.off, Pv.addr, clrO, bareB, updQ, zeroQ]⟩
  · rw [show partsV 0 { zeroQ with kind := 3, mark := m } = [.num 4 ⟨0, 5, none⟩ 0, .num 4 ⟨0, 6, none⟩ 0, .num 2 ⟨0, 7, none⟩ 0] from rfl] at h
    obtain ⟨x, _, _, ⟨n, rfl⟩, _, h⟩ := take_one h
    obtain ⟨x, _, _, ⟨n', rfl⟩, _, h⟩ := take_one h
    obtain ⟨x, _, _, ⟨n'', rfl⟩, _, h⟩ := take_one h
    cases h
    exact ⟨rfl, rfl, by simp [bareF, begunV, partsV, Pv.off, Pv.addr, clrO, bareB, updQ, zeroQ]⟩
  · rw [show partsV 0 { zeroQ with kind := 4, mark := m } = [.num 4 ⟨0, 5, none⟩ 0, .num 4 ⟨0, 6, none⟩ 0, .data ⟨0, 8, none⟩ none [] 0] from rfl] at h
    obtain ⟨x, _, _, ⟨n, rfl⟩, _, h⟩ := take_one h
    obtain ⟨x, _, _, ⟨n', rfl⟩, _, h⟩ := take_one h
    obtain ⟨x, _, _, ⟨d, rfl⟩, _, h⟩ := take_one h
    cases h
    exact ⟨rfl, rfl, by simp [bareF, begunV, partsV, Pv.off, Pv.addr, clrO, bareB, updQ, zeroQ]⟩
  · have hp : partsV 0 { zeroQ with kind := k, mark := m } = [.text ⟨0, 2, none⟩ ⟨#[]⟩] := by rcases hk' with rfl | rfl | rfl | rfl <;> rfl
    rw [hp] at h
    obtain ⟨x, _, _, ⟨s, rfl⟩, _, h⟩ := take_one h
    cases h
    refine ⟨rfl, rfl, ?_⟩
    rcases hk' with rfl | rfl | rfl | rfl <;> simp [bareF, begunV, partsV, Pv.off, Pv.addr, clrO, bareB, updQ, zeroQ]
  · have hp : partsV 0 { zeroQ with kind := k, mark := m } = [.text ⟨0, 2, none⟩ ⟨#[]⟩, .text ⟨0, 3, none⟩ ⟨#[]⟩] := by rcases hk' with rfl | rfl <;> rfl
    rw [hp] at h
    obtain ⟨x, _, _, ⟨s, rfl⟩, _, h⟩ := take_one h
    obtain ⟨x, _, _, ⟨s', rfl⟩, _, h⟩ := take_one h
    cases h
    refine ⟨rfl, rfl, ?_⟩
    rcases hk' with rfl | rfl <;> simp [bareF, begunV, partsV, Pv.off, Pv.addr, clrO, bareB, updQ, zeroQ]
theorem asked_eq (l : List Int) (hb : ∀ y ∈ l, 0 ≤ y ∧ y ≤ 255) : askedF 0 l = refAskedF l := by
  unfold askedF refAskedF
  by_cases h1 : l.length < 1
  · rw [readN_less h1, if_pos (readN_short 4 [])]
    rw [show takeG updQ (begunV 0 zeroQ) zeroQ l = none from takeG_no (by rw [getG_num, if_pos h1])]
  rw [readN_more h1]
  by_cases h4 : (l.drop 1).length < 4
  · rw [show ((((valN (l.take 1) : Nat) : Int), l.drop 1, false) : Int × List Int × Bool).2.1 = l.drop 1 from rfl, readN_less h4, if_pos rfl]
    rw [show takeG updQ (begunV 0 zeroQ) zeroQ l = none from (takeG_yes (by rw [getG_num, if_neg h1])).trans (takeG_no (by rw [getG_num, if_pos h4]))]
  rw [show ((((valN (l.take 1) : Nat) : Int), l.drop 1, false) : Int × List Int × Bool).2.1 = l.drop 1 from rfl, readN_more h4]
  have hbg : takeG updQ (begunV 0 zeroQ) zeroQ l = some ({ zeroQ with kind := ((valN (l.take 1) : Nat) : Int), mark := ((valN ((l.drop 1).take 4) : Nat) : Int) }, (l.drop 1).drop 4) :=
    (takeG_yes (by rw [getG_num, if_neg h1])).trans ((takeG_yes (by rw [getG_num, if_neg h4])).trans rfl)
  rw [hbg, if_neg (by simp)]
  have hm : valN ((l.drop 1).take 4) < 256 ^ 4 := valN_bd (l.drop 1) (bytes_drop hb 1) 4 (by omega) (by omega)
  have hbr := bytes_drop (bytes_drop hb 1) 4
  generalize (l.drop 1).drop 4 = r at hbr ⊢
  generalize valN ((l.drop 1).take 4) = m at hm ⊢
  generalize valN (l.take 1) = k
  show (if ¬ (1 ≤ (k : Int) ∧ (k : Int) ≤ 10) then _ else _) = (if ¬ (1 ≤ (k : Int) ∧ (k : Int) ≤ 10) then _ else _)
  by_cases hk : 1 ≤ (k : Int) ∧ (k : Int) ≤ 10
  case neg => rw [if_pos hk, if_pos hk]
  rw [if_neg (not_not_intro hk), if_neg (not_not_intro hk)]
  obtain ⟨zs, hz1, hz2, hz3⟩ := kind_zs { zeroQ with kind := (k : Int), mark := (m : Int) }
  have hs := sim zs hz3 { zeroQ with kind := (k : Int), mark := (m : Int) } r hbr
  rw [hz1, hz2] at hs
  obtain ⟨q1, hq1⟩ : ∃ q : Rq, ({ zeroQ with kind := (k : Int), mark := (m : Int) } : Rq) = q := ⟨_, rfl⟩
  have hbare := take_bare k m hk r
  rw [hq1] at hs hbare
  dsimp only at hs hq1 ⊢
  have hkk : q1.kind = (k : Int) := by rw [← hq1]
  rw [hkk] at hs
  rw [hq1]
  cases hT : takeG updQ (partsV 0 q1) q1 r with
  | none =>
    have h := hs.1 hT
    dsimp only
    rw [if_pos h]
  | some qr =>
    obtain ⟨q2, r2⟩ := qr
    have h := hs.2 q2 r2 hT
    rw [h]
    obtain ⟨e1, e2, e3⟩ := hbare q2 r2 hT
    have hf := fault_all q2 (by rw [e1]; exact hk) e3
    rw [all_parts q2 (by rw [e1]; exact hk) (by rw [e2]; omega)] at hf
    dsimp only
    rw [if_neg (by decide : ¬ false = true), hf]
theorem upd_len (N : Nat) (q : Rq) (p : Pv) (l r : List Int) (x : GV) (hq : q.data.length ≤ N) (hl : l.length ≤ N) (h : getG p l = some (x, r)) : (updQ q p x).data.length ≤ N := by
  cases x with
  | num n =>
    show (if p.addr.off = 0 then { q with kind := (n : Int) } else if p.addr.off = 1 then { q with mark := (n : Int) } else if p.addr.off = 4 then { q with how := (n : Int) } else if p.addr.off = 5 then { q with handle := (n : Int) } else if p.addr.off = 6 then { q with at_ := (n : Int) } else { q with count := (n : Int) }).data.length ≤ N
    repeat' split
    all_goals exact hq
  | text t =>
    show (if p.addr.off = 2 then { q with path := t } else { q with to_ := t }).data.length ≤ N
    split <;> exact hq
  | data d =>
    show d.length ≤ N
    cases p with
    | num wd a n =>
      rw [getG_num] at h
      by_cases h1 : l.length < wd
      · rw [if_pos h1] at h; cases h
      · rw [if_neg h1] at h; cases h
    | text a s =>
      rw [getG_text] at h
      by_cases h1 : l.length < 2
      · rw [if_pos h1] at h; cases h
      rw [if_neg h1] at h
      by_cases h2 : (l.drop 2).length < valN (l.take 2)
      · rw [if_pos h2] at h; cases h
      · rw [if_neg h2] at h; cases h
    | data a A e c =>
      rw [getG_data] at h
      by_cases h1 : l.length < 2
      · rw [if_pos h1] at h; cases h
      rw [if_neg h1] at h
      by_cases h2 : (l.drop 2).length < valN (l.take 2)
      · rw [if_pos h2] at h; cases h
      · rw [if_neg h2] at h
        cases h
        rw [List.length_take, List.length_drop]
        omega
theorem take_len (N : Nat) : ∀ (ps : List Pv) (q : Rq) (l : List Int) (q2 : Rq) (r : List Int), q.data.length ≤ N → l.length ≤ N → takeG updQ ps q l = some (q2, r) → q2.data.length ≤ N ∧ r.length ≤ N
  | [], q, l, q2, r, hq, hl, h => by cases h; exact ⟨hq, hl⟩
  | p :: t, q, l, q2, r, hq, hl, h => by
    cases hG : getG p l with
    | none => rw [takeG_no hG] at h; cases h
    | some xr =>
      obtain ⟨x, r'⟩ := xr
      rw [takeG_yes hG] at h
      exact take_len N t _ r' q2 r (upd_len N q p l r' x hq hl hG) (Nat.le_trans (getG_part hG).1 hl) h
/-- The bytes of the answer are no more than what came. -/
theorem asked_len (l : List Int) : (askedF 0 l).1.data.length ≤ l.length := by
  unfold askedF
  cases h1 : takeG updQ (begunV 0 zeroQ) zeroQ l with
  | none => exact Nat.zero_le _
  | some qr =>
    obtain ⟨q, r⟩ := qr
    obtain ⟨hq, hr⟩ := take_len l.length _ _ _ _ _ (Nat.zero_le _) (Nat.le_refl _) h1
    dsimp only
    by_cases hk : ¬ (1 ≤ q.kind ∧ q.kind ≤ 10)
    · rw [if_pos hk]; exact Nat.zero_le _
    rw [if_neg hk]
    cases h2 : takeG updQ (partsV 0 q) q r with
    | none => exact Nat.zero_le _
    | some qr2 =>
      obtain ⟨q2, r2⟩ := qr2
      obtain ⟨hq2, _⟩ := take_len l.length _ _ _ _ _ hq hr h2
      dsimp only
      by_cases h3 : 0 < r2.length
      · rw [if_pos h3]; exact Nat.zero_le _
      rw [if_neg h3]
      by_cases h4 : allG 0 (partsV 0 q2) ≠ 0
      · rw [if_pos h4]; exact Nat.zero_le _
      · rw [if_neg h4]; exact hq2
end Go.Proofs.Ytkghoodhgihokaa.Msg
