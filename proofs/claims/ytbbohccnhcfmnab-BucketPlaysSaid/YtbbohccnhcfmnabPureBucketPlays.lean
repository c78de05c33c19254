/- bucket.Play answers what its reference answers, at every two whole numbers of 64 bits and every slice of packets; no further condition. -/
import Derived.Test.YtbbohccnhcfmnabXOBucketPlays3
import Derived.Test.YtbbohccnhcfmnabHelp
namespace Go.Proofs.Ytbbohccnhcfmnab.Pure
open Go.RowKit Go.Proofs.Ytbbohccnhcfmnab.PBucketPlays Go.Proofs.YtbbohccnhcfmnabW.PrintWords Go.Proofs.YtbbohccnhcfmnabW.PrintLast Go.Proofs.YtbbohccnhcfmnabW.PrintMore Go.Proofs.Ytbbohccnhcfmnab.Help
set_option linter.unusedSimpArgs false
set_option linter.unusedVariables false

abbrev Pk := S46
theorem rdT (l : List Pk) (i : Nat) (x : Pk) (t : List Pk) (h : l.drop i = x :: t) : rd_T46 l (i : Int) = x ∧ l.drop (i + 1) = t ∧ i < l.length := by
  have hl : i < l.length := by
    rcases Nat.lt_or_ge i l.length with h1 | h1
    · exact h1
    · rw [List.drop_eq_nil_of_le h1] at h; cases h
  have h2 := List.drop_eq_getElem_cons hl
  rw [h] at h2
  injection h2 with h3 h4
  exact ⟨by simp [rd_T46, List.getD_eq_getElem?_getD, List.getElem?_eq_getElem hl, h3], h4.symm, hl⟩

/-! ### The law, of lists alone: what is behind (the last one first), with what passed -/
/-- The credit behind what came: 'behind' holds each packet and whether it passed. -/
def after (rate burst : Int) : List (Pk × Bool) → Int
  | [] => burst
  | (p, ok) :: r => (match r with
    | [] => burst
    | (q, _) :: _ => min burst (after rate burst r + rate * (p.f0 - q.f0))) - (if ok then p.f1 else 0)
/-- The credit at a time ahead of a packet. -/
def ahead (rate burst : Int) (at_ : Int) : List (Pk × Bool) → Int
  | [] => burst
  | (q, ok) :: r => min burst (after rate burst ((q, ok) :: r) + rate * (at_ - q.f0))
theorem after_eq (rate burst : Int) (p : Pk) (ok : Bool) (r : List (Pk × Bool)) : after rate burst ((p, ok) :: r) = ahead rate burst p.f0 r - (if ok then p.f1 else 0) := by
  cases r with
  | nil => simp [after, ahead]
  | cons q r => obtain ⟨q, o⟩ := q; simp [after, ahead]
/-- The reference: all that is behind is looked at. -/
def looked (rate burst at_ : Int) : Int → Int → List (Pk × Bool) → Int
  | credit, _, [] => credit
  | credit, passed, (q, ok) :: r =>
    looked rate burst at_ (min credit (burst + rate * (at_ - q.f0) - (passed + if ok then q.f1 else 0))) (passed + if ok then q.f1 else 0) r
theorem looked_min (rate burst at_ c p : Int) (r : List (Pk × Bool)) : ∀ d, looked rate burst at_ (min c d) p r = min c (looked rate burst at_ d p r) := by
  induction r generalizing c p with
  | nil => intro d; rfl
  | cons q r ih =>
    intro d
    obtain ⟨q, ok⟩ := q
    simp only [looked]
    rw [show min (min c d) (burst + rate * (at_ - q.f0) - (p + if ok then q.f1 else 0)) = min c (min d (burst + rate * (at_ - q.f0) - (p + if ok then q.f1 else 0))) by omega, ih]
theorem looked_shift (rate burst a b c p s : Int) (r : List (Pk × Bool)) : looked rate burst a (c + rate * (a - b) - s) (p + s) r = looked rate burst b c p r + rate * (a - b) - s := by
  induction r generalizing c p with
  | nil => rfl
  | cons q r ih =>
    obtain ⟨q, ok⟩ := q
    simp only [looked]
    rw [← ih]
    have e : rate * (a - q.f0) = rate * (b - q.f0) + rate * (a - b) := by rw [← Int.mul_add]; congr 1; omega
    rw [e]
    generalize rate * (b - q.f0) = u
    generalize rate * (a - b) = v
    generalize (if ok = true then q.f1 else 0) = w
    rw [show p + s + w = p + w + s by omega, show min (c + v - s) (burst + (u + v) - (p + w + s)) = min c (burst + u - (p + w)) + v - s by omega]
theorem looked_eq (rate burst at_ : Int) (r : List (Pk × Bool)) : looked rate burst at_ burst 0 r = ahead rate burst at_ r := by
  induction r generalizing at_ with
  | nil => rfl
  | cons q r ih =>
    obtain ⟨q, ok⟩ := q
    simp only [looked]
    rw [show ahead rate burst at_ ((q, ok) :: r) = min burst (after rate burst ((q, ok) :: r) + rate * (at_ - q.f0)) from rfl, after_eq, looked_min, ← ih q.f0]
    have := looked_shift rate burst at_ q.f0 burst 0 (if ok then q.f1 else 0) r
    rw [show burst + rate * (at_ - q.f0) - (0 + if ok = true then q.f1 else 0) = burst + rate * (at_ - q.f0) - (if ok = true then q.f1 else 0) by omega, this]
    congr 1
    omega
/-- What is told of packets, one by one. -/
def passes (rate burst : Int) : List (Pk × Bool) → List Pk → List Bool
  | _, [] => []
  | r, p :: t => decide (p.f1 ≤ ahead rate burst p.f0 r) :: passes rate burst ((p, decide (p.f1 ≤ ahead rate burst p.f0 r)) :: r) t
def old : Option Int → Int → Bool
  | none, _ => false
  | some q, a => decide (a < q)
/-- What is refused: the first one that may not be. -/
def refused : Option Int → List Pk → Int
  | _, [] => 0
  | last, p :: t => if p.f0 < 0 ∨ p.f0 > 1048576 ∨ p.f1 < 1 ∨ p.f1 > 1500 then 2 else if old last p.f0 = true then 17 else refused (some p.f0) t

/-! ### What the two functions compute -/
theorem mulbd {r d : Int} (h0 : 0 ≤ r) (h1 : r ≤ 1000) (h2 : -1048576 ≤ d) (h3 : d ≤ 1048576) : -1048576000 ≤ r * d ∧ r * d ≤ 1048576000 ∧ (0 ≤ d → 0 ≤ r * d) := by
  refine ⟨?_, ?_, fun h => Int.mul_nonneg h0 h⟩
  · have := Int.mul_le_mul_of_nonneg_left h2 h0
    have := Int.mul_le_mul_of_nonneg_right h1 (show (0 : Int) ≤ 1048576 by omega)
    omega
  · have := Int.mul_le_mul_of_nonneg_left h3 h0
    have := Int.mul_le_mul_of_nonneg_right h1 (show (0 : Int) ≤ 1048576 by omega)
    omega
theorem in_eq (a b c : Int) : bucket_in.f a b c = some (decide (b ≤ a ∧ a ≤ c)) := by
  simp only [bucket_in.f]
  by_cases h : a ≥ b
  · simp [h]
  · simp [h]
/-- What both come to. -/
def comes (rate burst : Int) (last : Option Int) (r : List (Pk × Bool)) (o : List Bool) (t : List Pk) : List Bool × Int := if refused last t = 0 then (o ++ passes rate burst r t, 0) else ([], refused last t)
theorem refused_on {last : Option Int} {p : Pk} {t : List Pk} (h : ¬ (p.f0 < 0 ∨ p.f0 > 1048576 ∨ p.f1 < 1 ∨ p.f1 > 1500)) (h' : old last p.f0 = false) : refused last (p :: t) = refused (some p.f0) t := by
  rw [refused, if_neg h, h', if_neg (by simp)]
theorem refused_bad {last : Option Int} {p : Pk} {t : List Pk} (h : p.f0 < 0 ∨ p.f0 > 1048576 ∨ p.f1 < 1 ∨ p.f1 > 1500) : refused last (p :: t) = 2 := by rw [refused, if_pos h]
theorem refused_old {last : Option Int} {p : Pk} {t : List Pk} (h : ¬ (p.f0 < 0 ∨ p.f0 > 1048576 ∨ p.f1 < 1 ∨ p.f1 > 1500)) (h' : old last p.f0 = true) : refused last (p :: t) = 17 := by
  rw [refused, if_neg h, h', if_pos rfl]
theorem comes_no {rate burst : Int} {last : Option Int} {r : List (Pk × Bool)} {o : List Bool} {t : List Pk} {n : Int} (h : refused last t = n) (hn : n ≠ 0) : comes rate burst last r o t = ([], n) := by
  unfold comes
  rw [h, if_neg hn]
theorem comes_on {rate burst : Int} {last : Option Int} {r : List (Pk × Bool)} {o : List Bool} {p : Pk} {t : List Pk} (h : refused last (p :: t) = refused (some p.f0) t) :
    comes rate burst last r o (p :: t) = comes rate burst (some p.f0) ((p, decide (p.f1 ≤ ahead rate burst p.f0 r)) :: r) (o ++ [decide (p.f1 ≤ ahead rate burst p.f0 r)]) t := by
  unfold comes
  rw [h, passes]
  simp
theorem refused_cases (last : Option Int) (t : List Pk) : refused last t = 0 ∨ refused last t = 2 ∨ refused last t = 17 := by
  induction t generalizing last with
  | nil => simp [refused]
  | cons p t ih =>
    unfold refused
    split
    · simp
    · split
      · simp
      · exact ih _
def lastOf : List (Pk × Bool) → Option Int
  | [] => none
  | (q, _) :: _ => some q.f0
theorem own_loop {rate burst : Int} (hr0 : 0 ≤ rate) (hr1 : rate ≤ 1000) (hb0 : 0 ≤ burst) (hb1 : burst ≤ 100000) (l : List Pk) (hl : l.length ≤ 300) (t : List Pk) : ∀ (k i : Nat) (o : List Bool) (c last : Int) (r : List (Pk × Bool)),
    l.drop i = t → i ≤ l.length → o.length = i → r.length = i → c = after rate burst r → 0 ≤ c → c ≤ burst → (∀ q, lastOf r = some q → last = q ∧ 0 ≤ q ∧ q ≤ 1048576) → 3 * t.length < k →
    bucket_Play.l0 k rate burst o c last l (l.length : Int) (i : Int) = some (comes rate burst (lastOf r) r o t) := by
  induction t with
  | nil =>
    intro k i o c last r ht hi ho hrl hc hc0 hc1 hq hk
    obtain ⟨k, rfl⟩ : ∃ m, k = m + 1 := ⟨k - 1, by omega⟩
    have : l.length ≤ i := by simpa using ht
    simp only [bucket_Play.l0]
    rw [if_neg (by omega)]
    simp [comes, refused, passes]
  | cons x t ih =>
    intro k i o c last r ht hi ho hrl hc hc0 hc1 hq hk
    simp only [List.length_cons] at hk
    obtain ⟨k, rfl⟩ : ∃ m, k = m + 1 := ⟨k - 1, by omega⟩
    obtain ⟨h1, h2, h3⟩ := rdT l i x t ht
    simp only [bucket_Play.l0]
    rw [if_pos (by omega), if_pos (by omega), if_pos (by omega), h1, in_eq, in_eq]
    simp only [Option.bind_some]
    obtain ⟨k, rfl⟩ : ∃ m, k = m + 2 := ⟨k - 2, by omega⟩
    have hw : wrap64 ((i : Int) + 1) = ((i + 1 : Nat) : Int) := by rw [w64 (by omega) (by omega)]; omega
    by_cases g1 : 0 ≤ x.f0 ∧ x.f0 ≤ 1048576
    · rw [decide_eq_true g1, if_pos rfl]
      by_cases g2 : 1 ≤ x.f1 ∧ x.f1 ≤ 1500
      · rw [decide_eq_true g2]
        simp only [bucket_Play.j1]
        rw [if_neg (by simp)]
        have hA : ¬ (x.f0 < 0 ∨ x.f0 > 1048576 ∨ x.f1 < 1 ∨ x.f1 > 1500) := by omega
        by_cases hi0 : i = 0
        · subst hi0
          obtain rfl : r = [] := List.eq_nil_of_length_eq_zero hrl
          rw [if_neg (by omega)]
          simp only [bucket_Play.j2]
          rw [if_neg (by omega), if_pos (show o.length < 140737488355328 by omega), if_pos (show o.length < 140737488355328 by omega), w64 (x := c - x.f1) (by omega) (by omega), hw]
          have hcb : c = burst := hc
          have e : comes rate burst (lastOf []) [] o (x :: t) = comes rate burst (some x.f0) [(x, decide (x.f1 ≤ burst))] (o ++ [decide (x.f1 ≤ burst)]) t := comes_on (refused_on hA rfl)
          rw [e, hcb]
          by_cases g3 : x.f1 ≤ burst
          · rw [if_pos g3]
            exact ih k 1 _ _ _ [(x, decide (x.f1 ≤ burst))] h2 (by omega) (by simp [ho]) rfl (by simp [after, g3]) (by omega) (by omega) (by intro q hq; simp [lastOf] at hq; omega) (by omega)
          · rw [if_neg g3]
            exact ih k 1 _ _ _ [(x, decide (x.f1 ≤ burst))] h2 (by omega) (by simp [ho]) rfl (by simp [after, g3]) (by omega) (by omega) (by intro q hq; simp [lastOf] at hq; omega) (by omega)
        · have hi1 : (i : Int) > 0 := by clear hw hc hq ih hk h1 h2 h3 ht hA; omega
          rw [if_pos hi1]
          obtain ⟨q, r', rfl⟩ : ∃ q r', r = q :: r' := by
            cases r with
            | nil => simp at hrl; omega
            | cons q r' => exact ⟨q, r', rfl⟩
          obtain ⟨q, ok⟩ := q
          obtain ⟨rfl, hq0, hq1⟩ := hq q.f0 rfl
          by_cases g4 : x.f0 < q.f0
          · rw [if_pos g4]
            rw [comes_no (refused_old hA (by simp [old, lastOf, g4])) (by simp)]
          · rw [if_neg g4]
            have hm := mulbd hr0 hr1 (show -1048576 ≤ x.f0 - q.f0 by omega) (by omega)
            have hm0 := hm.2.2 (by omega)
            simp only [bucket_Play.j2]
            rw [if_pos (by omega), w64 (x := x.f0 - q.f0) (by omega) (by omega), w64 (x := rate * (x.f0 - q.f0)) (by omega) (by omega), w64 (x := c + rate * (x.f0 - q.f0)) (by omega) (by omega), mn_eq]
            have hah : min burst (c + rate * (x.f0 - q.f0)) = ahead rate burst x.f0 ((q, ok) :: r') := by rw [hc]; rfl
            have hb : 0 ≤ min burst (c + rate * (x.f0 - q.f0)) ∧ min burst (c + rate * (x.f0 - q.f0)) ≤ burst := by omega
            rw [hah] at hb ⊢
            rw [if_pos (show o.length < 140737488355328 by omega), if_pos (show o.length < 140737488355328 by omega), w64 (x := ahead rate burst x.f0 ((q, ok) :: r') - x.f1) (by omega) (by omega), hw]
            have e := comes_on (rate := rate) (burst := burst) (r := (q, ok) :: r') (o := o) (refused_on (last := lastOf ((q, ok) :: r')) (t := t) hA (by simp [old, lastOf, g4]))
            rw [e]
            by_cases g3 : x.f1 ≤ ahead rate burst x.f0 ((q, ok) :: r')
            · rw [if_pos g3]
              exact ih k (i + 1) _ _ _ ((x, decide (x.f1 ≤ ahead rate burst x.f0 ((q, ok) :: r'))) :: (q, ok) :: r') h2 (by omega) (by simp [ho]) (by simpa using hrl) (by rw [after_eq]; simp [g3]) (by omega) (by omega) (by intro q hq; simp [lastOf] at hq; omega) (by omega)
            · rw [if_neg g3]
              exact ih k (i + 1) _ _ _ ((x, decide (x.f1 ≤ ahead rate burst x.f0 ((q, ok) :: r'))) :: (q, ok) :: r') h2 (by omega) (by simp [ho]) (by simpa using hrl) (by rw [after_eq]; simp [g3]) (by omega) (by omega) (by intro q hq; simp [lastOf] at hq; omega) (by omega)
      · rw [decide_eq_false g2]
        simp only [bucket_Play.j1]
        rw [if_pos (by simp), comes_no (refused_bad (show x.f0 < 0 ∨ x.f0 > 1048576 ∨ x.f1 < 1 ∨ x.f1 > 1500 by omega)) (by simp)]
    · rw [decide_eq_false g1, if_neg (by simp)]
      simp only [bucket_Play.j1]
      rw [if_pos trivial, comes_no (refused_bad (show x.f0 < 0 ∨ x.f0 > 1048576 ∨ x.f1 < 1 ∨ x.f1 > 1500 by omega)) (by simp)]
theorem ref_check {rate burst : Int} (l : List Pk) (hl : l.length ≤ 300) (K : Nat) (t : List Pk) : ∀ (k i : Nat) (last : Option Int), l.drop i = t → i ≤ l.length → last = (if 0 < i then some (rd_T46 l ((i : Int) - 1)).f0 else none) → 2 * t.length + K < k →
    ∃ k', K ≤ k' ∧ packthreadref_BucketPlayed.l0 k rate burst l l (l.length : Int) (i : Int) = if refused last t = 0 then packthreadref_BucketPlayed.l1 k' rate burst l [] l (l.length : Int) 0 else some ([], refused last t) := by
  induction t with
  | nil =>
    intro k i last ht hi he hk
    obtain ⟨k, rfl⟩ : ∃ m, k = m + 1 := ⟨k - 1, by omega⟩
    have : l.length ≤ i := by simpa using ht
    refine ⟨k, by omega, ?_⟩
    simp only [packthreadref_BucketPlayed.l0]
    rw [if_neg (by omega)]
    simp [refused]
  | cons x t ih =>
    intro k i last ht hi he hk
    simp only [List.length_cons] at hk
    obtain ⟨k, rfl⟩ : ∃ m, k = m + 1 := ⟨k - 1, by omega⟩
    obtain ⟨h1, h2, h3⟩ := rdT l i x t ht
    simp only [packthreadref_BucketPlayed.l0]
    rw [if_pos (by omega), if_pos (by omega), if_pos (by omega), h1]
    obtain ⟨k, rfl⟩ : ∃ m, k = m + 1 := ⟨k - 1, by omega⟩
    have hw : wrap64 ((i : Int) + 1) = ((i + 1 : Nat) : Int) := by rw [w64 (by omega) (by omega)]; omega
    have bad : ∀ b, b = true → ∃ k', K ≤ k' ∧ packthreadref_BucketPlayed.j2 (k + 1) rate burst l (i : Int) l (l.length : Int) (i : Int) b x.f0 x.f1 = some ([], 2) := by
      intro b hb
      subst hb
      exact ⟨K, Nat.le_refl _, by simp only [packthreadref_BucketPlayed.j2]; rw [if_pos trivial]⟩
    by_cases g1 : x.f0 < 0
    · obtain ⟨k', hk', e⟩ := bad true rfl
      exact ⟨k', hk', by rw [if_pos g1, e, refused_bad (by omega), if_neg (by simp)]⟩
    · by_cases g2 : x.f0 > 1048576
      · obtain ⟨k', hk', e⟩ := bad true rfl
        exact ⟨k', hk', by rw [if_neg g1, if_pos g2, e, refused_bad (by omega), if_neg (by simp)]⟩
      · by_cases g3 : x.f1 < 1
        · obtain ⟨k', hk', e⟩ := bad true rfl
          exact ⟨k', hk', by rw [if_neg g1, if_neg g2, if_pos g3, e, refused_bad (by omega), if_neg (by simp)]⟩
        · by_cases g4 : x.f1 > 1500
          · obtain ⟨k', hk', e⟩ := bad _ (decide_eq_true g4)
            exact ⟨k', hk', by rw [if_neg g1, if_neg g2, if_neg g3, e, refused_bad (by omega), if_neg (by simp)]⟩
          · have hA : ¬ (x.f0 < 0 ∨ x.f0 > 1048576 ∨ x.f1 < 1 ∨ x.f1 > 1500) := by omega
            rw [if_neg g1, if_neg g2, if_neg g3, decide_eq_false g4]
            simp only [packthreadref_BucketPlayed.j2]
            rw [if_neg (by simp), hw]
            obtain ⟨k', hk', e⟩ := ih k (i + 1) (some x.f0) h2 (by omega) (by rw [if_pos (by omega), show ((i + 1 : Nat) : Int) - 1 = i by omega, h1]) (by omega)
            by_cases hi0 : 0 < i
            · rw [if_pos hi0] at he
              have hi1 : (i : Int) > 0 := by omega
              rw [if_pos hi1, w64 (x := (i : Int) - 1) (by omega) (by omega), if_pos (by omega), if_pos (by omega)]
              by_cases g5 : x.f0 < (rd_T46 l ((i : Int) - 1)).f0
              · exact ⟨K, Nat.le_refl _, by rw [if_pos g5, refused_old hA (by rw [he]; simp [old, g5]), if_neg (by simp)]⟩
              · exact ⟨k', hk', by rw [if_neg g5, refused_on hA (by rw [he]; simp [old]; omega)]; exact e⟩
            · have hi1 : ¬ (i : Int) > 0 := by omega
              rw [if_neg hi0] at he
              exact ⟨k', hk', by rw [if_neg hi1, refused_on hA (by rw [he]; rfl)]; exact e⟩
/-- The first j packets with what was told of them, the last one first. -/
def beh (l : List Pk) (o : List Bool) : Nat → List (Pk × Bool)
  | 0 => []
  | j + 1 => (rd_T46 l (j : Int), rdOf false o (j : Int)) :: beh l o j
theorem beh_more (l : List Pk) (o : List Bool) (b : Bool) (j : Nat) (h : j ≤ o.length) : beh l (o ++ [b]) j = beh l o j := by
  induction j with
  | zero => rfl
  | succ j ih =>
    simp only [beh]
    rw [ih (by omega)]
    congr 2
    simp [rdOf, List.getD_eq_getElem?_getD, List.getElem?_append_left (show j < o.length by omega)]
theorem refused_all {last : Option Int} {t : List Pk} (h : refused last t = 0) : ∀ x ∈ t, 0 ≤ x.f0 ∧ x.f0 ≤ 1048576 ∧ 1 ≤ x.f1 ∧ x.f1 ≤ 1500 := by
  induction t generalizing last with
  | nil => simp
  | cons p t ih =>
    by_cases hA : p.f0 < 0 ∨ p.f0 > 1048576 ∨ p.f1 < 1 ∨ p.f1 > 1500
    · rw [refused_bad hA] at h; simp at h
    · cases ho : old last p.f0 with
      | true => rw [refused_old hA ho] at h; simp at h
      | false =>
        rw [refused_on hA ho] at h
        intro x hx
        rcases List.mem_cons.1 hx with rfl | hx
        · omega
        · exact ih h x hx
theorem rd_in (l : List Pk) (j : Nat) (h : j < l.length) : rd_T46 l (j : Int) ∈ l := by
  simp [rd_T46, List.getD_eq_getElem?_getD, List.getElem?_eq_getElem h]
theorem ref_look {rate burst : Int} (hr0 : 0 ≤ rate) (hr1 : rate ≤ 1000) (hb0 : 0 ≤ burst) (hb1 : burst ≤ 100000) (l : List Pk) (hl : l.length ≤ 300) (hx : ∀ x ∈ l, 0 ≤ x.f0 ∧ x.f0 ≤ 1048576 ∧ 1 ≤ x.f1 ∧ x.f1 ≤ 1500)
    (o : List Bool) (i at_ size : Int) (ha0 : 0 ≤ at_) (ha1 : at_ ≤ 1048576) (k : Nat) (j : Nat) : ∀ (credit passed : Int), j ≤ o.length → o.length ≤ l.length → 0 ≤ passed → passed + 1500 * j ≤ 1000000 →
    packthreadref_BucketPlayed.l2 (k + j + 1) rate burst l o credit passed ((j : Int) - 1) l (l.length : Int) i at_ size = packthreadref_BucketPlayed.l1 k rate burst l (o ++ [decide (size ≤ looked rate burst at_ credit passed (beh l o j))]) l (l.length : Int) (wrap64 (i + 1)) := by
  induction j with
  | zero =>
    intro credit passed hj ho hp0 hp1
    simp only [packthreadref_BucketPlayed.l2]
    rw [if_neg (by omega), if_pos (by omega)]
    rfl
  | succ j ih =>
    intro credit passed hj ho hp0 hp1
    rw [show k + (j + 1) + 1 = (k + j + 1) + 1 by omega, show ((j + 1 : Nat) : Int) - 1 = (j : Int) by omega]
    have hq := hx _ (rd_in l j (by omega))
    have hm := mulbd hr0 hr1 (show -1048576 ≤ at_ - (rd_T46 l (j : Int)).f0 by omega) (by omega)
    rw [packthreadref_BucketPlayed.l2]
    rw [if_pos (by omega), if_pos (by omega), if_pos (by omega), if_pos (show (j : Int) < (l.length : Int) by omega), if_pos (show (j : Int) < (l.length : Int) by omega), w64 (x := (j : Int) - 1) (by omega) (by omega)]
    generalize hqq : rd_T46 l (j : Int) = q at hq hm ⊢
    rw [w64 (x := at_ - q.f0) (by omega) (by omega), w64 (x := rate * (at_ - q.f0)) (by omega) (by omega), w64 (x := burst + rate * (at_ - q.f0)) (by omega) (by omega), w64 (x := passed + q.f1) (by omega) (by omega), w64 (x := burst + rate * (at_ - q.f0) - passed) (by omega) (by omega), w64 (x := burst + rate * (at_ - q.f0) - (passed + q.f1)) (by omega) (by omega)]
    rw [show beh l o (j + 1) = (q, rdOf false o (j : Int)) :: beh l o j by rw [beh, hqq], looked]
    cases hb : rdOf false o (j : Int) with
    | true =>
      rw [if_pos rfl, if_pos rfl]
      by_cases g : burst + rate * (at_ - q.f0) - (passed + q.f1) < credit
      · rw [if_pos g, ih _ _ (by omega) ho (by omega) (by omega), show min credit (burst + rate * (at_ - q.f0) - (passed + q.f1)) = burst + rate * (at_ - q.f0) - (passed + q.f1) by omega]
      · rw [if_neg g, ih _ _ (by omega) ho (by omega) (by omega), show min credit (burst + rate * (at_ - q.f0) - (passed + q.f1)) = credit by omega]
    | false =>
      rw [if_neg (show ¬ (false = true) by simp), if_neg (show ¬ (false = true) by simp), Int.add_zero]
      by_cases g : burst + rate * (at_ - q.f0) - passed < credit
      · rw [if_pos g, ih _ _ (by omega) ho (by omega) (by omega), show min credit (burst + rate * (at_ - q.f0) - passed) = burst + rate * (at_ - q.f0) - passed by omega]
      · rw [if_neg g, ih _ _ (by omega) ho (by omega) (by omega), show min credit (burst + rate * (at_ - q.f0) - passed) = credit by omega]
theorem ref_pass {rate burst : Int} (hr0 : 0 ≤ rate) (hr1 : rate ≤ 1000) (hb0 : 0 ≤ burst) (hb1 : burst ≤ 100000) (l : List Pk) (hl : l.length ≤ 300) (hx : ∀ x ∈ l, 0 ≤ x.f0 ∧ x.f0 ≤ 1048576 ∧ 1 ≤ x.f1 ∧ x.f1 ≤ 1500)
    (t : List Pk) : ∀ (k i : Nat) (o : List Bool), l.drop i = t → i ≤ l.length → o.length = i → 305 * t.length < k →
    packthreadref_BucketPlayed.l1 k rate burst l o l (l.length : Int) (i : Int) = some (o ++ passes rate burst (beh l o i) t, 0) := by
  induction t with
  | nil =>
    intro k i o ht hi ho hk
    obtain ⟨k, rfl⟩ : ∃ m, k = m + 1 := ⟨k - 1, by omega⟩
    have : l.length ≤ i := by simpa using ht
    simp only [packthreadref_BucketPlayed.l1]
    rw [if_neg (by omega)]
    simp [passes]
  | cons x t ih =>
    intro k i o ht hi ho hk
    simp only [List.length_cons] at hk
    obtain ⟨k, rfl⟩ : ∃ m, k = m + i + 1 + 1 := ⟨k - i - 2, by omega⟩
    obtain ⟨h1, h2, h3⟩ := rdT l i x t ht
    have hxx := hx x (by rw [← h1]; exact rd_in l i h3)
    simp only [packthreadref_BucketPlayed.l1]
    rw [if_pos (by omega), if_pos (by omega), if_pos (by omega), h1, w64 (x := (i : Int) - 1) (by omega) (by omega), ref_look hr0 hr1 hb0 hb1 l hl hx o (i : Int) x.f0 x.f1 hxx.1 hxx.2.1 k i burst 0 (by omega) (by omega) (by omega) (by omega), looked_eq]
    have hw : wrap64 ((i : Int) + 1) = ((i + 1 : Nat) : Int) := by rw [w64 (by omega) (by omega)]; omega
    rw [hw, ih k (i + 1) _ h2 (by omega) (by simp [ho]) (by omega), passes]
    have e : beh l (o ++ [decide (x.f1 ≤ ahead rate burst x.f0 (beh l o i))]) (i + 1) = (x, decide (x.f1 ≤ ahead rate burst x.f0 (beh l o i))) :: beh l o i := by
      rw [beh, beh_more l o _ i (by omega), h1]
      congr 2
      simp [rdOf, List.getD_eq_getElem?_getD, ← ho]
    rw [e]
    simp
theorem same_loop (l : List Bool) (hl : l.length ≤ 9223372036854775806) (d : Nat) : ∀ (k i : Nat), l.length - i = d → i ≤ l.length → d < k → packthreadlaw_BucketPlays.l0 k l l (i : Int) = some true := by
  induction d with
  | zero =>
    intro k i hd hi hk
    obtain ⟨k, rfl⟩ : ∃ m, k = m + 1 := ⟨k - 1, by omega⟩
    simp only [packthreadlaw_BucketPlays.l0]
    rw [if_neg (by omega)]
  | succ d ih =>
    intro k i hd hi hk
    obtain ⟨k, rfl⟩ : ∃ m, k = m + 1 := ⟨k - 1, by omega⟩
    simp only [packthreadlaw_BucketPlays.l0]
    rw [if_pos (by omega), if_pos (by omega), if_pos (by omega), if_neg (by simp), w64 (by omega) (by omega)]
    exact ih k (i + 1) (by omega) (by omega) (by omega)
theorem passes_length (rate burst : Int) (r : List (Pk × Bool)) (t : List Pk) : (passes rate burst r t).length = t.length := by
  induction t generalizing r with
  | nil => rfl
  | cons p t ih => simp [passes, ih]
/-- Whatever both tell, the law finds it the same. -/
theorem law_of {k : Nat} {rate burst : Int} {l : List Pk} {x : List Bool × Int} (h1 : bucket_Play.f (k + 1) rate burst l = some x) (h2 : packthreadref_BucketPlayed.f (k + 1) rate burst l = some x) (hx : x.1.length ≤ 300) (hk : 300 < k) : packthreadlaw_BucketPlays.f (k + 1) rate burst l = some true := by
  simp only [packthreadlaw_BucketPlays.f, h1, h2, Option.bind_some]
  rw [if_pos trivial]
  simp only [packthreadlaw_BucketPlays.j0]
  rw [if_neg (by simp)]
  exact same_loop x.1 (by omega) x.1.length k 0 (by omega) (by omega) (by omega)

theorem BucketPlays (rate burst : Int) (l : List Pk) (h0 : (Lit.int .i64 rate).wf = true) (h1 : (Lit.int .i64 burst).wf = true) (_ : l.length * 16 ≤ 140737488351232 ∧ ∀ x ∈ l, (Lit.int .i64 x.f0).wf = true ∧ (Lit.int .i64 x.f1).wf = true) : ∃ k, packthreadlaw_BucketPlays.f k rate burst l = some true := by
  refine ⟨200000 + 1, ?_⟩
  by_cases g1 : 0 ≤ rate
  · by_cases g2 : rate ≤ 1000
    · by_cases g3 : 0 ≤ burst
      · by_cases g4 : burst ≤ 100000
        · by_cases g5 : (l.length : Int) > 300
          · refine law_of (x := ([], 1)) ?_ ?_ (by simp) (by omega)
            · simp [bucket_Play.f, bucket_may.f, in_eq, g1, g2, g3, g4, g5]
            · simp [packthreadref_BucketPlayed.f, packthreadref_BucketPlayed.j0, show ¬ rate < 0 by omega, show ¬ rate > 1000 by omega, show ¬ burst < 0 by omega, show ¬ burst > 100000 by omega, g5]
          · have hl : l.length ≤ 300 := by omega
            have e1 := own_loop g1 g2 g3 g4 l hl l 200001 0 [] burst 0 [] rfl (by omega) rfl rfl rfl g3 (by omega) (by simp [lastOf]) (by omega)
            obtain ⟨k', hk', e2⟩ := ref_check (rate := rate) (burst := burst) l hl 150000 l 200000 0 none rfl (by omega) (by simp) (by omega)
            simp only [Int.ofNat_zero] at e1 e2
            refine law_of (x := comes rate burst none [] [] l) ?_ ?_ ?_ (by omega)
            · simp only [bucket_Play.f, bucket_may.f, in_eq, Option.bind_some]
              rw [decide_eq_true (show 0 ≤ rate ∧ rate ≤ 1000 from ⟨g1, g2⟩), decide_eq_true (show 0 ≤ burst ∧ burst ≤ 100000 from ⟨g3, g4⟩)]
              simp only [if_true, Option.bind_some]
              rw [if_neg g5]
              exact e1
            · simp only [packthreadref_BucketPlayed.f, packthreadref_BucketPlayed.j0]
              rw [if_neg (show ¬ rate < 0 by omega), if_neg (show ¬ rate > 1000 by omega), if_neg (show ¬ burst < 0 by omega), decide_eq_false (show ¬ burst > 100000 by omega), if_neg (by simp), if_neg g5, e2]
              by_cases g6 : refused none l = 0
              · rw [if_pos g6]
                have e3 := ref_pass g1 g2 g3 g4 l hl (refused_all g6) l k' 0 [] rfl (by omega) rfl (by omega)
                simp only [Int.ofNat_zero] at e3
                rw [e3]
                unfold comes
                rw [if_pos g6]
                rfl
              · rw [if_neg g6, comes_no rfl g6]
            · unfold comes
              split
              · simp [passes_length]; omega
              · simp
        · refine law_of (x := ([], 2)) ?_ ?_ (by simp) (by omega)
          · simp [bucket_Play.f, bucket_may.f, in_eq, g1, g2, g3, g4]
          · simp [packthreadref_BucketPlayed.f, packthreadref_BucketPlayed.j0, show ¬ rate < 0 by omega, show ¬ rate > 1000 by omega, show ¬ burst < 0 by omega, show burst > 100000 by omega]
      · refine law_of (x := ([], 2)) ?_ ?_ (by simp) (by omega)
        · simp [bucket_Play.f, bucket_may.f, in_eq, g1, g2, g3]
        · simp [packthreadref_BucketPlayed.f, packthreadref_BucketPlayed.j0, show ¬ rate < 0 by omega, show ¬ rate > 1000 by omega, show burst < 0 by omega]
    · refine law_of (x := ([], 2)) ?_ ?_ (by simp) (by omega)
      · simp [bucket_Play.f, bucket_may.f, in_eq, g1, g2]
      · simp [packthreadref_BucketPlayed.f, packthreadref_BucketPlayed.j0, show ¬ rate < 0 by omega, show rate > 1000 by omega]
  · refine law_of (x := ([], 2)) ?_ ?_ (by simp) (by omega)
    · simp [bucket_Play.f, bucket_may.f, in_eq, g1]
    · simp [packthreadref_BucketPlayed.f, packthreadref_BucketPlayed.j0, show rate < 0 by omega]

end Go.Proofs.Ytbbohccnhcfmnab.Pure
