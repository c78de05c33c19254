/- Fetch: slices.Delete of wants. -/
import Derived.Test.YtkghoodhgihokaaXFetchB
import Derived.Lib.SliceRun
import Derived.Shelf.RegionOpenPlain
import Derived.Deep.RegionLaw
namespace Go.Proofs.Ytkghoodhgihokaa.Fetch
open Go.RowKit Go.Lib Go.Proofs.YtkghoodhgihokaaW.PrintWords Go.Proofs.YtkghoodhgihokaaW.PrintLast Go.Proofs.YtkghoodhgihokaaW.PrintMore Go.Proofs.Ytkghoodhgihokaa.HFetchPlays
set_option linter.unusedVariables false
set_option linter.unusedSimpArgs false
/-- The cells of wants. -/
def flat (l : List S61) : List Value := l.flatMap fun x => [.int .i64 x.f0, .int .i64 x.f1]
theorem flat_length (l : List S61) : (flat l).length = l.length * 2 := by
  induction l with
  | nil => rfl
  | cons x t ih => show ([Value.int .i64 x.f0, .int .i64 x.f1] ++ flat t).length = _; rw [List.length_append, ih, List.length_cons]; simp; omega
theorem flat_cons (x : S61) (t : List S61) : flat (x :: t) = .int .i64 x.f0 :: .int .i64 x.f1 :: flat t := rfl
theorem flat_append (a b : List S61) : flat (a ++ b) = flat a ++ flat b := by unfold flat; rw [List.flatMap_append]
theorem flat_drop (l : List S61) : ∀ j, (flat l).drop (j * 2) = flat (l.drop j) := by
  induction l with
  | nil => intro j; simp [flat]
  | cons x t ih =>
    intro j
    cases j with
    | zero => simp
    | succ j =>
      rw [flat_cons, show (j + 1) * 2 = j * 2 + 1 + 1 by omega, List.drop_succ_cons, List.drop_succ_cons, ih j, List.drop_succ_cons]
theorem flat_take (l : List S61) : ∀ j, (flat l).take (j * 2) = flat (l.take j) := by
  induction l with
  | nil => intro j; simp [flat]
  | cons x t ih =>
    intro j
    cases j with
    | zero => simp [flat]
    | succ j =>
      rw [flat_cons, show (j + 1) * 2 = j * 2 + 1 + 1 by omega, List.take_succ_cons, List.take_succ_cons, ih j, List.take_succ_cons, flat_cons]
theorem reps_flat {R : S61 → List Value → Prop} (hR : ∀ x cs, R x cs → cs = [.int .i64 x.f0, .int .i64 x.f1]) : ∀ (l : List S61) (cs : List Value), Reps R 2 l cs → cs = flat l
  | [], cs, h => by have := h.1; simp at this; exact this
  | x :: t, cs, h => by
    have h0 := hR _ _ (h.2 0 x rfl)
    rw [Nat.zero_mul, List.drop_zero] at h0
    have ht : Reps R 2 t (cs.drop 2) := ⟨by rw [List.length_drop, h.1, List.length_cons]; omega, fun j p hp => by have := h.2 (j + 1) p (by simpa using hp); rwa [show (j + 1) * 2 = 2 + j * 2 by omega, ← List.drop_drop] at this⟩
    have := reps_flat hR t _ ht
    rw [← List.take_append_drop 2 cs, h0, this]
    rfl
theorem flat_reps {R : S61 → List Value → Prop} (hR : ∀ x, R x [.int .i64 x.f0, .int .i64 x.f1]) : ∀ (l : List S61), Reps R 2 l (flat l)
  | [] => Reps.none _ _
  | x :: t => Reps.c2 (hR x) (flat_reps hR t)
/-- A row of wants, its block told. -/
theorem row_open {M : Nat → Prop} {B : Nat} {w : World} {g n c : Nat} {l : List S61} (h : Kd.R k61 61 w B M (.slice (some ⟨g, 0, none⟩) n c) l) : M g ∧ B ≤ g ∧ n = l.length ∧ n ≤ c ∧ c ≤ maxLen ∧ ∃ cur, w.heap[g]? = some (.cells cur 61 (0, 0)) ∧ cur.size = c * 2 ∧ cur.toList.take (n * 2) = flat l := by
  obtain ⟨h0, inner, ⟨hl, h1⟩, hr⟩ := h
  have hi := reps_flat (fun x cs h => k61_openM h) l inner hr
  rcases h1 with ⟨h1, _⟩ | ⟨g', cap, cur, he, hb, hg, hn, hm, hs, ht⟩
  · cases h1
  · cases he
    subst hi
    exact ⟨h0 g rfl, hb, rfl, hn, hm, cur, hg, hs, ht⟩
theorem row_mk {M : Nat → Prop} {B : Nat} {w : World} {g c : Nat} {l : List S61} {cur : Array Value} (hM : M g) (hb : B ≤ g) (hn : l.length ≤ c) (hc : c ≤ maxLen) (hg : w.heap[g]? = some (.cells cur 61 (0, 0))) (hs : cur.size = c * 2) (ht : cur.toList.take (l.length * 2) = flat l) : Kd.R k61 61 w B M (.slice (some ⟨g, 0, none⟩) l.length c) l :=
  ⟨fun k hk => by simp [Value.ownBlock] at hk; subst hk; exact hM, flat l, ⟨flat_length l, .inr ⟨g, c, cur, rfl, hb, hg, hn, hc, hs, ht⟩⟩, flat_reps (fun x => k61_mkM _ _ _ x) l⟩
theorem clear_one (w : World) (ty : TypeId) (b o c : Nat) (hc : ∀ j, j < 2 → (w.cell? ⟨b, o + j, none⟩).isSome = true) (hf : ∀ j, j < 2 → w.frozen? ⟨b, o + j, none⟩ = false) :
    (Builtin.clear_ #[57] ty #[.slice (some ⟨b, o, none⟩) 1 c]).run Try.prog w = .ok (.tuple #[]) (w.setCells b o [.int .i64 0, .int .i64 0]) := by
  have hst := run_storeCells_cells (P := Try.prog) b o [.int .i64 0, .int .i64 0] 0 w (by simpa using hc) (by simpa using hf) (by intro v hv; simp at hv; rw [hv]; rfl)
  simp only [Nat.add_zero] at hst
  have hv : ∀ w, (zeroValue 61).run Try.prog w = .ok (.agg #[.int .i64 0, .int .i64 0]) w := fun w => by kernel_rfl
  have hzc : (Builtin.zeroCells (Value.agg #[.int .i64 0, .int .i64 0]).cells 1).toList = [.int .i64 0, .int .i64 0] := by
    simp [Builtin.zeroCells]
    apply List.ext_getElem
    · simp [Value.cells]
    · intro i h1 h2
      have : i = 0 ∨ i = 1 := by simp at h2; omega
      rcases this with rfl | rfl <;> simp [Value.cells]
  simp [Builtin.clear_, run_underlying Try.underlying57, hv, hzc, hst]
theorem erase_flat (l : List S61) (i : Nat) (hi : i < l.length) : flat (l.eraseIdx i) = flat (l.take i) ++ flat (l.drop (i + 1)) := by
  rw [List.eraseIdx_eq_take_drop_succ, flat_append]
set_option maxHeartbeats 4000000 in
set_option maxRecDepth 100000 in
theorem delete_calls (M : Nat → Prop) (B g c : Nat) (l : List S61) (i j : Nat) (w : World) (h : Kd.R k61 61 w B M (.slice (some ⟨g, 0, none⟩) l.length c) l) (hj : j = i + 1) (hi : i < l.length) :
    Calls Try.prog 94 #[.slice (some ⟨g, 0, none⟩) l.length c, .int .i64 (i : Int), .int .i64 (j : Int)] w fun e w' => e = .returned (.slice (some ⟨g, 0, none⟩) (l.eraseIdx i).length c) ∧ Kd.R k61 61 w' B M (.slice (some ⟨g, 0, none⟩) (l.eraseIdx i).length c) (l.eraseIdx i) ∧ w.grownBy w' (some g) := by
  obtain ⟨hM, hB, _, hn, hm, cur, hg, hs, ht⟩ := row_open h
  have hm' : c ≤ 9223372036854775807 := by simpa [maxLen] using hm
  clear h
  obtain ⟨n, hnl⟩ : ∃ n, l.length = n := ⟨_, rfl⟩
  have hel : (l.eraseIdx i).length = i + (n - j) := by rw [List.length_eraseIdx_of_lt hi, hnl]; omega
  rw [hel]
  rw [hnl] at hi hn ht ⊢
  obtain ⟨news, hnews⟩ : ∃ news, news = flat (l.drop j) := ⟨_, rfl⟩
  have hlen : news.length = (n - j) * 2 := by rw [hnews, flat_length, List.length_drop, hnl]
  have hcell : ∀ t, w.cell? ⟨g, t, none⟩ = cur[t]? := fun t => blk_cell hg t
  have hget : ∀ t, t < news.length → news[t]? = cur[j * 2 + t]? := by
    intro t h1
    rw [hnews, ← flat_drop, ← ht, List.getElem?_drop, List.getElem?_take_of_lt (by omega), Array.getElem?_toList]
  obtain ⟨A, hA, hsrc⟩ : ∃ A : Addr, (if c = j then some (⟨g, 0, none⟩ : Addr) else some ⟨g, j * 2, none⟩) = some A ∧ Aside0 (∀ t u, news[t]? = some u → w.drew.cell? (A.add t) = some u) := by
    by_cases h : c = j
    · refine ⟨⟨g, 0, none⟩, by simp [h], ⟨fun t u hu => ?_⟩⟩
      have h0 : news.length = 0 := by rw [hlen]; omega
      rw [List.length_eq_zero_iff.1 h0] at hu
      simp at hu
    · refine ⟨⟨g, j * 2, none⟩, by simp [h], ⟨fun t u hu => ?_⟩⟩
      have h1 := (List.getElem?_eq_some_iff.1 hu).1
      rw [hget t h1] at hu
      rw [Addr.add_lit]
      exact (hcell _).trans hu
  have s1 : Aside0 (news.length = (n - j) * 2) := ⟨hlen⟩
  have s2 : Aside0 (∀ u ∈ news, u.oneCell' = true) := ⟨by
    intro u hu
    rw [hnews] at hu
    unfold flat at hu
    rw [List.mem_flatMap] at hu
    obtain ⟨x, _, hx⟩ := hu
    simp at hx
    rcases hx with rfl | rfl <;> rfl⟩
  have s3 : Aside0 (∀ t, t < news.length → (w.drew.cell? ⟨g, 0 + i * 2 + t, none⟩).isSome = true ∧ w.drew.frozen? ⟨g, 0 + i * 2 + t, none⟩ = false) := ⟨by
    intro t h1
    refine ⟨?_, blk_frozen (w := w.drew) hg _⟩
    show (w.cell? _).isSome = true
    rw [hcell, Array.getElem?_eq_getElem (by omega)]
    rfl⟩
  obtain ⟨W1, hW1⟩ : ∃ W1, W1 = w.drew.setCells g (0 + i * 2) news := ⟨_, rfl⟩
  obtain ⟨cur1, hg1, hs1, ht1⟩ := setCells_row news (0 + i * 2) w.drew cur hg (by omega)
  rw [← hW1] at hg1
  have hcl : ∀ ty, (Builtin.clear_ #[57] ty #[.slice (some ⟨g, (i + (n - j)) * 2, none⟩) (n - (i + (n - j))) (c - (i + (n - j)))]).run Try.prog W1 = .ok (.tuple #[]) (W1.setCells g ((i + (n - j)) * 2) [.int .i64 0, .int .i64 0]) := by
    intro ty
    rw [show n - (i + (n - j)) = 1 by omega]
    refine clear_one W1 ty g _ _ (fun t ht => ?_) (fun t _ => blk_frozen hg1 _)
    rw [blk_cell hg1, Array.getElem?_eq_getElem (by omega)]
    rfl
  obtain ⟨cur2, hg2, hs2, ht2⟩ := setCells_row [.int .i64 0, .int .i64 0] ((i + (n - j)) * 2) W1 cur1 hg1 (by simp; omega)
  have HW : Aside0 (W1 = w.drew.setCells g (0 + i * 2) news) := ⟨hW1⟩
  have HG2 := Aside0.mk hg2
  have HGR : Aside0 (w.grownBy (W1.setCells g ((i + (n - j)) * 2) [.int .i64 0, .int .i64 0]) (some g)) := ⟨by
    obtain ⟨e1, e2, e3, e4⟩ := setCells_same g [.int .i64 0, .int .i64 0] ((i + (n - j)) * 2) W1
    obtain ⟨f1, f2, f3, f4⟩ := setCells_same g news (0 + i * 2) w.drew
    rw [← hW1] at f1 f2 f3 f4
    refine ⟨e1.trans f1, e2.trans f2, e3.trans f3, Nat.le_of_eq (f4.symm.trans e4.symm), fun k hk hne => ?_⟩
    have hne : k ≠ g := fun e => hne (by rw [e])
    rw [setCells_far _ _ k hne, hW1, setCells_far _ _ k hne]
    rfl⟩
  have HRR : Aside0 (Kd.R k61 61 (W1.setCells g ((i + (n - j)) * 2) [.int .i64 0, .int .i64 0]) B M (.slice (some ⟨g, 0, none⟩) (i + (n - j)) c) (l.eraseIdx i)) := ⟨by
    have ht3 : cur2.toList.take ((l.eraseIdx i).length * 2) = flat (l.eraseIdx i) := by
      rw [hel, ht2, List.append_assoc, List.take_append_of_le_length (by rw [List.length_take, Array.length_toList]; omega), List.take_take, Nat.min_self, ht1]
      rw [List.take_append_of_le_length (by rw [List.length_append, List.length_take, Array.length_toList]; omega)]
      rw [List.take_of_length_le (by rw [List.length_append, List.length_take]; omega)]
      have e1 : cur.toList.take (0 + i * 2) = flat (l.take i) := by
        rw [← flat_take, ← ht, List.take_take, Nat.zero_add, Nat.min_eq_left (by omega)]
      rw [e1, hnews, hj, erase_flat l i (by omega)]
    have hrm := row_mk hM hB (show (l.eraseIdx i).length ≤ c by omega) hm hg2 (by rw [hs2, hs1, hs]) ht3
    rw [hel] at hrm
    exact hrm⟩
  have hic : i ≤ c := by omega
  have hjc : j ≤ c := by omega
  have hlt : i < j := by omega
  have hjn : j ≤ n := by omega
  clear hnews hlen hcell hget hW1 hg1 hs1 ht1 hg2 hs2 ht2 hg hs ht hel hnl hM hB hm
  have hk1 : i + (n - j) < n := by omega
  have hk2 : ¬ c = i + (n - j) := by omega
  obtain ⟨i0, hi0, hz⟩ := Option.map_eq_some_iff.1 info61b
  have hz1 : i0.size = 2 := by simp only [Prod.mk.injEq] at hz; exact hz.2.1
  clear hj hi hz
  have hmx : Try.prog.follows .mixedOrders = true := by kernel_rfl
  go_enter Try.func94, Try.ntmps94
  go_wp2_with fail
  go_region_law_o (refine step_append_room rfl (.tmp 22) (.tmp 25) 57 rfl 61 i0 2 Try.underlying57 hi0 hz1 g 0 i c (by simp [Act.eval, Act.put]) A (n - j) (c - j) news (by simp [Act.eval, Act.put]) s1.out hsrc.out s2.out (by omega) s3.out ?_; rw [← HW.out])
  go_wp2
  go_ret
  exact ⟨rfl, HRR.out, HGR.out⟩
end Go.Proofs.Ytkghoodhgihokaa.Fetch
