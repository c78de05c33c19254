/- Fetch: copy into the data. -/
import Derived.Test.YtkghoodhgihokaaXFetchE
import Derived.Laws.CopyRow
import Derived.Laws.IdiomCopy
namespace Go.Proofs.Ytkghoodhgihokaa.Fetch
open Go.RowKit Go.Lib Go.Proofs.YtkghoodhgihokaaW.PrintWords Go.Proofs.YtkghoodhgihokaaW.PrintLast Go.Proofs.YtkghoodhgihokaaW.PrintMore Go.Proofs.Ytkghoodhgihokaa.HFetchPlays
set_option linter.unusedVariables false
set_option linter.unusedSimpArgs false
theorem reps_b {l : List Int} {cs : List Value} (h : Reps (fun (x : Int) (cs : List Value) => cs = [Value.int .u8 x]) 1 l cs) : cs = l.map (Value.int .u8) := by
  apply List.ext_getElem?
  intro j
  have hl := h.1
  rw [Nat.mul_one] at hl
  rcases Nat.lt_or_ge j l.length with hj | hj
  · have h2 := h.2 j _ (List.getElem?_eq_getElem hj)
    have hj' : j < cs.length := by omega
    rw [Nat.mul_one, List.drop_eq_getElem_cons hj'] at h2
    have h5 := congrArg List.head? h2
    rw [List.take_succ_cons] at h5
    have h4 : cs[j] = Value.int .u8 l[j] := Option.some.inj h5
    rw [List.getElem?_eq_getElem hj', h4, List.getElem?_map, List.getElem?_eq_getElem hj]
    rfl
  · rw [List.getElem?_eq_none (by omega), List.getElem?_eq_none (by rw [List.length_map]; omega)]
theorem b_reps : ∀ (l : List Int), Reps (fun (x : Int) (cs : List Value) => cs = [Value.int .u8 x]) 1 l (l.map (Value.int .u8)) := by
  intro l
  refine ⟨by simp, fun j p hp => ?_⟩
  have hj := (List.getElem?_eq_some_iff.1 hp).1
  rw [Nat.mul_one, List.drop_eq_getElem_cons (by simpa using hj), List.take_succ_cons, List.getElem_map, (List.getElem?_eq_some_iff.1 hp).2]
  rfl
/-- A row of bytes, its block told. -/
theorem brow_open {M : Nat → Prop} {B : Nat} {w : World} {g n c : Nat} {l : List Int} (h : Kd.R (Kd.int .u8) 5 w B M (.slice (some ⟨g, 0, none⟩) n c) l) : M g ∧ B ≤ g ∧ n = l.length ∧ n ≤ c ∧ c ≤ maxLen ∧ ∃ cur, w.heap[g]? = some (.cells cur 5 (0, 0)) ∧ cur.size = c ∧ cur.toList.take n = l.map (Value.int .u8) := by
  obtain ⟨h0, inner, ⟨hl, h1⟩, hr⟩ := h
  have hi := reps_b hr
  rcases h1 with ⟨h1, _⟩ | ⟨g', cap, cur, he, hb, hg, hn, hm, hs, ht⟩
  · cases h1
  · cases he
    subst hi
    refine ⟨h0 g rfl, hb, rfl, hn, hm, cur, hg, ?_, ?_⟩
    · rw [hs]; exact Nat.mul_one _
    · rw [← ht]; exact congrArg (fun k => cur.toList.take k) (Nat.mul_one _).symm
theorem brow_mk {M : Nat → Prop} {B : Nat} {w : World} {g c : Nat} {l : List Int} {cur : Array Value} (hM : M g) (hb : B ≤ g) (hn : l.length ≤ c) (hc : c ≤ maxLen) (hg : w.heap[g]? = some (.cells cur 5 (0, 0))) (hs : cur.size = c) (ht : cur.toList.take l.length = l.map (Value.int .u8)) : Kd.R (Kd.int .u8) 5 w B M (.slice (some ⟨g, 0, none⟩) l.length c) l :=
  ⟨fun k hk => by simp [Value.ownBlock] at hk; subst hk; exact hM, l.map (Value.int .u8), ⟨by rw [List.length_map]; exact (Nat.mul_one _).symm, .inr ⟨g, c, cur, rfl, hb, hg, hn, hc, by rw [hs]; exact (Nat.mul_one _).symm, by rw [← ht]; exact congrArg (fun k => cur.toList.take k) (Nat.mul_one _)⟩⟩, b_reps l⟩
theorem info5b : (Try.prog.info? 5).map (·.size) = some 1 := by kernel_rfl
/-- What copy lays over. -/
def lay (D d : List Int) (o : Nat) : List Int := D.take o ++ d.take (D.length - o) ++ D.drop (o + d.length)
theorem lay_length (D d : List Int) (o : Nat) (ho : o ≤ D.length) : (lay D d o).length = D.length := by unfold lay; simp; omega
/-- copy(D[o:], d). -/
theorem copy_run {M : Nat → Prop} {B : Nat} {w : World} {D d : List Int} {Ad A Av : Option Addr} {cdd cd o : Nat} (hD : Kd.R (Kd.int .u8) 5 w B M (.slice Ad D.length cdd) D) (hd : Kd.C (Kd.int .u8) w A d.length d) (ho : o ≤ D.length) (hv : ∀ g, o < D.length → Ad = some ⟨g, 0, none⟩ → Av = some ⟨g, o, none⟩) :
    ∃ w' n, (∀ ty cv, (Builtin.copy_ #[27, 27] ty #[.slice Av (D.length - o) cv, .slice A d.length cd]).run Try.prog w = .ok (goInt n) w') ∧ Kd.R (Kd.int .u8) 5 w' B M (.slice Ad D.length cdd) (lay D d o) ∧ w.grownBy w' (Value.slice Ad D.length cdd).ownBlock := by
  by_cases h0 : min d.length (D.length - o) = 0
  · refine ⟨w, 0, fun ty cv => run_copy_none w 27 27 ty 5 Av A (D.length - o) cv d.length cd Try.underlying27 info5b h0, ?_, ⟨rfl, rfl, rfl, Nat.le_refl _, fun _ _ _ => rfl⟩⟩
    have e : lay D d o = D := by
      unfold lay
      rcases Nat.eq_zero_or_pos d.length with h1 | h1
      · rw [List.length_eq_zero_iff.1 h1]; simp
      · rw [show D.length - o = 0 by omega, List.drop_eq_nil_of_le (by omega), List.take_of_length_le (by omega)]; simp
    rw [e]
    exact hD
  · obtain ⟨g, cg, hvo, _, _, _⟩ := Kd.R_form hD (by omega)
    injection hvo with e1 _ e2
    subst e1 e2
    obtain ⟨hM, hB, _, hn, hm, cur, hg, hs, ht⟩ := brow_open hD
    obtain ⟨ad, rfl, hc⟩ := hd.2.2 (by omega)
    have hav := hv g (by omega) rfl
    subst hav
    obtain ⟨cs, hcs⟩ : ∃ cs, cs = (d.take (D.length - o)).map (Value.int .u8) := ⟨_, rfl⟩
    have hlen : cs.length = min d.length (D.length - o) := by rw [hcs]; simp; omega
    have hrun := fun ty cv => run_copy_row (P := Try.prog) w 27 27 ty 5 g o (D.length - o) cv ad d.length cd cur 5 cs Try.underlying27 info5b hg hlen (fun j v hj => by
        rw [hcs, List.getElem?_map, Option.map_eq_some_iff] at hj
        obtain ⟨x, hx, rfl⟩ := hj
        have hlt := (List.getElem?_eq_some_iff.1 hx).1
        rw [List.length_take] at hlt
        rw [List.getElem?_take_of_lt (by omega)] at hx
        obtain ⟨c, h1, h2, h3⟩ := hc j x hx
        have h2 : c = [Value.int .u8 x] := h2
        subst h2
        have := h3 0 _ rfl
        rwa [show j * (Kd.int .u8).sz + 0 = j from Nat.mul_one j] at this) (by omega) (fun v hv => by
        rw [hcs, List.mem_map] at hv
        obtain ⟨x, _, rfl⟩ := hv
        rfl)
    refine ⟨_, cs.length, hrun, ?_, ⟨rfl, rfl, rfl, by simp [World.setRow], fun k hk hne => setRow_other w g k _ (fun e => hne (by rw [e]; rfl))⟩⟩
    have hl2 := lay_length D d o ho
    rw [← hl2]
    refine brow_mk hM hB (by omega) hm (setRow_heap w g cur _ 5 _ hg) ?_ ?_
    · simp; omega
    · rw [hl2]
      have e3 : cur.toList = D.map (Value.int .u8) ++ cur.toList.drop D.length := by rw [← ht, List.take_append_drop]
      have e4 : cur.toList.take o = (D.take o).map (Value.int .u8) := by rw [e3, List.take_append_of_le_length (by simpa using ho), List.map_take]
      have e5 : cur.toList.drop (o + cs.length) = (D.drop (o + cs.length)).map (Value.int .u8) ++ cur.toList.drop D.length := by
        rw [e3, List.drop_append_of_le_length (by simp; omega), List.map_drop]
        simp [← e3]
      have e6 : D.drop (o + cs.length) = D.drop (o + d.length) := by
        rcases Nat.le_total d.length (D.length - o) with h | h
        · rw [hlen, Nat.min_eq_left h]
        · rw [List.drop_eq_nil_of_le (by omega), List.drop_eq_nil_of_le (by omega)]
      rw [List.toList_toArray, e4, e5, e6, hcs, ← List.append_assoc, ← List.map_append, ← List.map_append]
      have hl3 : (List.map (Value.int .u8) (lay D d o)).length = D.length := by rw [List.length_map]; exact hl2
      rw [show (D.take o ++ d.take (D.length - o) ++ D.drop (o + d.length)) = lay D d o from rfl]
      rw [List.take_append_of_le_length (by omega), List.take_of_length_le (by omega)]
end Go.Proofs.Ytkghoodhgihokaa.Fetch
