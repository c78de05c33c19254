/- frame.Feed answers what its reference answers, where the arguments hold together at most 1048576 values. -/
import Derived.Test.YtjhmjgcebijmiaaHFrameFeedsx
import Derived.Test.YtjhmjgcebijmiaaHelp
namespace Go.Proofs.Ytjhmjgcebijmiaa.Pure
open Go.RowKit Go.Proofs.Ytjhmjgcebijmiaa.HFrameFeeds Go.Proofs.YtjhmjgcebijmiaaW.PrintWords Go.Proofs.YtjhmjgcebijmiaaW.PrintLast Go.Proofs.YtjhmjgcebijmiaaW.PrintMore Go.Proofs.Ytjhmjgcebijmiaa.Help
set_option linter.unusedSimpArgs false
set_option linter.unusedVariables false

theorem same_loop (l : List Int) (hl : l.length ≤ 9223372036854775806) (d : Nat) : ∀ (k i : Nat), l.length - i = d → i ≤ l.length → d < k → packthreadlaw_sameBytes.l0 k l l (i : Int) = some true := by
  induction d with
  | zero =>
    intro k i hd hi hk
    obtain ⟨k, rfl⟩ : ∃ m, k = m + 1 := ⟨k - 1, by omega⟩
    simp only [packthreadlaw_sameBytes.l0]
    rw [if_neg (by omega)]
  | succ d ih =>
    intro k i hd hi hk
    obtain ⟨k, rfl⟩ : ∃ m, k = m + 1 := ⟨k - 1, by omega⟩
    simp only [packthreadlaw_sameBytes.l0]
    rw [if_pos (by omega), if_pos (by omega), if_pos (by omega), if_pos trivial, w64 (by omega) (by omega)]
    exact ih k (i + 1) (by omega) (by omega) (by omega)
theorem same_all (l : List Int) (hl : l.length ≤ 9223372036854775806) (k : Nat) (hk : l.length < k) : packthreadlaw_sameBytes.f k l l = some true := by
  simp only [packthreadlaw_sameBytes.f]
  rw [if_pos trivial]
  exact same_loop l hl l.length k 0 (by omega) (by omega) hk

theorem sameL_loop (L : Nat) (l : List (List Int)) (hL : L ≤ 1048576) (hl : ∀ y ∈ l, y.length ≤ L) (d : Nat) : ∀ (k i : Nat), l.length - i = d → i ≤ l.length → l.length ≤ 1048576 → d + L < k → packthreadlaw_sameLists.l0 k l l (i : Int) = some true := by
  induction d with
  | zero =>
    intro k i hd hi hm hk
    obtain ⟨k, rfl⟩ : ∃ m, k = m + 1 := ⟨k - 1, by omega⟩
    rw [packthreadlaw_sameLists.l0, if_neg (by omega)]
  | succ d ih =>
    intro k i hd hi hm hk
    obtain ⟨k, rfl⟩ : ∃ m, k = m + 1 := ⟨k - 1, by omega⟩
    have hlt : i < l.length := by omega
    have hr : rd_L1 l (i : Int) = l[i] := by
      unfold rd_L1
      simp [List.getD_eq_getElem?_getD, List.getElem?_eq_getElem hlt]
    have hy := hl l[i] (List.getElem_mem hlt)
    rw [packthreadlaw_sameLists.l0, if_pos (by omega), if_pos (by omega), if_pos (by omega), hr, same_all _ (by omega) _ (by omega)]
    simp only [Option.bind_some]
    rw [if_pos trivial, w64 (by omega) (by omega)]
    exact ih k (i + 1) (by omega) (by omega) hm (by omega)
theorem sameL_all (L : Nat) (l : List (List Int)) (hL : L ≤ 1048576) (hl : ∀ y ∈ l, y.length ≤ L) {k : Nat} (hk : l.length + L < k) (hm : l.length ≤ 1048576 := by omega) : packthreadlaw_sameLists.f k l l = some true := by
  unfold packthreadlaw_sameLists.f
  rw [if_pos rfl]
  exact sameL_loop L l hL hl l.length k 0 (by omega) (by omega) hm hk

/-- A byte behind a number that 256 divides. -/
theorem or_byte (a b : Nat) (ha : a < 4294967296) (hb : b < 256) : Go.bits .or .i64 ((256 * a : Nat) : Int) (b : Int) = ((256 * a + b : Nat) : Int) := by
  have h1 : (BitVec.ofInt 64 ((256 * a : Nat) : Int)).toNat = 256 * a := by
    rw [BitVec.ofInt_natCast, BitVec.toNat_ofNat]; exact Nat.mod_eq_of_lt (by omega)
  have h2 : (BitVec.ofInt 64 (b : Int)).toNat = b := by
    rw [BitVec.ofInt_natCast, BitVec.toNat_ofNat]; exact Nat.mod_eq_of_lt (by omega)
  have h3 : 256 * a ||| b = 256 * a + b := (Nat.two_pow_add_eq_or_of_lt (i := 8) (by omega) a).symm
  show IntKind.i64.wrap ((BitVec.ofInt 64 ((256 * a : Nat) : Int) ||| BitVec.ofInt 64 (b : Int)).toNat : Int) = _
  rw [BitVec.toNat_or, h1, h2, h3]
  exact wraps_i64 _ (by omega) (by omega)
theorem or_byte' {a b : Int} (ha : 0 ≤ a) (ha' : a < 4294967296) (hb : 0 ≤ b) (hb' : b < 256) : Go.bits .or .i64 (wrap64 (a * 256)) (wrap64 b) = a * 256 + b := by
  have h := or_byte a.toNat b.toNat (by omega) (by omega)
  rw [show ((256 * a.toNat : Nat) : Int) = a * 256 by omega, show ((b.toNat : Nat) : Int) = b by omega] at h
  rw [w64 (by omega) (by omega), w64 (by omega) (by omega), h]
  omega
/-- The number that the first four bytes tell. -/
def vl (x : List Int) : Int := ((rd x 0 * 256 + rd x 1) * 256 + rd x 2) * 256 + rd x 3
def Bytes (x : List Int) : Prop := ∀ y ∈ x, (Lit.int .u8 y).wf = true
theorem vl_bd {x : List Int} (h : Bytes x) : 0 ≤ vl x ∧ vl x ≤ 4294967295 := by
  have h0 := rd_bd h 0
  have h1 := rd_bd h 1
  have h2 := rd_bd h 2
  have h3 := rd_bd h 3
  unfold vl
  omega
theorem rd_app (x y : List Int) (i : Int) (h0 : 0 ≤ i) (h : i < x.length) : rd (x ++ y) i = rd x i := by
  unfold rd
  rw [List.getD_eq_getElem?_getD, List.getD_eq_getElem?_getD, List.getElem?_append_left (by omega)]
theorem rd_take (x : List Int) (n : Nat) (i : Int) (h0 : 0 ≤ i) (h : i < n) : rd (x.take n) i = rd x i := by
  unfold rd
  rw [List.getD_eq_getElem?_getD, List.getD_eq_getElem?_getD, List.getElem?_take, if_pos (by omega)]
theorem vl_app (x y : List Int) (h : 4 ≤ x.length) : vl (x ++ y) = vl x := by
  unfold vl
  rw [rd_app _ _ _ (by omega) (by omega), rd_app _ _ _ (by omega) (by omega), rd_app _ _ _ (by omega) (by omega), rd_app _ _ _ (by omega) (by omega)]
theorem get4 (k : Nat) (x : List Int) (h : Bytes x) (hl : 4 ≤ x.length) : frame_Get.f (k + 5) (x.take 4) = some (vl x) := by
  have h0 := rd_bd h 0
  have h1 := rd_bd h 1
  have h2 := rd_bd h 2
  have h3 := rd_bd h 3
  have e0 := rd_take x 4 0 (by omega) (by omega)
  have e1 := rd_take x 4 1 (by omega) (by omega)
  have e2 := rd_take x 4 2 (by omega) (by omega)
  have e3 := rd_take x 4 3 (by omega) (by omega)
  have el : (x.take 4).length = 4 := by rw [List.length_take]; omega
  generalize x.take 4 = t at *
  unfold frame_Get.f
  rw [el]
  rw [frame_Get.l0, if_pos (by omega), if_pos (by omega), if_pos (by omega), e0, or_byte' (by omega) (by omega) h0.1 (by omega), w01]
  rw [frame_Get.l0, if_pos (by omega), if_pos (by omega), if_pos (by omega), e1, or_byte' (by omega) (by omega) h1.1 (by omega), w11]
  rw [frame_Get.l0, if_pos (by omega), if_pos (by omega), if_pos (by omega), e2, or_byte' (by omega) (by omega) h2.1 (by omega), w21]
  rw [frame_Get.l0, if_pos (by omega), if_pos (by omega), if_pos (by omega), e3, or_byte' (by omega) (by omega) h3.1 (by omega), show wrap64 (3 + 1) = 4 from w64 (by omega) (by omega)]
  rw [frame_Get.l0, if_neg (by omega)]
  unfold vl
  congr 1
  omega
/-- What both come to: the pieces of x behind those of out. -/
def sp : Nat → List Int → List (List Int) → (List (List Int) × List Int × Int)
  | 0, x, out => (out, x, 0)
  | n + 1, x, out => if x.length < 4 then (out, x, 0) else if 1024 < vl x then ([], [], 1) else if (x.length : Int) < 4 + vl x then (out, x, 0) else sp n (x.drop (4 + vl x).toNat) (out ++ [(x.take (4 + vl x).toNat).drop 4])
theorem Bytes.drop {x : List Int} (h : Bytes x) (n : Nat) : Bytes (x.drop n) := fun y hy => h y (List.mem_of_mem_drop hy)
theorem feed_loop (n : Nat) : ∀ (k : Nat) (x : List Int) (out : List (List Int)), Bytes x → x.length ≤ n → out.length + x.length ≤ 4194304 → n + 6 ≤ k → frame_Feed.l0 k x out = some (sp n x out) := by
  induction n with
  | zero =>
    intro k x out hb hx ho hk
    obtain ⟨k, rfl⟩ : ∃ m, k = m + 1 := ⟨k - 1, by omega⟩
    obtain rfl : x = [] := List.length_eq_zero_iff.1 (by omega)
    rfl
  | succ n ih =>
    intro k x out hb hx ho hk
    obtain ⟨k, rfl⟩ : ∃ m, k = (m + 5) + 1 := ⟨k - 6, by omega⟩
    have hv := vl_bd hb
    rw [frame_Feed.l0, sp]
    by_cases h4 : x.length < 4
    · rw [if_pos h4, if_neg (by omega)]
      unfold slices_Clone_byte_byte.f
      rw [if_pos (by omega)]
      rfl
    · rw [if_neg h4, if_pos (by omega), if_pos (by omega), get4 _ _ hb (by omega)]
      simp only [Option.bind_some]
      by_cases hn : 1024 < vl x
      · rw [if_pos hn, if_pos hn]
      · rw [if_neg hn, if_neg hn, w64 (by omega) (by omega)]
        by_cases he : (x.length : Int) < 4 + vl x
        · rw [if_pos he, if_pos he]
          unfold slices_Clone_byte_byte.f
          rw [if_pos (by omega)]
          rfl
        · rw [if_neg he, if_neg he, if_pos (by omega), if_pos (by omega)]
          unfold slices_Clone_byte_byte.f
          rw [if_pos (by rw [List.length_drop, List.length_take]; omega)]
          simp only [Option.bind_some]
          rw [if_pos (by omega), if_pos (by omega)]
          exact ih _ _ _ (hb.drop _) (by rw [List.length_drop]; omega) (by rw [List.length_drop, List.length_append, List.length_singleton]; omega) (by omega)
/-- Bytes that no piece ends yet. -/
def Opn (x : List Int) : Prop := x.length < 4 ∨ (vl x ≤ 1024 ∧ (x.length : Int) < 4 + vl x)
theorem sp_open {x : List Int} (h : Opn x) (n : Nat) (out : List (List Int)) : sp n x out = (out, x, 0) := by
  cases n with
  | zero => rfl
  | succ n =>
    rw [sp]
    rcases h with h | ⟨h, h'⟩
    · rw [if_pos h]
    · by_cases h4 : x.length < 4
      · rw [if_pos h4]
      · rw [if_neg h4, if_neg (by omega), if_pos h']
theorem fed_head {k : Nat} {a b now : List Int} {out : List (List Int)} {i : Nat} (hi : i < (a ++ b).length) (hl : (a ++ b).length ≤ 4194304) (hn : now.length ≤ 4194304) :
    packthreadref_FrameFed.l0 (k + 1) a b out now (i : Int) = packthreadref_FrameFed.j1 k a b out (now ++ [rd (a ++ b) (i : Int)]) (i : Int) := by
  rw [List.length_append] at hi hl
  rw [packthreadref_FrameFed.l0, w64 (by omega) (by omega), if_pos (by omega)]
  by_cases hc : (i : Int) < (a.length : Int)
  · rw [if_pos hc, if_pos (by omega), if_pos (by omega), rd_app _ _ _ (by omega) hc]
  · rw [if_neg hc, w64 (by omega) (by omega), if_pos (by omega), if_pos (by omega), if_pos (by omega)]
    congr 3
    unfold rd
    rw [List.getD_eq_getElem?_getD, List.getD_eq_getElem?_getD, List.getElem?_append_right (by omega)]
    congr 2
    omega
theorem wnext (i : Nat) (h : i ≤ 4194304) : wrap64 ((i : Int) + 1) = ((i + 1 : Nat) : Int) := by
  rw [w64 (by omega) (by omega)]
  omega
theorem valw {x : List Int} (hb : Bytes x) : wrap64 ((wrap64 ((wrap64 ((wrap64 ((wrap64 ((wrap64 ((wrap64 (rd x 0)) * 256)) + (wrap64 (rd x 1)))) * 256)) + (wrap64 (rd x 2)))) * 256)) + (wrap64 (rd x 3))) = vl x := by
  have g0 := rd_bd hb 0
  have g1 := rd_bd hb 1
  have g2 := rd_bd hb 2
  have g3 := rd_bd hb 3
  unfold vl
  generalize rd x 0 = a at *
  generalize rd x 1 = b at *
  generalize rd x 2 = c at *
  generalize rd x 3 = d at *
  rw [w64 (x := a) (by omega) (by omega), w64 (x := b) (by omega) (by omega), w64 (x := c) (by omega) (by omega), w64 (x := d) (by omega) (by omega), w64 (x := a * 256) (by omega) (by omega),
    w64 (x := a * 256 + b) (by omega) (by omega), w64 (x := (a * 256 + b) * 256) (by omega) (by omega), w64 (x := (a * 256 + b) * 256 + c) (by omega) (by omega),
    w64 (x := ((a * 256 + b) * 256 + c) * 256) (by omega) (by omega), w64 (by omega) (by omega)]
theorem fed_loop {a b : List Int} (hb : Bytes (a ++ b)) (hl : (a ++ b).length ≤ 2097152) (d : Nat) : ∀ (k n i : Nat) (now : List Int) (out : List (List Int)), (a ++ b).length - i = d → i ≤ (a ++ b).length → now.length ≤ i → Bytes now → Opn now →
    now.length + d ≤ n → out.length ≤ i → 2 * d < k → packthreadref_FrameFed.l0 k a b out now (i : Int) = some (sp n (now ++ (a ++ b).drop i) out) := by
  induction d with
  | zero =>
    intro k n i now out hd hi hni hnb ho hn hoi hk
    obtain ⟨k, rfl⟩ : ∃ m, k = m + 1 := ⟨k - 1, by omega⟩
    rw [List.drop_eq_nil_of_le (by omega), List.append_nil, sp_open ho]
    rw [List.length_append] at hd hi hl
    rw [packthreadref_FrameFed.l0, w64 (by omega) (by omega), if_neg (by omega)]
  | succ d ih =>
    intro k n i now out hd hi hni hnb ho hn hoi hk
    obtain ⟨k, rfl⟩ : ∃ m, k = m + 1 + 1 := ⟨k - 2, by omega⟩
    have hlt : i < (a ++ b).length := by omega
    have hrd : rd (a ++ b) (i : Int) = (a ++ b)[i] := rd_nat _ i hlt
    rw [fed_head hlt (by omega) (by omega), List.drop_eq_getElem_cons hlt, ← hrd]
    have hc := hb (rd (a ++ b) (i : Int)) (by rw [hrd]; exact List.getElem_mem hlt)
    generalize rd (a ++ b) (i : Int) = c at *
    have hnb' : Bytes (now ++ [c]) := by
      intro y hy
      rcases List.mem_append.1 hy with hy | hy
      · exact hnb y hy
      · rw [List.mem_singleton.1 hy]; exact hc
    have hsp : now ++ c :: (a ++ b).drop (i + 1) = (now ++ [c]) ++ (a ++ b).drop (i + 1) := by simp
    have hll : (now ++ [c]).length = now.length + 1 := by simp
    have hv4 : 4 ≤ now.length → vl (now ++ [c]) = vl now := fun h => vl_app _ _ h
    rw [hsp]
    have hgo : Opn (now ++ [c]) → packthreadref_FrameFed.l0 k a b out (now ++ [c]) ((i + 1 : Nat) : Int) = some (sp n ((now ++ [c]) ++ (a ++ b).drop (i + 1)) out) := fun h =>
      ih k n (i + 1) _ out (by omega) (by omega) (by omega) hnb' h (by omega) (by omega) (by omega)
    have hrest := vl_app (now ++ [c]) ((a ++ b).drop (i + 1))
    generalize now ++ [c] = now' at *
    have hv := vl_bd hnb'
    have g0 := rd_bd hnb' 0
    have g1 := rd_bd hnb' 1
    have g2 := rd_bd hnb' 2
    have g3 := rd_bd hnb' 3
    rw [packthreadref_FrameFed.j1, wnext i (by omega)]
    by_cases h4 : (now'.length : Int) < 4
    · rw [if_pos h4]
      exact hgo (.inl (by omega))
    · rw [if_neg h4, if_pos (by omega), if_pos (by omega), if_pos (by omega), if_pos (by omega)]
      rw [valw hnb']
      have hr := hrest (by omega)
      have hlen : (now' ++ (a ++ b).drop (i + 1)).length = now'.length + d := by rw [List.length_append, List.length_drop]; omega
      by_cases hbig : vl now' > 1024
      · rw [if_pos hbig]
        obtain ⟨n, rfl⟩ : ∃ m, n = m + 1 := ⟨n - 1, by omega⟩
        rw [sp, if_neg (by omega), hr, if_pos hbig]
      · rw [if_neg hbig, w64 (by omega) (by omega)]
        by_cases heq : (now'.length : Int) = 4 + vl now'
        · rw [if_pos heq, if_pos (by omega), if_pos (by omega)]
          obtain ⟨n, rfl⟩ : ∃ m, n = m + 1 := ⟨n - 1, by omega⟩
          rw [sp, if_neg (by omega), hr, if_neg hbig, if_neg (by omega)]
          have hn : (4 + vl now').toNat = now'.length := by omega
          rw [hn, List.drop_left, List.take_left]
          have := ih k n (i + 1) [] (out ++ [now'.drop 4]) (by omega) (by omega) (by simp) (fun y hy => by simp at hy) (.inl (by simp)) (by simp; omega) (by rw [List.length_append, List.length_singleton]; omega) (by omega)
          simpa using this
        · rw [if_neg heq]
          refine hgo (.inr ⟨by omega, ?_⟩)
          rcases ho with ho | ⟨ho, ho'⟩
          · omega
          · by_cases hq : 4 ≤ now.length
            · have := hv4 hq
              omega
            · omega
theorem sp_short (n : Nat) : ∀ (x : List Int) (out : List (List Int)) (L M : Nat), Bytes x → x.length ≤ L → (∀ y ∈ out, y.length ≤ L) → out.length + x.length ≤ M → (∀ y ∈ (sp n x out).1, y.length ≤ L) ∧ (sp n x out).1.length ≤ M ∧ (sp n x out).2.1.length ≤ L := by
  induction n with
  | zero => intro x out L M hb hx ho hm; exact ⟨ho, by simp only [sp]; omega, hx⟩
  | succ n ih =>
    intro x out L M hb hx ho hm
    rw [sp]
    split
    · exact ⟨ho, by simp; omega, hx⟩
    · split
      · exact ⟨by simp, by simp, by simp⟩
      · split
        · exact ⟨ho, by simp; omega, hx⟩
        · have hv := vl_bd hb
          exact ih _ _ L M (hb.drop _) (by rw [List.length_drop]; omega) (fun y hy => by
            rcases List.mem_append.1 hy with hy | hy
            · exact ho y hy
            · rw [List.mem_singleton.1 hy, List.length_drop, List.length_take]; omega) (by rw [List.length_append, List.length_singleton, List.length_drop]; omega)
theorem ones (l : List Int) : (l.map (fun _ => 1)).sum = l.length := by
  induction l with
  | nil => rfl
  | cons a l ih => simp only [List.map_cons, List.sum_cons, List.length_cons, ih]; omega
theorem FrameFeeds (l0 l1 : List Int) (h0 : l0.length * 1 ≤ 140737488351232 ∧ ∀ x ∈ l0, (Lit.int .u8 x).wf = true) (h1 : l1.length * 1 ≤ 140737488351232 ∧ ∀ x ∈ l1, (Lit.int .u8 x).wf = true)
    (hup : ((l0.map (fun _ => 1)).sum + 1) + (((l1.map (fun _ => 1)).sum + 1) + 0) ≤ 1048576) : ∃ k, packthreadlaw_FrameFeeds.f k l0 l1 = some true := by
  rw [ones, ones] at hup
  refine ⟨4 * (l0.length + l1.length) + 20, ?_⟩
  have hb : Bytes (l0 ++ l1) := fun y hy => by
    rcases List.mem_append.1 hy with hy | hy
    · exact h0.2 y hy
    · exact h1.2 y hy
  have hl : (l0 ++ l1).length = l0.length + l1.length := List.length_append
  unfold packthreadlaw_FrameFeeds.f frame_Feed.f packthreadref_FrameFed.f
  by_cases hh : (l0.length : Int) ≥ 1028
  · rw [if_pos hh, if_pos (by omega)]
    simp only [Option.bind_some]
    rw [sameL_all 0 [] (by omega) (by simp) (by simp) (by simp)]
    simp only [Option.bind_some]
    rw [if_pos trivial, same_all [] (by simp) _ (by simp)]
    simp
  · rw [if_neg hh, if_neg (by omega)]
    have hc : slices_Concat_byte_byte.f [l0, l1] = some (l0 ++ l1) := by
      unfold slices_Concat_byte_byte.f
      rw [if_pos (by simp [slices_Concat_byte_byte.total]; omega)]
      simp
    rw [hc]
    simp only [Option.bind_some]
    have hf := feed_loop (l0 ++ l1).length (4 * (l0.length + l1.length) + 20) (l0 ++ l1) [] hb (Nat.le_refl _) (by simp; omega) (by omega)
    have hr := fed_loop hb (by omega) (l0 ++ l1).length (4 * (l0.length + l1.length) + 20) (l0 ++ l1).length 0 [] [] (by omega) (by omega) (by simp) (fun y hy => by simp at hy) (.inl (by simp)) (by simp) (by simp) (by omega)
    simp only [List.nil_append, List.drop_zero] at hr
    have hs := sp_short (l0 ++ l1).length (l0 ++ l1) [] (l0 ++ l1).length (l0 ++ l1).length hb (Nat.le_refl _) (by simp) (by simp)
    rw [hf]
    rw [show ((0 : Nat) : Int) = 0 from rfl] at hr
    rw [hr]
    generalize sp (l0 ++ l1).length (l0 ++ l1) [] = q at *
    obtain ⟨m, y, e⟩ := q
    simp only [Option.bind_some] at hs ⊢
    rw [sameL_all (l0 ++ l1).length m (by omega) (fun y hy => by have := hs.1 y hy; omega) (by omega)]
    simp only [Option.bind_some]
    rw [if_pos trivial, same_all y (by omega) _ (by omega)]
    simp
end Go.Proofs.Ytjhmjgcebijmiaa.Pure
