/- The contracts of the functions that the law SegDecodes reaches: Go's code comes to what these Lean functions tell (written by a program of ours and the kit's, out of the translation). -/
import Derived.Test.YtjhmjgcebijmiaaHSegDecodesx0
import Derived.Test.YtjhmjgcebijmiaaHSegDecodesx3
import Derived.Test.YtjhmjgcebijmiaaHSegDecodesx6
namespace Go.Proofs.Ytjhmjgcebijmiaa.HSegDecodes
open Go.RowKit Go.Proofs.YtjhmjgcebijmiaaW.PrintWords Go.Proofs.YtjhmjgcebijmiaaW.PrintLast Go.Proofs.YtjhmjgcebijmiaaW.PrintMore
attribute [local go_sem] max2_int min2_int max_two min_two max_three min_three max_four min_four   -- for this text's walks alone
set_option linter.unusedVariables false
set_option linter.unusedSimpArgs false

/-! ### packthreadref_SegDecoded: function 36 -/
def sdr.T6 : Bool × List (List Nat × List Nat) := (true, [([], []), ([0], [0]), ([1], [1]), ([2], [2]), ([3], [3]), ([], []), ([5], [5]), ([6], [6]), ([7], [7]), ([4, 8], [4, 8]), ([], []), ([10], [10]), ([11], [11]), ([9, 12], [9, 12])])
def sdr.B6 : List Nat := [0, 1, 3, 7, 15, 0, 32, 96, 224, 511, 0, 1024, 3072, 8191]
theorem sdr.tab6 : rtab .any (opsOf Try.f36 6) = sdr.T6 := by kernel_rfl
theorem sdr.bits6 : waitsOk sdr.T6.2 sdr.B6 = true := by kernel_rfl
def sdr.T9 : Bool × List (List Nat × List Nat) := (true, [([], []), ([0], [0]), ([], []), ([2, 1], [2]), ([], []), ([4, 3], [4]), ([], []), ([6], [6]), ([7], [7]), ([8], [8]), ([9], [9]), ([], []), ([11], [11]), ([12], [12]), ([13], [13]), ([14], [14]), ([15], [15]), ([], []), ([17], [17]), ([18], [18]), ([19], [19]), ([20], [20]), ([21], [21]), ([], []), ([23], [23]), ([24], [24]), ([25], [25]), ([26], [26]), ([27], [27]), ([1, 3, 5, 10, 16, 22, 28], [1, 3, 5, 10, 16, 22, 28]), ([], []), ([30, 29, 5, 0, 1, 2, 3, 4, 5, 6, 7, 8, 9, 10, 11, 12, 13, 14, 15, 16, 17, 18, 19, 20, 21, 22, 23, 24, 25, 26, 27, 28, 29, 30], [29, 30])])
def sdr.B9 : List Nat := [0, 1, 0, 7, 0, 31, 0, 64, 192, 448, 960, 0, 2048, 6144, 14336, 30720, 63488, 0, 131072, 393216, 917504, 1966080, 4063232, 0, 8388608, 25165824, 58720256, 125829120, 260046848, 536870911, 0, 2147483647]
theorem sdr.tab9 : rtab .any (opsOf Try.f36 9) = sdr.T9 := by kernel_rfl
theorem sdr.bits9 : waitsOk sdr.T9.2 sdr.B9 = true := by kernel_rfl
def sdr.T16 : Bool × List (List Nat × List Nat) := (true, [([], []), ([0], [0]), ([], []), ([], []), ([3], [3]), ([4], [4]), ([2, 5], [2, 5]), ([], []), ([], []), ([8], [8]), ([9], [9]), ([7, 10, 6], [7, 10]), ([6, 11], [6, 11]), ([12], [12]), ([1, 13, 11], [1, 13]), ([0, 1, 2, 3, 4, 5, 6, 7, 8, 9, 10, 11, 12, 13, 14], []), ([15, 14, 14, 0, 1, 2, 3, 4, 5, 6, 7, 8, 9, 10, 11, 12, 13, 14], [14, 15])])
def sdr.B16 : List Nat := [0, 1, 0, 0, 8, 24, 60, 0, 0, 256, 768, 2044, 4092, 8188, 16383, 32767, 65535]
theorem sdr.tab16 : rtab .any (opsOf Try.f36 16) = sdr.T16 := by kernel_rfl
theorem sdr.bits16 : waitsOk sdr.T16.2 sdr.B16 = true := by kernel_rfl
theorem strOfNums_inj {a b : List Int} (ha : bytesB a = true) (hb : bytesB b = true) (h : (strOfNums a).toList = (strOfNums b).toList) : a = b := by
  have h1 : a.map (fun x => UInt8.ofNat x.toNat) = b.map (fun x => UInt8.ofNat x.toNat) := by
    rw [ByteArray.toList_eq, ByteArray.toList_eq] at h
    simpa [strOfNums] using h
  have inv : ∀ (a : List Int), bytesB a = true → (a.map (fun x => UInt8.ofNat x.toNat)).map (fun u => (u.toNat : Int)) = a := by
    intro a ha
    rw [List.map_map]
    conv => rhs; rw [← List.map_id a]
    apply List.map_congr_left
    intro x hx
    have := (List.all_eq_true.1 ha) x hx
    simp only [decide_eq_true_eq] at this
    simp only [Function.comp, id]
    rw [UInt8.toNat_ofNat', Nat.mod_eq_of_lt (by omega)]
    omega
  rw [← inv a ha, ← inv b hb, h1]
theorem Bx.nine {W : World} {b1 b2 : Nat} {v : Value} {g : Nat} {c0 c1 c2 c3 c4 c5 c6 c7 c8 : Value} (h : Bx b1 b2 v W) (h1 : b1 ≠ g) (h2 : b2 ≠ g) :
    Bx b1 b2 v (((((((((W.setCell ⟨g, 0, none⟩ c0).setCell ⟨g, 1, none⟩ c1).setCell ⟨g, 2, none⟩ c2).setCell ⟨g, 3, none⟩ c3).setCell ⟨g, 4, none⟩ c4).setCell ⟨g, 5, none⟩ c5).setCell ⟨g, 6, none⟩ c6).setCell ⟨g, 7, none⟩ c7).setCell ⟨g, 8, none⟩ c8) :=
  Bx.far (Bx.far (Bx.far (Bx.far (Bx.far (Bx.far (Bx.far (Bx.far (Bx.far h (p := ⟨g, 0, none⟩) h1 h2 _) (p := ⟨g, 1, none⟩) h1 h2 _) (p := ⟨g, 2, none⟩) h1 h2 _) (p := ⟨g, 3, none⟩) h1 h2 _) (p := ⟨g, 4, none⟩) h1 h2 _) (p := ⟨g, 5, none⟩) h1 h2 _) (p := ⟨g, 6, none⟩) h1 h2 _) (p := ⟨g, 7, none⟩) h1 h2 _) (p := ⟨g, 8, none⟩) h1 h2 _
def packthreadref_SegDecoded.f (k : Nat) (l : List Int) : Option (S48 × Int) :=
  if bytesB l = true ∧ l.length < 140737488351233 then
    (if l.length < 10 then some (z48, 5) else (packthreadref_InetFold.f k ((l.set 8 0).set 9 0)).bind fun fo =>
      (if 0 ≤ fo ∧ fo ≤ 65535 then
        (if word l 8 = 65535 - fo then
          (if l.length < 10 + 4 * (rd l 7).toNat then some (z48, 4) else
            (packthreadref_SegEncoded.f k (segOf l).f0 (segOf l).f1 (segOf l).f2 (segOf l).f3 (segOf l).f4 (segOf l).f5 (segOf l).f6 (segOf l).f7 (segOf l).f8).bind fun back =>
              (if bytesB back.1 = true then (if back.2 = 0 ∧ back.1 = l then some (segOf l, 0) else some (z48, 4)) else none))
        else some (z48, 6)) else none))
  else none
set_option maxHeartbeats 40000000 in
set_option maxRecDepth 100000 in
theorem packthreadref_SegDecoded.calls (k : Nat) (A : Option Addr) (c : Nat) (l : List Int) (s : S48) (er : Int) (w : World) (hr : Kd.C (Kd.int .u8) w A l.length l) (hc : l.length ≤ c) (h : packthreadref_SegDecoded.f k l = some (s, er)) :
    Calls Try.prog 36 #[.slice A l.length c] w (DPost w s er) := by
  have HR := Aside0.mk hr
  have HC := Aside0.mk hc
  clear hr hc
  unfold packthreadref_SegDecoded.f at h
  split at h
  case isFalse => cases h
  rename_i hby
  have HBY := Aside0.mk hby.1
  have HLN := Aside0.mk hby.2
  have HH := Aside0.mk h
  clear h hby
  go_enter Try.func36, Try.ntmps36
  go_upto_region 1 with (fail)
  obtain ⟨W1, hW1⟩ : ∃ W, (w.alloc (Obj.cells #[.slice A l.length c] 30)).alloc (Obj.cells #[.int .i64 0, .int .i64 0, .int .i64 0, .bool false, .bool false, .bool false, .bool false, .slice none 0 0, .slice none 0 0] 48) = W := ⟨_, rfl⟩
  try rw [hW1]
  obtain ⟨b2, hb2⟩ : ∃ b : Nat, w.heap.size + 1 = b := ⟨_, rfl⟩
  try rw [hb2]
  have HV1 : Aside0 (Bx w.heap.size b2 (.slice A l.length c) W1) := ⟨Bx.mk (by rw [← hW1]; exact ((below_alloc (Below.refl (w.alloc (Obj.cells #[.slice A l.length c] 30)).heap.size _) _).block w.heap.size (by simp)).trans (heap_alloc_new w _)) (by rw [← hW1, ← hb2]; have := heap_alloc_new (w.alloc (Obj.cells #[.slice A l.length c] 30)) (Obj.cells #[.int .i64 0, .int .i64 0, .int .i64 0, .bool false, .bool false, .bool false, .bool false, .slice none 0 0, .slice none 0 0] 48); simpa using this)⟩
  have HB1 : Aside0 (Below w.heap.size w W1) := ⟨by rw [← hW1]; exact below_alloc (below_alloc (Below.refl _ _) _) _⟩
  have hb2w : w.heap.size ≤ b2 := by omega
  clear hW1 hb2
  have hk := Bx.cell HV1.out
  by_cases hl10 : l.length < 10
  · have hHH := HH.out
    rw [if_pos hl10] at hHH
    simp only [Option.some.injEq, Prod.mk.injEq] at hHH
    obtain ⟨rfl, rfl⟩ := hHH
    have e1_ : decide ((l.length : Int) < 10) = true := decide_eq_true (by omega)
    have e1n_ : decide (l.length < 10) = true := decide_eq_true (by omega)
    have hf0 := blk_frozen HV1.out.2 0
    have hf1 := blk_frozen HV1.out.2 1
    have hf2 := blk_frozen HV1.out.2 2
    have hf3 := blk_frozen HV1.out.2 3
    have hf4 := blk_frozen HV1.out.2 4
    have hf5 := blk_frozen HV1.out.2 5
    have hf6 := blk_frozen HV1.out.2 6
    have hf7 := blk_frozen HV1.out.2 7
    have hf8 := blk_frozen HV1.out.2 8
    have hz0 := (blk_cell HV1.out.2 0).trans rfl
    have hz1 := (blk_cell HV1.out.2 1).trans rfl
    have hz2 := (blk_cell HV1.out.2 2).trans rfl
    have hz3 := (blk_cell HV1.out.2 3).trans rfl
    have hz4 := (blk_cell HV1.out.2 4).trans rfl
    have hz5 := (blk_cell HV1.out.2 5).trans rfl
    have hz6 := (blk_cell HV1.out.2 6).trans rfl
    have hz7 := (blk_cell HV1.out.2 7).trans rfl
    have hz8 := (blk_cell HV1.out.2 8).trans rfl
    go_wp2
    (try simp only [Exit.inBlock, Exit.then])
    refine bodyPost_ret (results_ct rfl _ _ b2 48 _ (0, 0) _ rfl (set_nine HV1.out.2) Try.underlying48 rfl (by kernel_rfl)) rfl ?_
    exact DPost.zero 5 (below_nine HB1.out hb2w)
  · have e1_ : decide ((l.length : Int) < 10) = false := decide_eq_false (by omega)
    have e1n_ : decide (l.length < 10) = false := decide_eq_false (by omega)
    have hHH := HH.out
    rw [if_neg hl10] at hHH
    obtain ⟨fo, hfo, hHH⟩ := Option.bind_eq_some_iff.1 hHH
    have HFO := Aside0.mk hfo
    by_cases hfb : 0 ≤ fo ∧ fo ≤ 65535
    case neg => rw [if_neg hfb] at hHH; cases hHH
    rw [if_pos hfb] at hHH
    have HFB := Aside0.mk hfb
    clear HH
    have HH := Aside0.mk hHH
    have HL10 := Aside0.mk hl10
    clear hfo hHH hl10 hfb
    have HV := HV1
    obtain ⟨ad, eA, hx6⟩ := Kd.at_int HR.out 6 (by decide) (by have := HL10.out; omega)
    subst eA
    obtain ⟨_, ea, hx8⟩ := Kd.at_int HR.out 8 (by decide) (by have := HL10.out; omega)
    cases ea
    obtain ⟨_, ea, hx9⟩ := Kd.at_int HR.out 9 (by decide) (by have := HL10.out; omega)
    cases ea
    rw [show (6 : Int).toNat = 6 from rfl] at hx6
    rw [show (8 : Int).toNat = 8 from rfl] at hx8
    rw [show (9 : Int).toNat = 9 from rfl] at hx9
    have HX6 : Aside0 (w.cell? (ad.add 6) = some (.int .u8 (rd l 6))) := ⟨hx6⟩
    have HX8 : Aside0 (w.cell? (ad.add 8) = some (.int .u8 (rd l 8))) := ⟨hx8⟩
    have HX9 : Aside0 (w.cell? (ad.add 9) = some (.int .u8 (rd l 9))) := ⟨hx9⟩
    clear hx6 hx8 hx9
    go_upto_region 4 with (first | ((with_reducible refine gate_builtin (b := .append) (xs := #[.const (.slice none 0 0), .tmp 15]) rfl ?_); at_builtin; refine Kd.R_append_rows (Kd.int .u8) (w0 := w) w.heap.size rfl (.const (.slice none 0 0)) (.tmp 15) 30 5 (.int .u8 0) 1 rfl Try.underlying30 info5s rfl (by decide) (by omega) (.slice none 0 0) [] l _ _ _ (fun _ => True) (fun _ => False) rfl rfl ?aO ?aR (fun _ _ h => h) (fun _ h => h.elim) (fun _ _ => trivial) HB1.out HB1.out.size ?aL ?_; (case aR => exact Kd.C_below HR.out HB1.out); (case aO => exact Kd.R_nil _ _ _ _ _); (case aL => simp only [List.length_nil]; have := HLN.out; omega); intro v5 w2 ho hb hg hat; rw [List.nil_append] at ho; replace hg : W1.grownBy w2 none := hg; have HB2_ := Aside0.mk hb; have HO2 := Aside0.mk ho; have HV2 := Aside0.mk (Bx.step HV1.out (fun k_ hk_ => hg.block k_ (by have := HV1.out.lt; omega) (by simp))); have HNW : Aside0 (∀ k_, v5.ownBlock = some k_ → W1.heap.size ≤ k_) := ⟨fun k_ hk_ => by rcases hat with h1 | ⟨b_, h1, h2⟩ <;> rw [h1] at hk_ <;> first | (cases hk_; done) | (injection hk_ with hk_; omega)⟩; clear ho hb hg hat))
    obtain ⟨g5, c5, hv5, hgb5, hgl5, cells5, hcl5⟩ := Kd.R_form HO2.out (by have := HL10.out; omega)
    subst hv5
    have hg5 := HNW.out g5 rfl
    have hlt2 := HV1.out.lt
    have hn1 : w.heap.size ≠ g5 := by omega
    have hn2 : b2 ≠ g5 := by omega
    have HR5 := Aside0.mk (Kd.R_reads' HO2.out)
    obtain ⟨_, ea8, hx8⟩ := Kd.at_int HR5.out.2.2 8 (by decide) (by have := HL10.out; omega)
    cases ea8
    obtain ⟨_, ea9, hx9⟩ := Kd.at_int HR5.out.2.2 9 (by decide) (by have := HL10.out; omega)
    cases ea9
    rw [add_plain] at hx8 hx9
    have hx8 : w2.cell? ⟨g5, 8, none⟩ = some (.int .u8 (rd l 8)) := hx8
    have hx9 : w2.cell? ⟨g5, 9, none⟩ = some (.int .u8 (rd l 9)) := hx9
    have hf8 := blk_frozen hcl5 8
    have hf9 := blk_frozen hcl5 9
    have q8 : ((8 : Int) < (l.length : Int)) = True := eq_true (by have := HL10.out; omega)
    have q9 : ((9 : Int) < (l.length : Int)) = True := eq_true (by have := HL10.out; omega)
    have q8n : (8 < l.length) = True := eq_true (by have := HL10.out; omega)
    have q9n : (9 < l.length) = True := eq_true (by have := HL10.out; omega)
    have hg5w : w.heap.size ≤ g5 := by omega
    clear hgb5 hgl5 hcl5 hlt2 hg5
    go_upto_region 6 with (fail)
    obtain ⟨w3, hw3⟩ : ∃ W, (w2.setCell ⟨g5, 8, none⟩ (.int .u8 0)).setCell ⟨g5, 9, none⟩ (.int .u8 0) = W := ⟨_, rfl⟩
    rw [hw3]
    have HO3 : Aside0 (Kd.R (Kd.int .u8) 5 w3 w.heap.size (fun _ => True) (.slice (some ⟨g5, 0, none⟩) l.length c5) ((l.set 8 0).set 9 0)) := ⟨by rw [← hw3]; exact Kd.R_putn (Kd.R_putn HO2.out 8 0) 9 0⟩
    have HB3 : Aside0 (Below w.heap.size w w3) := ⟨by rw [← hw3]; exact below_set (below_set HB2_.out hg5w) hg5w⟩
    have HV3 : Aside0 (Bx w.heap.size b2 (.slice (some ad) l.length c) w3) := ⟨by rw [← hw3]; exact Bx.far (Bx.far HV2.out (p := ⟨g5, 8, none⟩) hn1 hn2 _) (p := ⟨g5, 9, none⟩) hn1 hn2 _⟩
    have HR3 := Aside0.mk (Kd.R_reads' HO3.out)
    have hl2 : ((l.set 8 0).set 9 0).length = l.length := by rw [List.length_set, List.length_set]
    have HR3' : Aside0 (Kd.C (Kd.int .u8) w3 (some ⟨g5, 0, none⟩) ((l.set 8 0).set 9 0).length ((l.set 8 0).set 9 0)) := ⟨HR3.out.2.2⟩
    have HL2 : Aside0 (((l.set 8 0).set 9 0).length ≤ c5) := ⟨by rw [hl2]; exact HR3.out.2.1⟩
    have HLE := Aside0.mk hl2
    clear hw3 hx8 hx9 hf8 hf9 hl2 hk
    obtain ⟨x8, hx8⟩ : ∃ x, rd l 8 = x := ⟨_, rfl⟩
    obtain ⟨x9, hx9⟩ : ∃ x, rd l 9 = x := ⟨_, rfl⟩
    have hb8 := bytesB_rd HBY.out 8
    have hb9 := bytesB_rd HBY.out 9
    rw [hx8] at hb8
    rw [hx9] at hb9
    have HW8 : Aside0 (word l 8 = 256 * x8 + x9) := ⟨by unfold word; rw [show ((8 : Nat) : Int) = 8 from rfl, show ((8 + 1 : Nat) : Int) = 9 from rfl, hx8, hx9]; omega⟩
    have HWW : Aside0 (wrap64 x8 = x8 ∧ wrap64 x9 = x9 ∧ wrap64 (256 * x8) = 256 * x8 ∧ wrap64 (256 * x8 + x9) = 256 * x8 + x9 ∧ wrap64 (65535 - fo) = 65535 - fo) := ⟨w64s (by omega) (by omega), w64s (by omega) (by omega), w64s (by omega) (by omega), w64s (by omega) (by omega), w64s (by have := HFB.out; omega) (by have := HFB.out; omega)⟩
    have hc8 : w3.cell? ⟨ad.block, ad.off + 8, none⟩ = some (.int .u8 x8) := by rw [← hx8]; exact (Below.cell HB3.out (p := ad.add 8) (World.block_lt_of_cell? w _ HX8.out)).trans HX8.out
    have hc9 : w3.cell? ⟨ad.block, ad.off + 9, none⟩ = some (.int .u8 x9) := by rw [← hx9]; exact (Below.cell HB3.out (p := ad.add 9) (World.block_lt_of_cell? w _ HX9.out)).trans HX9.out
    have hkb := Bx.cell HV3.out
    obtain ⟨b, hbq⟩ : ∃ b : Bool, (256 * x8 + x9 != 65535 - fo) = b := ⟨_, rfl⟩
    have HBQ := Aside0.mk hbq
    clear hx8 hx9 hb8 hb9
    obtain ⟨hv0, hv1, hv2, hv3, hv4⟩ := HWW.out
    refine start_ (n := 14) (S := fun w' => w'.cell? ⟨w.heap.size, 0, none⟩ = some (.slice (some ad) l.length c) ∧ w'.cell? ⟨ad.block, ad.off + 8, none⟩ = some (.int .u8 x8) ∧ w'.cell? ⟨ad.block, ad.off + 9, none⟩ = some (.int .u8 x9)) (ds := []) #[false, false, false, false, false, false, false, false, false, false, false, false, false, false] (by kernel_rfl) rfl rfl ⟨hkb, hc8, hc9⟩ (fun hHeld => ?_)
    refine with_tabW sdr.tab6 sdr.bits6 (fun HT_ HW_ => ?_)
    have hw_ : ∃ W, W = w3.drew := ⟨_, rfl⟩
    obtain ⟨w4, hw_⟩ := hw_
    have HB4 : Aside0 (Below w.heap.size w w4) := ⟨by rw [hw_]; exact below_drew1 HB3.out⟩
    have HV4 : Aside0 (Bx w.heap.size b2 (.slice (some ad) l.length c) w4) := ⟨by rw [hw_]; exact Bx.drew HV3.out⟩
    have HR3e : Aside0 (Kd.C (Kd.int .u8) w4 (some ⟨g5, 0, none⟩) ((l.set 8 0).set 9 0).length ((l.set 8 0).set 9 0)) := ⟨by rw [hw_]; exact Kd.C_drew HR3'.out⟩
    have HC8d : Aside0 (w4.cell? ⟨ad.block, ad.off + 8, none⟩ = some (.int .u8 x8)) := ⟨by rw [hw_]; exact hc8⟩
    have HC9d : Aside0 (w4.cell? ⟨ad.block, ad.off + 9, none⟩ = some (.int .u8 x9)) := ⟨by rw [hw_]; exact hc9⟩
    rw [← hw_] at hHeld ⊢
    clear hw_
    refine pure_ (i := 10) (N := some 31) (v := ?_) (a' := ?_) #[false, false, false, false, false, false, false, false, false, false, true, false, false, false] rfl rfl (any_of HT_.out (by kernel_rfl)) (fun _ _ _ h => h) (Or.inl ⟨by rfl, ?_⟩) ?_ ?_
    rotate_left
    · intro w'
      go_simp
      with_reducible rfl
    rotate_left
    · simp only [Act.put, List.setIfInBounds_toArray, List.set_cons_zero, List.set_cons_succ, i64_w, i32_w, hv0, hv1, hv2, hv3, hv4]
      rfl
    refine take_ (i := 0) (N := some 21) (v := ?_) (a' := ?_) #[true, false, false, false, false, false, false, false, false, false, true, false, false, false] rfl rfl (take_ofW HT_.out HW_.out (by kernel_rfl)) (fun _ _ _ h => h) (Or.inl ⟨by rfl, ?_⟩) hHeld ?_ ?_
    rotate_left
    · rintro w' ⟨s0, s1, s2⟩
      go_simp
      with_reducible rfl
    rotate_left
    · simp only [Act.put, List.setIfInBounds_toArray, List.set_cons_zero, List.set_cons_succ, i64_w, i32_w, hv0, hv1, hv2, hv3, hv4]
      rfl
    refine pure_ (i := 1) (N := some 22) (v := ?_) (a' := ?_) #[true, true, false, false, false, false, false, false, false, false, true, false, false, false] rfl rfl (any_of HT_.out (by kernel_rfl)) (fun _ _ _ h => h) (Or.inl ⟨by rfl, ?_⟩) ?_ ?_
    rotate_left
    · intro w'
      go_simp
      with_reducible rfl
    rotate_left
    · simp only [Act.put, List.setIfInBounds_toArray, List.set_cons_zero, List.set_cons_succ, i64_w, i32_w, hv0, hv1, hv2, hv3, hv4]
      rfl
    refine take_ (i := 2) (N := some 23) (v := ?_) (a' := ?_) #[true, true, true, false, false, false, false, false, false, false, true, false, false, false] rfl rfl (take_ofW HT_.out HW_.out (by kernel_rfl)) (fun _ _ _ h => h) (Or.inl ⟨by rfl, ?_⟩) hHeld ?_ ?_
    rotate_left
    · rintro w' ⟨s0, s1, s2⟩
      go_simp
      with_reducible rfl
    rotate_left
    · simp only [Act.put, List.setIfInBounds_toArray, List.set_cons_zero, List.set_cons_succ, i64_w, i32_w, hv0, hv1, hv2, hv3, hv4]
      rfl
    refine pure_ (i := 3) (N := some 24) (v := ?_) (a' := ?_) #[true, true, true, true, false, false, false, false, false, false, true, false, false, false] rfl rfl (any_of HT_.out (by kernel_rfl)) (fun _ _ _ h => h) (Or.inl ⟨by rfl, ?_⟩) ?_ ?_
    rotate_left
    · intro w'
      go_simp
      with_reducible rfl
    rotate_left
    · simp only [Act.put, List.setIfInBounds_toArray, List.set_cons_zero, List.set_cons_succ, i64_w, i32_w, hv0, hv1, hv2, hv3, hv4]
      rfl
    refine pure_ (i := 4) (N := some 25) (v := ?_) (a' := ?_) #[true, true, true, true, true, false, false, false, false, false, true, false, false, false] rfl rfl (any_of HT_.out (by kernel_rfl)) (fun _ _ _ h => h) (Or.inl ⟨by rfl, ?_⟩) ?_ ?_
    rotate_left
    · intro w'
      go_simp
      with_reducible rfl
    rotate_left
    · simp only [Act.put, List.setIfInBounds_toArray, List.set_cons_zero, List.set_cons_succ, i64_w, i32_w, hv0, hv1, hv2, hv3, hv4]
      rfl
    refine take_ (i := 5) (N := some 26) (v := ?_) (a' := ?_) #[true, true, true, true, true, true, false, false, false, false, true, false, false, false] rfl rfl (take_ofW HT_.out HW_.out (by kernel_rfl)) (fun _ _ _ h => h) (Or.inl ⟨by rfl, ?_⟩) hHeld ?_ ?_
    rotate_left
    · rintro w' ⟨s0, s1, s2⟩
      go_simp
      with_reducible rfl
    rotate_left
    · simp only [Act.put, List.setIfInBounds_toArray, List.set_cons_zero, List.set_cons_succ, i64_w, i32_w, hv0, hv1, hv2, hv3, hv4]
      rfl
    refine pure_ (i := 6) (N := some 27) (v := ?_) (a' := ?_) #[true, true, true, true, true, true, true, false, false, false, true, false, false, false] rfl rfl (any_of HT_.out (by kernel_rfl)) (fun _ _ _ h => h) (Or.inl ⟨by rfl, ?_⟩) ?_ ?_
    rotate_left
    · intro w'
      go_simp
      with_reducible rfl
    rotate_left
    · simp only [Act.put, List.setIfInBounds_toArray, List.set_cons_zero, List.set_cons_succ, i64_w, i32_w, hv0, hv1, hv2, hv3, hv4]
      rfl
    refine take_ (i := 7) (N := some 28) (v := ?_) (a' := ?_) #[true, true, true, true, true, true, true, true, false, false, true, false, false, false] rfl rfl (take_ofW HT_.out HW_.out (by kernel_rfl)) (fun _ _ _ h => h) (Or.inl ⟨by rfl, ?_⟩) hHeld ?_ ?_
    rotate_left
    · rintro w' ⟨s0, s1, s2⟩
      go_simp
      with_reducible rfl
    rotate_left
    · simp only [Act.put, List.setIfInBounds_toArray, List.set_cons_zero, List.set_cons_succ, i64_w, i32_w, hv0, hv1, hv2, hv3, hv4]
      rfl
    refine pure_ (i := 8) (N := some 29) (v := ?_) (a' := ?_) #[true, true, true, true, true, true, true, true, true, false, true, false, false, false] rfl rfl (any_of HT_.out (by kernel_rfl)) (fun _ _ _ h => h) (Or.inl ⟨by rfl, ?_⟩) ?_ ?_
    rotate_left
    · intro w'
      go_simp
      with_reducible rfl
    rotate_left
    · simp only [Act.put, List.setIfInBounds_toArray, List.set_cons_zero, List.set_cons_succ, i64_w, i32_w, hv0, hv1, hv2, hv3, hv4]
      rfl
    refine pure_ (i := 9) (N := some 30) (v := ?_) (a' := ?_) #[true, true, true, true, true, true, true, true, true, true, true, false, false, false] rfl rfl (any_of HT_.out (by kernel_rfl)) (fun _ _ _ h => h) (Or.inl ⟨by rfl, ?_⟩) ?_ ?_
    rotate_left
    · intro w'
      go_simp
      with_reducible rfl
    rotate_left
    · simp only [Act.put, List.setIfInBounds_toArray, List.set_cons_zero, List.set_cons_succ, i64_w, i32_w, hv0, hv1, hv2, hv3, hv4]
      rfl
    refine one_ (i := 11) (N := some 32) #[true, true, true, true, true, true, true, true, true, true, true, true, false, false] rfl rfl (one_of HT_.out (by kernel_rfl)) (by decide) (fun K hK => ?_)
    refine goes_ Try.func60 (by kernel_rfl) rfl #[.slice (some ⟨g5, 0, none⟩) l.length c5] (by rfl) rfl rfl (by (try simp only [List.map_toArray, List.map_cons, List.map_nil]); first | done | rfl) ?_
    rw [← HLE.out]
    refine (packthreadref_InetFold.calls k _ _ ((l.set 8 0).set 9 0) fo _ HR3e.out HL2.out HFO.out).mono ?_
    rintro e' w5 ⟨rfl, ⟨m1, hw_⟩⟩
    refine ⟨_, rfl, ?_⟩
    have HB5 : Aside0 (Below w.heap.size w w5) := ⟨by rw [hw_]; exact pw_below_drewN HB4.out m1⟩
    have HV5 : Aside0 (Bx w.heap.size b2 (.slice (some ad) l.length c) w5) := ⟨by rw [hw_]; exact Bx.drewN HV4.out m1⟩
    have HC8e : Aside0 (w5.cell? ⟨ad.block, ad.off + 8, none⟩ = some (.int .u8 x8)) := ⟨by rw [hw_]; exact HC8d.out⟩
    have HC9e : Aside0 (w5.cell? ⟨ad.block, ad.off + 9, none⟩ = some (.int .u8 x9)) := ⟨by rw [hw_]; exact HC9d.out⟩
    clear hw_
    refine hK.out _ _ ⟨Bx.cell HV5.out, HC8e.out, HC9e.out⟩ (fun hHeld => ?_)
    clear hK K
    refine norm_ (a' := ?_) ?_ ?_
    rotate_left
    · show Act.put _ (some 32) _ = _
      simp only [Act.put, List.setIfInBounds_toArray, List.set_cons_zero, List.set_cons_succ, i64_w, i32_w, hv0, hv1, hv2, hv3, hv4]
      rfl
    refine pure_ (i := 12) (N := some 33) (v := ?_) (a' := ?_) #[true, true, true, true, true, true, true, true, true, true, true, true, true, false] rfl rfl (any_of HT_.out (by kernel_rfl)) (fun _ _ _ h => h) (Or.inl ⟨by rfl, ?_⟩) ?_ ?_
    rotate_left
    · intro w'
      go_simp
      with_reducible rfl
    rotate_left
    · simp only [Act.put, List.setIfInBounds_toArray, List.set_cons_zero, List.set_cons_succ, i64_w, i32_w, hv0, hv1, hv2, hv3, hv4]
      rfl
    refine pure_ (i := 13) (N := some 34) (v := ?_) (a' := ?_) #[true, true, true, true, true, true, true, true, true, true, true, true, true, true] rfl rfl (any_of HT_.out (by kernel_rfl)) (fun _ _ _ h => h) (Or.inl ⟨by rfl, ?_⟩) ?_ ?_
    rotate_left
    · intro w'
      go_simp
      with_reducible rfl
    rotate_left
    · simp only [Act.put, List.setIfInBounds_toArray, List.set_cons_zero, List.set_cons_succ, i64_w, i32_w, hv0, hv1, hv2, hv3, hv4]
      rfl
    refine done_ (done_of HT_.out (by kernel_rfl)) ?_
    rw [HLE.out]
    clear hv0 hv1 hv2 hv3 hv4 hc8 hc9 hkb
    have hHH := HH.out
    rw [HW8.out] at hHH
    cases b with
    | true =>
      rw [if_neg (bne_iff_ne.1 HBQ.out)] at hHH
      simp only [Option.some.injEq, Prod.mk.injEq] at hHH
      obtain ⟨rfl, rfl⟩ := hHH
      have hf0 := blk_frozen HV5.out.2 0
      have hf1 := blk_frozen HV5.out.2 1
      have hf2 := blk_frozen HV5.out.2 2
      have hf3 := blk_frozen HV5.out.2 3
      have hf4 := blk_frozen HV5.out.2 4
      have hf5 := blk_frozen HV5.out.2 5
      have hf6 := blk_frozen HV5.out.2 6
      have hf7 := blk_frozen HV5.out.2 7
      have hf8 := blk_frozen HV5.out.2 8
      have hz0 := (blk_cell HV5.out.2 0).trans rfl
      have hz1 := (blk_cell HV5.out.2 1).trans rfl
      have hz2 := (blk_cell HV5.out.2 2).trans rfl
      have hz3 := (blk_cell HV5.out.2 3).trans rfl
      have hz4 := (blk_cell HV5.out.2 4).trans rfl
      have hz5 := (blk_cell HV5.out.2 5).trans rfl
      have hz6 := (blk_cell HV5.out.2 6).trans rfl
      have hz7 := (blk_cell HV5.out.2 7).trans rfl
      have hz8 := (blk_cell HV5.out.2 8).trans rfl
      go_wp2
      (try simp only [Exit.inBlock, Exit.then])
      refine bodyPost_ret (results_ct rfl _ _ b2 48 _ (0, 0) _ rfl (set_nine HV5.out.2) Try.underlying48 rfl (by kernel_rfl)) rfl ?_
      exact DPost.zero 6 (below_nine HB5.out hb2w)
    | false =>
      rw [if_pos (by have := HBQ.out; simpa using this)] at hHH
      clear HH
      have HH := Aside0.mk hHH
      clear hHH
      obtain ⟨x6, hx6e⟩ : ∃ x, rd l 6 = x := ⟨_, rfl⟩
      have hx6 := bytesB_rd HBY.out 6
      rw [hx6e] at hx6
      have HX6b := Aside0.mk hx6
      have HXE := Aside0.mk hx6e
      have hc6 : w5.cell? ⟨ad.block, ad.off + 6, none⟩ = some (.int .u8 x6) := by rw [← hx6e]; exact (Below.cell HB5.out (p := ad.add 6) (World.block_lt_of_cell? w _ HX6.out)).trans HX6.out
      have q6 : ((6 : Int) < (l.length : Int)) = True := eq_true (by have := HL10.out; omega)
      have q6n : (6 < l.length) = True := eq_true (by have := HL10.out; omega)
      have HC6 := Aside0.mk hc6
      have HMD : Aside0 (Int.tmod x6 2 = x6 % 2 ∧ Int.tdiv x6 2 = x6 / 2 ∧ Int.tdiv x6 4 = x6 / 4 ∧ Int.tdiv x6 8 = x6 / 8 ∧ Int.tmod (x6 / 2) 2 = x6 / 2 % 2 ∧ Int.tmod (x6 / 4) 2 = x6 / 4 % 2 ∧ Int.tmod (x6 / 8) 2 = x6 / 8 % 2 ∧ IntKind.u8.wrap (x6 / 2) = x6 / 2 ∧ IntKind.u8.wrap (x6 / 4) = x6 / 4 ∧ IntKind.u8.wrap (x6 / 8) = x6 / 8) := ⟨Int.tmod_eq_emod_of_nonneg (by omega), Int.tdiv_eq_ediv_of_nonneg (by omega), Int.tdiv_eq_ediv_of_nonneg (by omega), Int.tdiv_eq_ediv_of_nonneg (by omega), Int.tmod_eq_emod_of_nonneg (by omega), Int.tmod_eq_emod_of_nonneg (by omega), Int.tmod_eq_emod_of_nonneg (by omega), wraps_u8 _ (by omega) (by omega), wraps_u8 _ (by omega) (by omega), wraps_u8 _ (by omega) (by omega)⟩
      clear hx6e hx6
      go_upto_region 9 with (fail)
      have hkb := Bx.cell HV5.out
      obtain ⟨hm0, hm1, hm2, hm3, hm4, hm5, hm6, hu1, hu2, hu3⟩ := HMD.out
      refine start_ (n := 32) (S := fun w' => w'.cell? ⟨w.heap.size, 0, none⟩ = some (.slice (some ad) l.length c) ∧ w'.cell? ⟨ad.block, ad.off + 6, none⟩ = some (.int .u8 x6)) (ds := [31]) #[false, false, false, false, false, false, false, false, false, false, false, false, false, false, false, false, false, false, false, false, false, false, false, false, false, false, false, false, false, false, false, false] (by kernel_rfl) rfl rfl ⟨hkb, HC6.out⟩ (fun hHeld => ?_)
      refine with_tabW sdr.tab9 sdr.bits9 (fun HT_ HW_ => ?_)
      have hw_ : ∃ W, W = w5.drew := ⟨_, rfl⟩
      obtain ⟨wx, hw_⟩ := hw_
      have HBx : Aside0 (Below w.heap.size w wx) := ⟨by rw [hw_]; exact below_drew1 HB5.out⟩
      have HVx : Aside0 (Bx w.heap.size b2 (.slice (some ad) l.length c) wx) := ⟨by rw [hw_]; exact Bx.drew HV5.out⟩
      have HC6x : Aside0 (wx.cell? ⟨ad.block, ad.off + 6, none⟩ = some (.int .u8 x6)) := ⟨by rw [hw_]; exact HC6.out⟩
      have HZx : Aside0 (wx.heap.size = wx.heap.size) := ⟨rfl⟩
      rw [← hw_] at hHeld ⊢
      clear hw_
      refine pure_ (i := 0) (N := some 37) (v := ?_) (a' := ?_) #[true, false, false, false, false, false, false, false, false, false, false, false, false, false, false, false, false, false, false, false, false, false, false, false, false, false, false, false, false, false, false, false] rfl rfl (any_of HT_.out (by kernel_rfl)) (fun _ _ _ h => h) (Or.inl ⟨by rfl, ?_⟩) ?_ ?_
      rotate_left
      · intro w'
        go_simp
        with_reducible rfl
      rotate_left
      · simp only [Act.put, List.setIfInBounds_toArray, List.set_cons_zero, List.set_cons_succ, i64_w, i32_w, hm0, hm1, hm2, hm3, hm4, hm5, hm6, hu1, hu2, hu3]
        rfl
      refine pure_ (i := 2) (N := some 39) (v := ?_) (a' := ?_) #[true, false, true, false, false, false, false, false, false, false, false, false, false, false, false, false, false, false, false, false, false, false, false, false, false, false, false, false, false, false, false, false] rfl rfl (any_of HT_.out (by kernel_rfl)) (fun _ _ _ h => h) (Or.inl ⟨by rfl, ?_⟩) ?_ ?_
      rotate_left
      · intro w'
        go_simp
        with_reducible rfl
      rotate_left
      · simp only [Act.put, List.setIfInBounds_toArray, List.set_cons_zero, List.set_cons_succ, i64_w, i32_w, hm0, hm1, hm2, hm3, hm4, hm5, hm6, hu1, hu2, hu3]
        rfl
      refine pure_ (i := 4) (N := some 41) (v := ?_) (a' := ?_) #[true, false, true, false, true, false, false, false, false, false, false, false, false, false, false, false, false, false, false, false, false, false, false, false, false, false, false, false, false, false, false, false] rfl rfl (any_of HT_.out (by kernel_rfl)) (fun _ _ _ h => h) (Or.inl ⟨by rfl, ?_⟩) ?_ ?_
      rotate_left
      · intro w'
        go_simp
        with_reducible rfl
      rotate_left
      · simp only [Act.put, List.setIfInBounds_toArray, List.set_cons_zero, List.set_cons_succ, i64_w, i32_w, hm0, hm1, hm2, hm3, hm4, hm5, hm6, hu1, hu2, hu3]
        rfl
      refine take_ (i := 6) (N := some 43) (v := ?_) (a' := ?_) #[true, false, true, false, true, false, true, false, false, false, false, false, false, false, false, false, false, false, false, false, false, false, false, false, false, false, false, false, false, false, false, false] rfl rfl (take_ofW HT_.out HW_.out (by kernel_rfl)) (fun _ _ _ h => h) (Or.inl ⟨by rfl, ?_⟩) hHeld ?_ ?_
      rotate_left
      · rintro w' ⟨s0, s1⟩
        go_simp
        with_reducible rfl
      rotate_left
      · simp only [Act.put, List.setIfInBounds_toArray, List.set_cons_zero, List.set_cons_succ, i64_w, i32_w, hm0, hm1, hm2, hm3, hm4, hm5, hm6, hu1, hu2, hu3]
        rfl
      refine pure_ (i := 7) (N := some 44) (v := ?_) (a' := ?_) #[true, false, true, false, true, false, true, true, false, false, false, false, false, false, false, false, false, false, false, false, false, false, false, false, false, false, false, false, false, false, false, false] rfl rfl (any_of HT_.out (by kernel_rfl)) (fun _ _ _ h => h) (Or.inl ⟨by rfl, ?_⟩) ?_ ?_
      rotate_left
      · intro w'
        go_simp
        with_reducible rfl
      rotate_left
      · simp only [Act.put, List.setIfInBounds_toArray, List.set_cons_zero, List.set_cons_succ, i64_w, i32_w, hm0, hm1, hm2, hm3, hm4, hm5, hm6, hu1, hu2, hu3]
        rfl
      refine take_ (i := 8) (N := some 45) (v := ?_) (a' := ?_) #[true, false, true, false, true, false, true, true, true, false, false, false, false, false, false, false, false, false, false, false, false, false, false, false, false, false, false, false, false, false, false, false] rfl rfl (take_ofW HT_.out HW_.out (by kernel_rfl)) (fun _ _ _ h => h) (Or.inl ⟨by rfl, ?_⟩) hHeld ?_ ?_
      rotate_left
      · rintro w' ⟨s0, s1⟩
        go_simp
        with_reducible rfl
      rotate_left
      · simp only [Act.put, List.setIfInBounds_toArray, List.set_cons_zero, List.set_cons_succ, i64_w, i32_w, hm0, hm1, hm2, hm3, hm4, hm5, hm6, hu1, hu2, hu3]
        rfl
      refine pure_ (i := 9) (N := some 46) (v := ?_) (a' := ?_) #[true, false, true, false, true, false, true, true, true, true, false, false, false, false, false, false, false, false, false, false, false, false, false, false, false, false, false, false, false, false, false, false] rfl rfl (any_of HT_.out (by kernel_rfl)) (fun _ _ _ h => h) (Or.inl ⟨by rfl, ?_⟩) ?_ ?_
      rotate_left
      · intro w'
        go_simp
        with_reducible rfl
      rotate_left
      · simp only [Act.put, List.setIfInBounds_toArray, List.set_cons_zero, List.set_cons_succ, i64_w, i32_w, hm0, hm1, hm2, hm3, hm4, hm5, hm6, hu1, hu2, hu3]
        rfl
      refine pure_ (i := 10) (N := some 47) (v := ?_) (a' := ?_) #[true, false, true, false, true, false, true, true, true, true, true, false, false, false, false, false, false, false, false, false, false, false, false, false, false, false, false, false, false, false, false, false] rfl rfl (any_of HT_.out (by kernel_rfl)) (fun _ _ _ h => h) (Or.inl ⟨by rfl, ?_⟩) ?_ ?_
      rotate_left
      · intro w'
        go_simp
        with_reducible rfl
      rotate_left
      · simp only [Act.put, List.setIfInBounds_toArray, List.set_cons_zero, List.set_cons_succ, i64_w, i32_w, hm0, hm1, hm2, hm3, hm4, hm5, hm6, hu1, hu2, hu3]
        rfl
      refine take_ (i := 11) (N := some 48) (v := ?_) (a' := ?_) #[true, false, true, false, true, false, true, true, true, true, true, true, false, false, false, false, false, false, false, false, false, false, false, false, false, false, false, false, false, false, false, false] rfl rfl (take_ofW HT_.out HW_.out (by kernel_rfl)) (fun _ _ _ h => h) (Or.inl ⟨by rfl, ?_⟩) hHeld ?_ ?_
      rotate_left
      · rintro w' ⟨s0, s1⟩
        go_simp
        with_reducible rfl
      rotate_left
      · simp only [Act.put, List.setIfInBounds_toArray, List.set_cons_zero, List.set_cons_succ, i64_w, i32_w, hm0, hm1, hm2, hm3, hm4, hm5, hm6, hu1, hu2, hu3]
        rfl
      refine pure_ (i := 12) (N := some 49) (v := ?_) (a' := ?_) #[true, false, true, false, true, false, true, true, true, true, true, true, true, false, false, false, false, false, false, false, false, false, false, false, false, false, false, false, false, false, false, false] rfl rfl (any_of HT_.out (by kernel_rfl)) (fun _ _ _ h => h) (Or.inl ⟨by rfl, ?_⟩) ?_ ?_
      rotate_left
      · intro w'
        go_simp
        with_reducible rfl
      rotate_left
      · simp only [Act.put, List.setIfInBounds_toArray, List.set_cons_zero, List.set_cons_succ, i64_w, i32_w, hm0, hm1, hm2, hm3, hm4, hm5, hm6, hu1, hu2, hu3]
        rfl
      refine take_ (i := 13) (N := some 50) (v := ?_) (a' := ?_) #[true, false, true, false, true, false, true, true, true, true, true, true, true, true, false, false, false, false, false, false, false, false, false, false, false, false, false, false, false, false, false, false] rfl rfl (take_ofW HT_.out HW_.out (by kernel_rfl)) (fun _ _ _ h => h) (Or.inl ⟨by rfl, ?_⟩) hHeld ?_ ?_
      rotate_left
      · rintro w' ⟨s0, s1⟩
        go_simp
        with_reducible rfl
      rotate_left
      · simp only [Act.put, List.setIfInBounds_toArray, List.set_cons_zero, List.set_cons_succ, i64_w, i32_w, hm0, hm1, hm2, hm3, hm4, hm5, hm6, hu1, hu2, hu3]
        rfl
      refine pure_ (i := 14) (N := some 51) (v := ?_) (a' := ?_) #[true, false, true, false, true, false, true, true, true, true, true, true, true, true, true, false, false, false, false, false, false, false, false, false, false, false, false, false, false, false, false, false] rfl rfl (any_of HT_.out (by kernel_rfl)) (fun _ _ _ h => h) (Or.inl ⟨by rfl, ?_⟩) ?_ ?_
      rotate_left
      · intro w'
        go_simp
        with_reducible rfl
      rotate_left
      · simp only [Act.put, List.setIfInBounds_toArray, List.set_cons_zero, List.set_cons_succ, i64_w, i32_w, hm0, hm1, hm2, hm3, hm4, hm5, hm6, hu1, hu2, hu3]
        rfl
      refine pure_ (i := 15) (N := some 52) (v := ?_) (a' := ?_) #[true, false, true, false, true, false, true, true, true, true, true, true, true, true, true, true, false, false, false, false, false, false, false, false, false, false, false, false, false, false, false, false] rfl rfl (any_of HT_.out (by kernel_rfl)) (fun _ _ _ h => h) (Or.inl ⟨by rfl, ?_⟩) ?_ ?_
      rotate_left
      · intro w'
        go_simp
        with_reducible rfl
      rotate_left
      · simp only [Act.put, List.setIfInBounds_toArray, List.set_cons_zero, List.set_cons_succ, i64_w, i32_w, hm0, hm1, hm2, hm3, hm4, hm5, hm6, hu1, hu2, hu3]
        rfl
      refine pure_ (i := 16) (N := some 53) (v := ?_) (a' := ?_) #[true, false, true, false, true, false, true, true, true, true, true, true, true, true, true, true, true, false, false, false, false, false, false, false, false, false, false, false, false, false, false, false] rfl rfl (any_of HT_.out (by kernel_rfl)) (fun _ _ _ h => h) (Or.inl ⟨by rfl, ?_⟩) ?_ ?_
      rotate_left
      · intro w'
        go_simp
        with_reducible rfl
      rotate_left
      · simp only [Act.put, List.setIfInBounds_toArray, List.set_cons_zero, List.set_cons_succ, i64_w, i32_w, hm0, hm1, hm2, hm3, hm4, hm5, hm6, hu1, hu2, hu3]
        rfl
      refine take_ (i := 17) (N := some 54) (v := ?_) (a' := ?_) #[true, false, true, false, true, false, true, true, true, true, true, true, true, true, true, true, true, true, false, false, false, false, false, false, false, false, false, false, false, false, false, false] rfl rfl (take_ofW HT_.out HW_.out (by kernel_rfl)) (fun _ _ _ h => h) (Or.inl ⟨by rfl, ?_⟩) hHeld ?_ ?_
      rotate_left
      · rintro w' ⟨s0, s1⟩
        go_simp
        with_reducible rfl
      rotate_left
      · simp only [Act.put, List.setIfInBounds_toArray, List.set_cons_zero, List.set_cons_succ, i64_w, i32_w, hm0, hm1, hm2, hm3, hm4, hm5, hm6, hu1, hu2, hu3]
        rfl
      refine pure_ (i := 18) (N := some 55) (v := ?_) (a' := ?_) #[true, false, true, false, true, false, true, true, true, true, true, true, true, true, true, true, true, true, true, false, false, false, false, false, false, false, false, false, false, false, false, false] rfl rfl (any_of HT_.out (by kernel_rfl)) (fun _ _ _ h => h) (Or.inl ⟨by rfl, ?_⟩) ?_ ?_
      rotate_left
      · intro w'
        go_simp
        with_reducible rfl
      rotate_left
      · simp only [Act.put, List.setIfInBounds_toArray, List.set_cons_zero, List.set_cons_succ, i64_w, i32_w, hm0, hm1, hm2, hm3, hm4, hm5, hm6, hu1, hu2, hu3]
        rfl
      refine take_ (i := 19) (N := some 56) (v := ?_) (a' := ?_) #[true, false, true, false, true, false, true, true, true, true, true, true, true, true, true, true, true, true, true, true, false, false, false, false, false, false, false, false, false, false, false, false] rfl rfl (take_ofW HT_.out HW_.out (by kernel_rfl)) (fun _ _ _ h => h) (Or.inl ⟨by rfl, ?_⟩) hHeld ?_ ?_
      rotate_left
      · rintro w' ⟨s0, s1⟩
        go_simp
        with_reducible rfl
      rotate_left
      · simp only [Act.put, List.setIfInBounds_toArray, List.set_cons_zero, List.set_cons_succ, i64_w, i32_w, hm0, hm1, hm2, hm3, hm4, hm5, hm6, hu1, hu2, hu3]
        rfl
      refine pure_ (i := 20) (N := some 57) (v := ?_) (a' := ?_) #[true, false, true, false, true, false, true, true, true, true, true, true, true, true, true, true, true, true, true, true, true, false, false, false, false, false, false, false, false, false, false, false] rfl rfl (any_of HT_.out (by kernel_rfl)) (fun _ _ _ h => h) (Or.inl ⟨by rfl, ?_⟩) ?_ ?_
      rotate_left
      · intro w'
        go_simp
        with_reducible rfl
      rotate_left
      · simp only [Act.put, List.setIfInBounds_toArray, List.set_cons_zero, List.set_cons_succ, i64_w, i32_w, hm0, hm1, hm2, hm3, hm4, hm5, hm6, hu1, hu2, hu3]
        rfl
      refine pure_ (i := 21) (N := some 58) (v := ?_) (a' := ?_) #[true, false, true, false, true, false, true, true, true, true, true, true, true, true, true, true, true, true, true, true, true, true, false, false, false, false, false, false, false, false, false, false] rfl rfl (any_of HT_.out (by kernel_rfl)) (fun _ _ _ h => h) (Or.inl ⟨by rfl, ?_⟩) ?_ ?_
      rotate_left
      · intro w'
        go_simp
        with_reducible rfl
      rotate_left
      · simp only [Act.put, List.setIfInBounds_toArray, List.set_cons_zero, List.set_cons_succ, i64_w, i32_w, hm0, hm1, hm2, hm3, hm4, hm5, hm6, hu1, hu2, hu3]
        rfl
      refine pure_ (i := 22) (N := some 59) (v := ?_) (a' := ?_) #[true, false, true, false, true, false, true, true, true, true, true, true, true, true, true, true, true, true, true, true, true, true, true, false, false, false, false, false, false, false, false, false] rfl rfl (any_of HT_.out (by kernel_rfl)) (fun _ _ _ h => h) (Or.inl ⟨by rfl, ?_⟩) ?_ ?_
      rotate_left
      · intro w'
        go_simp
        with_reducible rfl
      rotate_left
      · simp only [Act.put, List.setIfInBounds_toArray, List.set_cons_zero, List.set_cons_succ, i64_w, i32_w, hm0, hm1, hm2, hm3, hm4, hm5, hm6, hu1, hu2, hu3]
        rfl
      refine take_ (i := 23) (N := some 60) (v := ?_) (a' := ?_) #[true, false, true, false, true, false, true, true, true, true, true, true, true, true, true, true, true, true, true, true, true, true, true, true, false, false, false, false, false, false, false, false] rfl rfl (take_ofW HT_.out HW_.out (by kernel_rfl)) (fun _ _ _ h => h) (Or.inl ⟨by rfl, ?_⟩) hHeld ?_ ?_
      rotate_left
      · rintro w' ⟨s0, s1⟩
        go_simp
        with_reducible rfl
      rotate_left
      · simp only [Act.put, List.setIfInBounds_toArray, List.set_cons_zero, List.set_cons_succ, i64_w, i32_w, hm0, hm1, hm2, hm3, hm4, hm5, hm6, hu1, hu2, hu3]
        rfl
      refine pure_ (i := 24) (N := some 61) (v := ?_) (a' := ?_) #[true, false, true, false, true, false, true, true, true, true, true, true, true, true, true, true, true, true, true, true, true, true, true, true, true, false, false, false, false, false, false, false] rfl rfl (any_of HT_.out (by kernel_rfl)) (fun _ _ _ h => h) (Or.inl ⟨by rfl, ?_⟩) ?_ ?_
      rotate_left
      · intro w'
        go_simp
        with_reducible rfl
      rotate_left
      · simp only [Act.put, List.setIfInBounds_toArray, List.set_cons_zero, List.set_cons_succ, i64_w, i32_w, hm0, hm1, hm2, hm3, hm4, hm5, hm6, hu1, hu2, hu3]
        rfl
      refine take_ (i := 25) (N := some 62) (v := ?_) (a' := ?_) #[true, false, true, false, true, false, true, true, true, true, true, true, true, true, true, true, true, true, true, true, true, true, true, true, true, true, false, false, false, false, false, false] rfl rfl (take_ofW HT_.out HW_.out (by kernel_rfl)) (fun _ _ _ h => h) (Or.inl ⟨by rfl, ?_⟩) hHeld ?_ ?_
      rotate_left
      · rintro w' ⟨s0, s1⟩
        go_simp
        with_reducible rfl
      rotate_left
      · simp only [Act.put, List.setIfInBounds_toArray, List.set_cons_zero, List.set_cons_succ, i64_w, i32_w, hm0, hm1, hm2, hm3, hm4, hm5, hm6, hu1, hu2, hu3]
        rfl
      refine pure_ (i := 26) (N := some 63) (v := ?_) (a' := ?_) #[true, false, true, false, true, false, true, true, true, true, true, true, true, true, true, true, true, true, true, true, true, true, true, true, true, true, true, false, false, false, false, false] rfl rfl (any_of HT_.out (by kernel_rfl)) (fun _ _ _ h => h) (Or.inl ⟨by rfl, ?_⟩) ?_ ?_
      rotate_left
      · intro w'
        go_simp
        with_reducible rfl
      rotate_left
      · simp only [Act.put, List.setIfInBounds_toArray, List.set_cons_zero, List.set_cons_succ, i64_w, i32_w, hm0, hm1, hm2, hm3, hm4, hm5, hm6, hu1, hu2, hu3]
        rfl
      refine pure_ (i := 27) (N := some 64) (v := ?_) (a' := ?_) #[true, false, true, false, true, false, true, true, true, true, true, true, true, true, true, true, true, true, true, true, true, true, true, true, true, true, true, true, false, false, false, false] rfl rfl (any_of HT_.out (by kernel_rfl)) (fun _ _ _ h => h) (Or.inl ⟨by rfl, ?_⟩) ?_ ?_
      rotate_left
      · intro w'
        go_simp
        with_reducible rfl
      rotate_left
      · simp only [Act.put, List.setIfInBounds_toArray, List.set_cons_zero, List.set_cons_succ, i64_w, i32_w, hm0, hm1, hm2, hm3, hm4, hm5, hm6, hu1, hu2, hu3]
        rfl
      refine pure_ (i := 28) (N := some 65) (v := ?_) (a' := ?_) #[true, false, true, false, true, false, true, true, true, true, true, true, true, true, true, true, true, true, true, true, true, true, true, true, true, true, true, true, true, false, false, false] rfl rfl (any_of HT_.out (by kernel_rfl)) (fun _ _ _ h => h) (Or.inl ⟨by rfl, ?_⟩) ?_ ?_
      rotate_left
      · intro w'
        go_simp
        with_reducible rfl
      rotate_left
      · simp only [Act.put, List.setIfInBounds_toArray, List.set_cons_zero, List.set_cons_succ, i64_w, i32_w, hm0, hm1, hm2, hm3, hm4, hm5, hm6, hu1, hu2, hu3]
        rfl
      refine join_ (σ := Unit) 1 #[true, true, true, true, true, true, true, true, true, true, true, true, true, true, true, true, true, true, true, true, true, true, true, true, true, true, true, true, true, true, true, false] (fun _ => [(38, .int .i64 (word l 0)), (40, .int .i64 (word l 2)), (42, .int .i64 (word l 4)), (66, .agg #[.int .i64 (word l 0), .int .i64 (word l 2), .int .i64 (word l 4), .bool (x6 % 2 == 1), .bool (x6 / 2 % 2 == 1), .bool (x6 / 4 % 2 == 1), .bool (x6 / 8 % 2 == 1), (.slice none 0 0), (.slice none 0 0)]), (6, .pointer (some ⟨wx.heap.size, 0, none⟩))]) (fun _ w' => Below w.heap.size w w' ∧ Bx w.heap.size b2 (.slice (some ad) l.length c) w' ∧ w'.heap[wx.heap.size]? = some (.cells #[.int .i64 0, .int .i64 0, .int .i64 0, .bool false, .bool false, .bool false, .bool false, .slice none 0 0, .slice none 0 0] 48 (0, 0)) ∧ w'.cell? ⟨ad.block, ad.off + 6, none⟩ = some (.int .u8 x6)) ?_ ?_
      rotate_left
      · intro hCont
        refine two_ (i := 1) (j := 30) (Ni := some 38) (Nj := some 6) #[true, true, true, false, true, false, true, true, true, true, true, true, true, true, true, true, true, true, true, true, true, true, true, true, true, true, true, true, true, false, false, false] #[true, false, true, false, true, false, true, true, true, true, true, true, true, true, true, true, true, true, true, true, true, true, true, true, true, true, true, true, true, false, true, false] rfl rfl rfl rfl (two_of HT_.out (by kernel_rfl)) (by decide) (by decide) (fun K hK => ?_) (fun K hK => ?_)
        · skip
          refine call_ 75 #[.int .i64 (0 : Int), .pointer (some ⟨w.heap.size, 0, none⟩)] (by rfl) rfl ?hr1 ?_
          (case hr1 => first | rfl | (go_simp; done) | (go_simp; rfl))
          with_reducible refine (word75z (0 : Int) w.heap.size (some ad) c l 0 _ rfl (Bx.cell HVx.out) (Kd.C_below HR.out HBx.out) HBY.out (by have := HL10.out; omega) (by omega)).mono ?_
          rintro e' wx1 ⟨rfl, hw_⟩
          refine ⟨_, rfl, ?_⟩
          have HBx1 : Aside0 (Below w.heap.size w wx1) := ⟨by rw [hw_]; exact below_drew1 HBx.out⟩
          have HVx1 : Aside0 (Bx w.heap.size b2 (.slice (some ad) l.length c) wx1) := ⟨by rw [hw_]; exact Bx.drew HVx.out⟩
          have HC6x1 : Aside0 (wx1.cell? ⟨ad.block, ad.off + 6, none⟩ = some (.int .u8 x6)) := ⟨by rw [hw_]; exact HC6x.out⟩
          have HZx1 : Aside0 (wx1.heap.size = wx.heap.size) := ⟨by rw [hw_]; exact HZx.out⟩
          clear hw_
          refine hK.out _ _ ⟨Bx.cell HVx1.out, HC6x1.out⟩ (fun hHeld => ?_)
          clear hK K
          refine norm_ (a' := ?_) ?_ ?_
          rotate_left
          · show Act.put _ (some 38) _ = _
            simp only [Act.put, List.setIfInBounds_toArray, List.set_cons_zero, List.set_cons_succ, i64_w, i32_w, hm0, hm1, hm2, hm3, hm4, hm5, hm6, hu1, hu2, hu3]
            rfl
          refine two_ (i := 3) (j := 30) (Ni := some 40) (Nj := some 6) #[true, true, true, true, true, false, true, true, true, true, true, true, true, true, true, true, true, true, true, true, true, true, true, true, true, true, true, true, true, false, false, false] #[true, true, true, false, true, false, true, true, true, true, true, true, true, true, true, true, true, true, true, true, true, true, true, true, true, true, true, true, true, false, true, false] rfl rfl rfl rfl (two_of HT_.out (by kernel_rfl)) (by decide) (by decide) (fun K hK => ?_) (fun K hK => ?_)
          · skip
            refine call_ 75 #[.int .i64 (2 : Int), .pointer (some ⟨w.heap.size, 0, none⟩)] (by rfl) rfl ?hr2 ?_
            (case hr2 => first | rfl | (go_simp; done) | (go_simp; rfl))
            with_reducible refine (word75z (2 : Int) w.heap.size (some ad) c l 2 _ rfl (Bx.cell HVx1.out) (Kd.C_below HR.out HBx1.out) HBY.out (by have := HL10.out; omega) (by omega)).mono ?_
            rintro e' wx13 ⟨rfl, hw_⟩
            refine ⟨_, rfl, ?_⟩
            have HBx13 : Aside0 (Below w.heap.size w wx13) := ⟨by rw [hw_]; exact below_drew1 HBx1.out⟩
            have HVx13 : Aside0 (Bx w.heap.size b2 (.slice (some ad) l.length c) wx13) := ⟨by rw [hw_]; exact Bx.drew HVx1.out⟩
            have HC6x13 : Aside0 (wx13.cell? ⟨ad.block, ad.off + 6, none⟩ = some (.int .u8 x6)) := ⟨by rw [hw_]; exact HC6x1.out⟩
            have HZx13 : Aside0 (wx13.heap.size = wx.heap.size) := ⟨by rw [hw_]; exact HZx1.out⟩
            clear hw_
            refine hK.out _ _ ⟨Bx.cell HVx13.out, HC6x13.out⟩ (fun hHeld => ?_)
            clear hK K
            refine norm_ (a' := ?_) ?_ ?_
            rotate_left
            · show Act.put _ (some 40) _ = _
              simp only [Act.put, List.setIfInBounds_toArray, List.set_cons_zero, List.set_cons_succ, i64_w, i32_w, hm0, hm1, hm2, hm3, hm4, hm5, hm6, hu1, hu2, hu3]
              rfl
            refine two_ (i := 5) (j := 30) (Ni := some 42) (Nj := some 6) #[true, true, true, true, true, true, true, true, true, true, true, true, true, true, true, true, true, true, true, true, true, true, true, true, true, true, true, true, true, false, false, false] #[true, true, true, true, true, false, true, true, true, true, true, true, true, true, true, true, true, true, true, true, true, true, true, true, true, true, true, true, true, false, true, false] rfl rfl rfl rfl (two_of HT_.out (by kernel_rfl)) (by decide) (by decide) (fun K hK => ?_) (fun K hK => ?_)
            · skip
              refine call_ 75 #[.int .i64 (4 : Int), .pointer (some ⟨w.heap.size, 0, none⟩)] (by rfl) rfl ?hr3 ?_
              (case hr3 => first | rfl | (go_simp; done) | (go_simp; rfl))
              with_reducible refine (word75z (4 : Int) w.heap.size (some ad) c l 4 _ rfl (Bx.cell HVx13.out) (Kd.C_below HR.out HBx13.out) HBY.out (by have := HL10.out; omega) (by omega)).mono ?_
              rintro e' wx135 ⟨rfl, hw_⟩
              refine ⟨_, rfl, ?_⟩
              have HBx135 : Aside0 (Below w.heap.size w wx135) := ⟨by rw [hw_]; exact below_drew1 HBx13.out⟩
              have HVx135 : Aside0 (Bx w.heap.size b2 (.slice (some ad) l.length c) wx135) := ⟨by rw [hw_]; exact Bx.drew HVx13.out⟩
              have HC6x135 : Aside0 (wx135.cell? ⟨ad.block, ad.off + 6, none⟩ = some (.int .u8 x6)) := ⟨by rw [hw_]; exact HC6x13.out⟩
              have HZx135 : Aside0 (wx135.heap.size = wx.heap.size) := ⟨by rw [hw_]; exact HZx13.out⟩
              clear hw_
              refine hK.out _ _ ⟨Bx.cell HVx135.out, HC6x135.out⟩ (fun hHeld => ?_)
              clear hK K
              refine norm_ (a' := ?_) ?_ ?_
              rotate_left
              · show Act.put _ (some 42) _ = _
                simp only [Act.put, List.setIfInBounds_toArray, List.set_cons_zero, List.set_cons_succ, i64_w, i32_w, hm0, hm1, hm2, hm3, hm4, hm5, hm6, hu1, hu2, hu3]
                rfl
              refine pure_ (i := 29) (N := some 66) (v := ?_) (a' := ?_) #[true, true, true, true, true, true, true, true, true, true, true, true, true, true, true, true, true, true, true, true, true, true, true, true, true, true, true, true, true, true, false, false] rfl rfl (any_of HT_.out (by kernel_rfl)) (fun _ _ _ h => h) (Or.inl ⟨by rfl, ?_⟩) ?_ ?_
              rotate_left
              · intro w'
                go_simp
                with_reducible rfl
              rotate_left
              · simp only [Act.put, List.setIfInBounds_toArray, List.set_cons_zero, List.set_cons_succ, i64_w, i32_w, hm0, hm1, hm2, hm3, hm4, hm5, hm6, hu1, hu2, hu3]
                rfl
              refine one_ (i := 30) (N := some 6) #[true, true, true, true, true, true, true, true, true, true, true, true, true, true, true, true, true, true, true, true, true, true, true, true, true, true, true, true, true, true, true, false] rfl rfl (one_of HT_.out (by kernel_rfl)) (by decide) (fun K hK => ?_)
              refine value_ (w1 := ?_) (v := ?_) (by rfl) rfl ?_ ?_
              rotate_left 2
              · go_simp
                constructor
                · rfl
                · rfl
              rw [HZx135.out]
              obtain ⟨wx13530, hw_⟩ : ∃ W, W = wx135.alloc (Obj.cells #[.int .i64 0, .int .i64 0, .int .i64 0, .bool false, .bool false, .bool false, .bool false, .slice none 0 0, .slice none 0 0] 48) := ⟨_, rfl⟩
              rw [← hw_]
              have hb_ : Below wx135.heap.size wx135 wx13530 := by rw [hw_]; exact below_alloc (Below.refl _ _) _
              have HBx13530 := Aside0.mk (below_step HBx135.out hb_)
              have HVx13530 := Aside0.mk (Bx.below HVx135.out hb_)
              have HC6x13530 : Aside0 (wx13530.cell? ⟨ad.block, ad.off + 6, none⟩ = some (.int .u8 x6)) := ⟨(Below.cell hb_ (p := ⟨ad.block, ad.off + 6, none⟩) (World.block_lt_of_cell? wx135 _ HC6x135.out)).trans HC6x135.out⟩
              have HSx13530 : Aside0 (wx13530.heap[wx.heap.size]? = some (.cells #[.int .i64 0, .int .i64 0, .int .i64 0, .bool false, .bool false, .bool false, .bool false, .slice none 0 0, .slice none 0 0] 48 (0, 0))) := ⟨by rw [hw_, ← HZx135.out]; exact heap_alloc_new _ _⟩
              clear hw_ hb_
              refine hK.out _ _ ⟨Bx.cell HVx13530.out, HC6x13530.out⟩ (fun hHeld => ?_)
              clear hK K
              refine norm_ (a' := ?_) ?_ ?_
              rotate_left
              · show Act.put _ (some 6) _ = _
                simp only [Act.put, List.setIfInBounds_toArray, List.set_cons_zero, List.set_cons_succ, i64_w, i32_w, hm0, hm1, hm2, hm3, hm4, hm5, hm6, hu1, hu2, hu3]
                rfl
              exact norm_ (by simp only [putAll, Act.put, List.setIfInBounds_toArray, List.set_cons_zero, List.set_cons_succ]) (hCont () _ ⟨HBx13530.out, HVx13530.out, HSx13530.out, HC6x13530.out⟩)
            · skip
              refine value_ (w1 := ?_) (v := ?_) (by rfl) rfl ?_ ?_
              rotate_left 2
              · go_simp
                constructor
                · rfl
                · rfl
              rw [HZx13.out]
              obtain ⟨wx1330, hw_⟩ : ∃ W, W = wx13.alloc (Obj.cells #[.int .i64 0, .int .i64 0, .int .i64 0, .bool false, .bool false, .bool false, .bool false, .slice none 0 0, .slice none 0 0] 48) := ⟨_, rfl⟩
              rw [← hw_]
              have hb_ : Below wx13.heap.size wx13 wx1330 := by rw [hw_]; exact below_alloc (Below.refl _ _) _
              have HBx1330 := Aside0.mk (below_step HBx13.out hb_)
              have HVx1330 := Aside0.mk (Bx.below HVx13.out hb_)
              have HC6x1330 : Aside0 (wx1330.cell? ⟨ad.block, ad.off + 6, none⟩ = some (.int .u8 x6)) := ⟨(Below.cell hb_ (p := ⟨ad.block, ad.off + 6, none⟩) (World.block_lt_of_cell? wx13 _ HC6x13.out)).trans HC6x13.out⟩
              have HSx1330 : Aside0 (wx1330.heap[wx.heap.size]? = some (.cells #[.int .i64 0, .int .i64 0, .int .i64 0, .bool false, .bool false, .bool false, .bool false, .slice none 0 0, .slice none 0 0] 48 (0, 0))) := ⟨by rw [hw_, ← HZx13.out]; exact heap_alloc_new _ _⟩
              clear hw_ hb_
              refine hK.out _ _ ⟨Bx.cell HVx1330.out, HC6x1330.out⟩ (fun hHeld => ?_)
              clear hK K
              refine norm_ (a' := ?_) ?_ ?_
              rotate_left
              · show Act.put _ (some 6) _ = _
                simp only [Act.put, List.setIfInBounds_toArray, List.set_cons_zero, List.set_cons_succ, i64_w, i32_w, hm0, hm1, hm2, hm3, hm4, hm5, hm6, hu1, hu2, hu3]
                rfl
              refine one_ (i := 5) (N := some 42) #[true, true, true, true, true, true, true, true, true, true, true, true, true, true, true, true, true, true, true, true, true, true, true, true, true, true, true, true, true, false, true, false] rfl rfl (one_of HT_.out (by kernel_rfl)) (by decide) (fun K hK => ?_)
              refine call_ 75 #[.int .i64 (4 : Int), .pointer (some ⟨w.heap.size, 0, none⟩)] (by rfl) rfl ?hr6 ?_
              (case hr6 => first | rfl | (go_simp; done) | (go_simp; rfl))
              with_reducible refine (word75z (4 : Int) w.heap.size (some ad) c l 4 _ rfl (Bx.cell HVx1330.out) (Kd.C_below HR.out HBx1330.out) HBY.out (by have := HL10.out; omega) (by omega)).mono ?_
              rintro e' wx13305 ⟨rfl, hw_⟩
              refine ⟨_, rfl, ?_⟩
              have HBx13305 : Aside0 (Below w.heap.size w wx13305) := ⟨by rw [hw_]; exact below_drew1 HBx1330.out⟩
              have HVx13305 : Aside0 (Bx w.heap.size b2 (.slice (some ad) l.length c) wx13305) := ⟨by rw [hw_]; exact Bx.drew HVx1330.out⟩
              have HC6x13305 : Aside0 (wx13305.cell? ⟨ad.block, ad.off + 6, none⟩ = some (.int .u8 x6)) := ⟨by rw [hw_]; exact HC6x1330.out⟩
              have HSx13305 : Aside0 (wx13305.heap[wx.heap.size]? = some (.cells #[.int .i64 0, .int .i64 0, .int .i64 0, .bool false, .bool false, .bool false, .bool false, .slice none 0 0, .slice none 0 0] 48 (0, 0))) := ⟨by rw [hw_]; exact HSx1330.out⟩
              clear hw_
              refine hK.out _ _ ⟨Bx.cell HVx13305.out, HC6x13305.out⟩ (fun hHeld => ?_)
              clear hK K
              refine norm_ (a' := ?_) ?_ ?_
              rotate_left
              · show Act.put _ (some 42) _ = _
                simp only [Act.put, List.setIfInBounds_toArray, List.set_cons_zero, List.set_cons_succ, i64_w, i32_w, hm0, hm1, hm2, hm3, hm4, hm5, hm6, hu1, hu2, hu3]
                rfl
              refine pure_ (i := 29) (N := some 66) (v := ?_) (a' := ?_) #[true, true, true, true, true, true, true, true, true, true, true, true, true, true, true, true, true, true, true, true, true, true, true, true, true, true, true, true, true, true, true, false] rfl rfl (any_of HT_.out (by kernel_rfl)) (fun _ _ _ h => h) (Or.inl ⟨by rfl, ?_⟩) ?_ ?_
              rotate_left
              · intro w'
                go_simp
                with_reducible rfl
              rotate_left
              · simp only [Act.put, List.setIfInBounds_toArray, List.set_cons_zero, List.set_cons_succ, i64_w, i32_w, hm0, hm1, hm2, hm3, hm4, hm5, hm6, hu1, hu2, hu3]
                rfl
              exact norm_ (by simp only [putAll, Act.put, List.setIfInBounds_toArray, List.set_cons_zero, List.set_cons_succ]) (hCont () _ ⟨HBx13305.out, HVx13305.out, HSx13305.out, HC6x13305.out⟩)
          · skip
            refine value_ (w1 := ?_) (v := ?_) (by rfl) rfl ?_ ?_
            rotate_left 2
            · go_simp
              constructor
              · rfl
              · rfl
            rw [HZx1.out]
            obtain ⟨wx130, hw_⟩ : ∃ W, W = wx1.alloc (Obj.cells #[.int .i64 0, .int .i64 0, .int .i64 0, .bool false, .bool false, .bool false, .bool false, .slice none 0 0, .slice none 0 0] 48) := ⟨_, rfl⟩
            rw [← hw_]
            have hb_ : Below wx1.heap.size wx1 wx130 := by rw [hw_]; exact below_alloc (Below.refl _ _) _
            have HBx130 := Aside0.mk (below_step HBx1.out hb_)
            have HVx130 := Aside0.mk (Bx.below HVx1.out hb_)
            have HC6x130 : Aside0 (wx130.cell? ⟨ad.block, ad.off + 6, none⟩ = some (.int .u8 x6)) := ⟨(Below.cell hb_ (p := ⟨ad.block, ad.off + 6, none⟩) (World.block_lt_of_cell? wx1 _ HC6x1.out)).trans HC6x1.out⟩
            have HSx130 : Aside0 (wx130.heap[wx.heap.size]? = some (.cells #[.int .i64 0, .int .i64 0, .int .i64 0, .bool false, .bool false, .bool false, .bool false, .slice none 0 0, .slice none 0 0] 48 (0, 0))) := ⟨by rw [hw_, ← HZx1.out]; exact heap_alloc_new _ _⟩
            clear hw_ hb_
            refine hK.out _ _ ⟨Bx.cell HVx130.out, HC6x130.out⟩ (fun hHeld => ?_)
            clear hK K
            refine norm_ (a' := ?_) ?_ ?_
            rotate_left
            · show Act.put _ (some 6) _ = _
              simp only [Act.put, List.setIfInBounds_toArray, List.set_cons_zero, List.set_cons_succ, i64_w, i32_w, hm0, hm1, hm2, hm3, hm4, hm5, hm6, hu1, hu2, hu3]
              rfl
            refine one_ (i := 3) (N := some 40) #[true, true, true, true, true, false, true, true, true, true, true, true, true, true, true, true, true, true, true, true, true, true, true, true, true, true, true, true, true, false, true, false] rfl rfl (one_of HT_.out (by kernel_rfl)) (by decide) (fun K hK => ?_)
            refine call_ 75 #[.int .i64 (2 : Int), .pointer (some ⟨w.heap.size, 0, none⟩)] (by rfl) rfl ?hr8 ?_
            (case hr8 => first | rfl | (go_simp; done) | (go_simp; rfl))
            with_reducible refine (word75z (2 : Int) w.heap.size (some ad) c l 2 _ rfl (Bx.cell HVx130.out) (Kd.C_below HR.out HBx130.out) HBY.out (by have := HL10.out; omega) (by omega)).mono ?_
            rintro e' wx1303 ⟨rfl, hw_⟩
            refine ⟨_, rfl, ?_⟩
            have HBx1303 : Aside0 (Below w.heap.size w wx1303) := ⟨by rw [hw_]; exact below_drew1 HBx130.out⟩
            have HVx1303 : Aside0 (Bx w.heap.size b2 (.slice (some ad) l.length c) wx1303) := ⟨by rw [hw_]; exact Bx.drew HVx130.out⟩
            have HC6x1303 : Aside0 (wx1303.cell? ⟨ad.block, ad.off + 6, none⟩ = some (.int .u8 x6)) := ⟨by rw [hw_]; exact HC6x130.out⟩
            have HSx1303 : Aside0 (wx1303.heap[wx.heap.size]? = some (.cells #[.int .i64 0, .int .i64 0, .int .i64 0, .bool false, .bool false, .bool false, .bool false, .slice none 0 0, .slice none 0 0] 48 (0, 0))) := ⟨by rw [hw_]; exact HSx130.out⟩
            clear hw_
            refine hK.out _ _ ⟨Bx.cell HVx1303.out, HC6x1303.out⟩ (fun hHeld => ?_)
            clear hK K
            refine norm_ (a' := ?_) ?_ ?_
            rotate_left
            · show Act.put _ (some 40) _ = _
              simp only [Act.put, List.setIfInBounds_toArray, List.set_cons_zero, List.set_cons_succ, i64_w, i32_w, hm0, hm1, hm2, hm3, hm4, hm5, hm6, hu1, hu2, hu3]
              rfl
            refine one_ (i := 5) (N := some 42) #[true, true, true, true, true, true, true, true, true, true, true, true, true, true, true, true, true, true, true, true, true, true, true, true, true, true, true, true, true, false, true, false] rfl rfl (one_of HT_.out (by kernel_rfl)) (by decide) (fun K hK => ?_)
            refine call_ 75 #[.int .i64 (4 : Int), .pointer (some ⟨w.heap.size, 0, none⟩)] (by rfl) rfl ?hr9 ?_
            (case hr9 => first | rfl | (go_simp; done) | (go_simp; rfl))
            with_reducible refine (word75z (4 : Int) w.heap.size (some ad) c l 4 _ rfl (Bx.cell HVx1303.out) (Kd.C_below HR.out HBx1303.out) HBY.out (by have := HL10.out; omega) (by omega)).mono ?_
            rintro e' wx13035 ⟨rfl, hw_⟩
            refine ⟨_, rfl, ?_⟩
            have HBx13035 : Aside0 (Below w.heap.size w wx13035) := ⟨by rw [hw_]; exact below_drew1 HBx1303.out⟩
            have HVx13035 : Aside0 (Bx w.heap.size b2 (.slice (some ad) l.length c) wx13035) := ⟨by rw [hw_]; exact Bx.drew HVx1303.out⟩
            have HC6x13035 : Aside0 (wx13035.cell? ⟨ad.block, ad.off + 6, none⟩ = some (.int .u8 x6)) := ⟨by rw [hw_]; exact HC6x1303.out⟩
            have HSx13035 : Aside0 (wx13035.heap[wx.heap.size]? = some (.cells #[.int .i64 0, .int .i64 0, .int .i64 0, .bool false, .bool false, .bool false, .bool false, .slice none 0 0, .slice none 0 0] 48 (0, 0))) := ⟨by rw [hw_]; exact HSx1303.out⟩
            clear hw_
            refine hK.out _ _ ⟨Bx.cell HVx13035.out, HC6x13035.out⟩ (fun hHeld => ?_)
            clear hK K
            refine norm_ (a' := ?_) ?_ ?_
            rotate_left
            · show Act.put _ (some 42) _ = _
              simp only [Act.put, List.setIfInBounds_toArray, List.set_cons_zero, List.set_cons_succ, i64_w, i32_w, hm0, hm1, hm2, hm3, hm4, hm5, hm6, hu1, hu2, hu3]
              rfl
            refine pure_ (i := 29) (N := some 66) (v := ?_) (a' := ?_) #[true, true, true, true, true, true, true, true, true, true, true, true, true, true, true, true, true, true, true, true, true, true, true, true, true, true, true, true, true, true, true, false] rfl rfl (any_of HT_.out (by kernel_rfl)) (fun _ _ _ h => h) (Or.inl ⟨by rfl, ?_⟩) ?_ ?_
            rotate_left
            · intro w'
              go_simp
              with_reducible rfl
            rotate_left
            · simp only [Act.put, List.setIfInBounds_toArray, List.set_cons_zero, List.set_cons_succ, i64_w, i32_w, hm0, hm1, hm2, hm3, hm4, hm5, hm6, hu1, hu2, hu3]
              rfl
            exact norm_ (by simp only [putAll, Act.put, List.setIfInBounds_toArray, List.set_cons_zero, List.set_cons_succ]) (hCont () _ ⟨HBx13035.out, HVx13035.out, HSx13035.out, HC6x13035.out⟩)
        · skip
          refine value_ (w1 := ?_) (v := ?_) (by rfl) rfl ?_ ?_
          rotate_left 2
          · go_simp
            constructor
            · rfl
            · rfl
          rw [HZx.out]
          obtain ⟨wx30, hw_⟩ : ∃ W, W = wx.alloc (Obj.cells #[.int .i64 0, .int .i64 0, .int .i64 0, .bool false, .bool false, .bool false, .bool false, .slice none 0 0, .slice none 0 0] 48) := ⟨_, rfl⟩
          rw [← hw_]
          have hb_ : Below wx.heap.size wx wx30 := by rw [hw_]; exact below_alloc (Below.refl _ _) _
          have HBx30 := Aside0.mk (below_step HBx.out hb_)
          have HVx30 := Aside0.mk (Bx.below HVx.out hb_)
          have HC6x30 : Aside0 (wx30.cell? ⟨ad.block, ad.off + 6, none⟩ = some (.int .u8 x6)) := ⟨(Below.cell hb_ (p := ⟨ad.block, ad.off + 6, none⟩) (World.block_lt_of_cell? wx _ HC6x.out)).trans HC6x.out⟩
          have HSx30 : Aside0 (wx30.heap[wx.heap.size]? = some (.cells #[.int .i64 0, .int .i64 0, .int .i64 0, .bool false, .bool false, .bool false, .bool false, .slice none 0 0, .slice none 0 0] 48 (0, 0))) := ⟨by rw [hw_, ← HZx.out]; exact heap_alloc_new _ _⟩
          clear hw_ hb_
          refine hK.out _ _ ⟨Bx.cell HVx30.out, HC6x30.out⟩ (fun hHeld => ?_)
          clear hK K
          refine norm_ (a' := ?_) ?_ ?_
          rotate_left
          · show Act.put _ (some 6) _ = _
            simp only [Act.put, List.setIfInBounds_toArray, List.set_cons_zero, List.set_cons_succ, i64_w, i32_w, hm0, hm1, hm2, hm3, hm4, hm5, hm6, hu1, hu2, hu3]
            rfl
          refine one_ (i := 1) (N := some 38) #[true, true, true, false, true, false, true, true, true, true, true, true, true, true, true, true, true, true, true, true, true, true, true, true, true, true, true, true, true, false, true, false] rfl rfl (one_of HT_.out (by kernel_rfl)) (by decide) (fun K hK => ?_)
          refine call_ 75 #[.int .i64 (0 : Int), .pointer (some ⟨w.heap.size, 0, none⟩)] (by rfl) rfl ?hr11 ?_
          (case hr11 => first | rfl | (go_simp; done) | (go_simp; rfl))
          with_reducible refine (word75z (0 : Int) w.heap.size (some ad) c l 0 _ rfl (Bx.cell HVx30.out) (Kd.C_below HR.out HBx30.out) HBY.out (by have := HL10.out; omega) (by omega)).mono ?_
          rintro e' wx301 ⟨rfl, hw_⟩
          refine ⟨_, rfl, ?_⟩
          have HBx301 : Aside0 (Below w.heap.size w wx301) := ⟨by rw [hw_]; exact below_drew1 HBx30.out⟩
          have HVx301 : Aside0 (Bx w.heap.size b2 (.slice (some ad) l.length c) wx301) := ⟨by rw [hw_]; exact Bx.drew HVx30.out⟩
          have HC6x301 : Aside0 (wx301.cell? ⟨ad.block, ad.off + 6, none⟩ = some (.int .u8 x6)) := ⟨by rw [hw_]; exact HC6x30.out⟩
          have HSx301 : Aside0 (wx301.heap[wx.heap.size]? = some (.cells #[.int .i64 0, .int .i64 0, .int .i64 0, .bool false, .bool false, .bool false, .bool false, .slice none 0 0, .slice none 0 0] 48 (0, 0))) := ⟨by rw [hw_]; exact HSx30.out⟩
          clear hw_
          refine hK.out _ _ ⟨Bx.cell HVx301.out, HC6x301.out⟩ (fun hHeld => ?_)
          clear hK K
          refine norm_ (a' := ?_) ?_ ?_
          rotate_left
          · show Act.put _ (some 38) _ = _
            simp only [Act.put, List.setIfInBounds_toArray, List.set_cons_zero, List.set_cons_succ, i64_w, i32_w, hm0, hm1, hm2, hm3, hm4, hm5, hm6, hu1, hu2, hu3]
            rfl
          refine one_ (i := 3) (N := some 40) #[true, true, true, true, true, false, true, true, true, true, true, true, true, true, true, true, true, true, true, true, true, true, true, true, true, true, true, true, true, false, true, false] rfl rfl (one_of HT_.out (by kernel_rfl)) (by decide) (fun K hK => ?_)
          refine call_ 75 #[.int .i64 (2 : Int), .pointer (some ⟨w.heap.size, 0, none⟩)] (by rfl) rfl ?hr12 ?_
          (case hr12 => first | rfl | (go_simp; done) | (go_simp; rfl))
          with_reducible refine (word75z (2 : Int) w.heap.size (some ad) c l 2 _ rfl (Bx.cell HVx301.out) (Kd.C_below HR.out HBx301.out) HBY.out (by have := HL10.out; omega) (by omega)).mono ?_
          rintro e' wx3013 ⟨rfl, hw_⟩
          refine ⟨_, rfl, ?_⟩
          have HBx3013 : Aside0 (Below w.heap.size w wx3013) := ⟨by rw [hw_]; exact below_drew1 HBx301.out⟩
          have HVx3013 : Aside0 (Bx w.heap.size b2 (.slice (some ad) l.length c) wx3013) := ⟨by rw [hw_]; exact Bx.drew HVx301.out⟩
          have HC6x3013 : Aside0 (wx3013.cell? ⟨ad.block, ad.off + 6, none⟩ = some (.int .u8 x6)) := ⟨by rw [hw_]; exact HC6x301.out⟩
          have HSx3013 : Aside0 (wx3013.heap[wx.heap.size]? = some (.cells #[.int .i64 0, .int .i64 0, .int .i64 0, .bool false, .bool false, .bool false, .bool false, .slice none 0 0, .slice none 0 0] 48 (0, 0))) := ⟨by rw [hw_]; exact HSx301.out⟩
          clear hw_
          refine hK.out _ _ ⟨Bx.cell HVx3013.out, HC6x3013.out⟩ (fun hHeld => ?_)
          clear hK K
          refine norm_ (a' := ?_) ?_ ?_
          rotate_left
          · show Act.put _ (some 40) _ = _
            simp only [Act.put, List.setIfInBounds_toArray, List.set_cons_zero, List.set_cons_succ, i64_w, i32_w, hm0, hm1, hm2, hm3, hm4, hm5, hm6, hu1, hu2, hu3]
            rfl
          refine one_ (i := 5) (N := some 42) #[true, true, true, true, true, true, true, true, true, true, true, true, true, true, true, true, true, true, true, true, true, true, true, true, true, true, true, true, true, false, true, false] rfl rfl (one_of HT_.out (by kernel_rfl)) (by decide) (fun K hK => ?_)
          refine call_ 75 #[.int .i64 (4 : Int), .pointer (some ⟨w.heap.size, 0, none⟩)] (by rfl) rfl ?hr13 ?_
          (case hr13 => first | rfl | (go_simp; done) | (go_simp; rfl))
          with_reducible refine (word75z (4 : Int) w.heap.size (some ad) c l 4 _ rfl (Bx.cell HVx3013.out) (Kd.C_below HR.out HBx3013.out) HBY.out (by have := HL10.out; omega) (by omega)).mono ?_
          rintro e' wx30135 ⟨rfl, hw_⟩
          refine ⟨_, rfl, ?_⟩
          have HBx30135 : Aside0 (Below w.heap.size w wx30135) := ⟨by rw [hw_]; exact below_drew1 HBx3013.out⟩
          have HVx30135 : Aside0 (Bx w.heap.size b2 (.slice (some ad) l.length c) wx30135) := ⟨by rw [hw_]; exact Bx.drew HVx3013.out⟩
          have HC6x30135 : Aside0 (wx30135.cell? ⟨ad.block, ad.off + 6, none⟩ = some (.int .u8 x6)) := ⟨by rw [hw_]; exact HC6x3013.out⟩
          have HSx30135 : Aside0 (wx30135.heap[wx.heap.size]? = some (.cells #[.int .i64 0, .int .i64 0, .int .i64 0, .bool false, .bool false, .bool false, .bool false, .slice none 0 0, .slice none 0 0] 48 (0, 0))) := ⟨by rw [hw_]; exact HSx3013.out⟩
          clear hw_
          refine hK.out _ _ ⟨Bx.cell HVx30135.out, HC6x30135.out⟩ (fun hHeld => ?_)
          clear hK K
          refine norm_ (a' := ?_) ?_ ?_
          rotate_left
          · show Act.put _ (some 42) _ = _
            simp only [Act.put, List.setIfInBounds_toArray, List.set_cons_zero, List.set_cons_succ, i64_w, i32_w, hm0, hm1, hm2, hm3, hm4, hm5, hm6, hu1, hu2, hu3]
            rfl
          refine pure_ (i := 29) (N := some 66) (v := ?_) (a' := ?_) #[true, true, true, true, true, true, true, true, true, true, true, true, true, true, true, true, true, true, true, true, true, true, true, true, true, true, true, true, true, true, true, false] rfl rfl (any_of HT_.out (by kernel_rfl)) (fun _ _ _ h => h) (Or.inl ⟨by rfl, ?_⟩) ?_ ?_
          rotate_left
          · intro w'
            go_simp
            with_reducible rfl
          rotate_left
          · simp only [Act.put, List.setIfInBounds_toArray, List.set_cons_zero, List.set_cons_succ, i64_w, i32_w, hm0, hm1, hm2, hm3, hm4, hm5, hm6, hu1, hu2, hu3]
            rfl
          exact norm_ (by simp only [putAll, Act.put, List.setIfInBounds_toArray, List.set_cons_zero, List.set_cons_succ]) (hCont () _ ⟨HBx30135.out, HVx30135.out, HSx30135.out, HC6x30135.out⟩)
      rintro ⟨⟩ w7 ⟨hb7, hv7, hs7, hc7⟩
      have HB7 := Aside0.mk hb7
      have HV7 := Aside0.mk hv7
      have HS7 := Aside0.mk hs7
      have HC67 := Aside0.mk hc7
      clear hb7 hv7 hs7 hc7
      have hHeld : w7.cell? ⟨w.heap.size, 0, none⟩ = some (.slice (some ad) l.length c) ∧ w7.cell? ⟨ad.block, ad.off + 6, none⟩ = some (.int .u8 x6) := ⟨Bx.cell HV7.out, HC67.out⟩
      have hf0_ := blk_frozen HS7.out 0
      have hf1_ := blk_frozen HS7.out 1
      have hf2_ := blk_frozen HS7.out 2
      have hf3_ := blk_frozen HS7.out 3
      have hf4_ := blk_frozen HS7.out 4
      have hf5_ := blk_frozen HS7.out 5
      have hf6_ := blk_frozen HS7.out 6
      have hf7_ := blk_frozen HS7.out 7
      have hf8_ := blk_frozen HS7.out 8
      have hz0_ := (blk_cell HS7.out 0).trans rfl
      have hz1_ := (blk_cell HS7.out 1).trans rfl
      have hz2_ := (blk_cell HS7.out 2).trans rfl
      have hz3_ := (blk_cell HS7.out 3).trans rfl
      have hz4_ := (blk_cell HS7.out 4).trans rfl
      have hz5_ := (blk_cell HS7.out 5).trans rfl
      have hz6_ := (blk_cell HS7.out 6).trans rfl
      have hz7_ := (blk_cell HS7.out 7).trans rfl
      have hz8_ := (blk_cell HS7.out 8).trans rfl
      refine norm_ (a' := ?_) ?_ ?_
      rotate_left
      · simp only [putAll, Act.put, List.setIfInBounds_toArray, List.set_cons_zero, List.set_cons_succ]
        rfl
      refine last_ (i := 31) (N := none) #[true, true, true, true, true, true, true, true, true, true, true, true, true, true, true, true, true, true, true, true, true, true, true, true, true, true, true, true, true, true, true, true] rfl rfl (one_of HT_.out (by kernel_rfl)) (by decide) (fun K hK => ?_)
      refine skip_ (w1 := ?_) (by rfl) rfl ?_ ?_
      rotate_left
      · go_simp
        rfl
      refine hK.out _ _ ?_
      clear hK K
      refine done_ (done_of HT_.out (by kernel_rfl)) ?_
      obtain ⟨b6, hb6⟩ : ∃ b, wx.heap.size = b := ⟨_, rfl⟩
      rw [hb6] at HS7 ⊢
      obtain ⟨w8, hw8⟩ : ∃ W, (((((((((w7.setCell ⟨b6, 0, none⟩ (.int .i64 (word l 0))).setCell ⟨b6, 1, none⟩ (.int .i64 (word l 2))).setCell ⟨b6, 2, none⟩ (.int .i64 (word l 4))).setCell ⟨b6, 3, none⟩ (.bool (x6 % 2 == 1))).setCell ⟨b6, 4, none⟩ (.bool (x6 / 2 % 2 == 1))).setCell ⟨b6, 5, none⟩ (.bool (x6 / 4 % 2 == 1))).setCell ⟨b6, 6, none⟩ (.bool (x6 / 8 % 2 == 1))).setCell ⟨b6, 7, none⟩ (.slice none 0 0)).setCell ⟨b6, 8, none⟩ (.slice none 0 0)) = W := ⟨_, rfl⟩
      rw [hw8]
      have he0 : (x6 % 2 == 1) = bitB x6 0 := by simp [bitB]
      have hb6w : w.heap.size ≤ b6 := by rw [← hb6]; exact HBx.out.size
      have hn61 : w.heap.size ≠ b6 := by have := HVx.out.lt; omega
      have hn62 : b2 ≠ b6 := by have := HVx.out.lt; omega
      have HS10 : Aside0 (w8.heap[b6]? = some (.cells #[.int .i64 (word l 0), .int .i64 (word l 2), .int .i64 (word l 4), .bool (bitB x6 0), .bool (bitB x6 1), .bool (bitB x6 2), .bool (bitB x6 3), (.slice none 0 0), (.slice none 0 0)] 48 (0, 0))) := ⟨by rw [← hw8, ← he0]; exact set_nine HS7.out⟩
      have HB10 : Aside0 (Below w.heap.size w w8) := ⟨by rw [← hw8]; exact below_nine HB7.out hb6w⟩
      have HV10 : Aside0 (Bx w.heap.size b2 (.slice (some ad) l.length c) w8) := ⟨by rw [← hw8]; exact Bx.nine HV7.out hn61 hn62⟩
      clear hw8 he0 hb6 hkb hm0 hm1 hm2 hm3 hm4 hm5 hm6 hu1 hu2 hu3 hc6 hf0_ hf1_ hf2_ hf3_ hf4_ hf5_ hf6_ hf7_ hf8_ hz0_ hz1_ hz2_ hz3_ hz4_ hz5_ hz6_ hz7_ hz8_
      obtain ⟨n, hn⟩ : ∃ n : Nat, rd l 7 = (n : Int) := ⟨(rd l 7).toNat, by have := bytesB_rd HBY.out 7; omega⟩
      have hn255 : n ≤ 255 := by have := bytesB_rd HBY.out 7; omega
      obtain ⟨n4, hn4⟩ : ∃ m : Nat, 4 * n = m := ⟨_, rfl⟩
      obtain ⟨D, hD⟩ : ∃ m : Nat, 10 + n4 = m := ⟨_, rfl⟩
      have HWN : Aside0 (wrap64 (n : Int) = (n : Int) ∧ wrap64 (4 * (n : Int)) = (n4 : Int) ∧ wrap64 (10 + (n4 : Int)) = (D : Int)) := ⟨w64s (by omega) (by omega), by rw [w64s (by omega) (by omega)]; omega, by rw [w64s (by omega) (by omega)]; omega⟩
      have hx0 := (Kd.at_int HR.out 7 (by decide) (by have := HL10.out; omega))
      obtain ⟨_, ea7, hx7⟩ := hx0
      cases ea7
      rw [hn] at hx7
      rw [show (7 : Int).toNat = 7 from rfl] at hx7
      have hc7 : w8.cell? ⟨ad.block, ad.off + 7, none⟩ = some (.int .u8 (n : Int)) := (Below.cell HB10.out (p := ad.add 7) (World.block_lt_of_cell? w _ hx7)).trans hx7
      have q7 : ((7 : Int) < (l.length : Int)) = True := eq_true (by have := HL10.out; omega)
      have q7n : (7 < l.length) = True := eq_true (by have := HL10.out; omega)
      have HNE := Aside0.mk hn
      have HND := Aside0.mk (show 4 * n = n4 ∧ 10 + n4 = D ∧ n ≤ 255 from ⟨hn4, hD, hn255⟩)
      have hHH := HH.out
      have hDe : 10 + 4 * (rd l 7).toNat = D := by rw [hn, Int.toNat_natCast]; omega
      rw [hDe] at hHH
      have hkb := Bx.cell HV10.out
      clear hn hn4 hD hn255 hx7 hDe
      by_cases hbad : l.length < D
      · rw [if_pos hbad] at hHH
        simp only [Option.some.injEq, Prod.mk.injEq] at hHH
        obtain ⟨rfl, rfl⟩ := hHH
        have e4_ : decide ((l.length : Int) < (D : Int)) = true := decide_eq_true (by omega)
        have e4n_ : decide (l.length < D) = true := decide_eq_true hbad
        clear hbad
        have hf0 := blk_frozen HV10.out.2 0
        have hf1 := blk_frozen HV10.out.2 1
        have hf2 := blk_frozen HV10.out.2 2
        have hf3 := blk_frozen HV10.out.2 3
        have hf4 := blk_frozen HV10.out.2 4
        have hf5 := blk_frozen HV10.out.2 5
        have hf6 := blk_frozen HV10.out.2 6
        have hf7 := blk_frozen HV10.out.2 7
        have hf8 := blk_frozen HV10.out.2 8
        have hz0 := (blk_cell HV10.out.2 0).trans rfl
        have hz1 := (blk_cell HV10.out.2 1).trans rfl
        have hz2 := (blk_cell HV10.out.2 2).trans rfl
        have hz3 := (blk_cell HV10.out.2 3).trans rfl
        have hz4 := (blk_cell HV10.out.2 4).trans rfl
        have hz5 := (blk_cell HV10.out.2 5).trans rfl
        have hz6 := (blk_cell HV10.out.2 6).trans rfl
        have hz7 := (blk_cell HV10.out.2 7).trans rfl
        have hz8 := (blk_cell HV10.out.2 8).trans rfl
        obtain ⟨hwn, hw4, hwD⟩ := HWN.out
        go_wp2
        (try simp only [Exit.inBlock, Exit.then])
        refine bodyPost_ret (results_ct rfl _ _ b2 48 _ (0, 0) _ rfl (set_nine HV10.out.2) Try.underlying48 rfl (by kernel_rfl)) rfl ?_
        exact DPost.zero 4 (below_nine HB10.out hb2w)
      · rw [if_neg hbad] at hHH
        clear HH
        obtain ⟨⟨bk, eb⟩, hse, hHH⟩ := Option.bind_eq_some_iff.1 hHH
        have HSE := Aside0.mk hse
        by_cases hbb : bytesB bk = true
        case neg => simp only [hbb, Bool.false_eq_true, if_false] at hHH; cases hHH
        rw [if_pos hbb] at hHH
        have HBK := Aside0.mk hbb
        have HH := Aside0.mk hHH
        have HDL : Aside0 (D ≤ l.length) := ⟨by omega⟩
        have e4_ : decide ((l.length : Int) < (D : Int)) = false := decide_eq_false (by omega)
        have e4n_ : decide (l.length < D) = false := decide_eq_false (by omega)
        clear hse hbb hbad hHH
        obtain ⟨hwn, hw4, hwD⟩ := HWN.out
        go_upto_region 14 with (fail)
        clear hwn hw4 hwD hkb hc7
        obtain ⟨wl, hwl⟩ : ∃ wl : World, w8 = wl := ⟨_, rfl⟩
        subst hwl
        go_loopw [8] (fun v8 wr => ∃ (j : Nat) (v7 : Value), v8 = .int .i64 (j : Int) ∧ Aside0 (j ≤ n) ∧ Aside0 (wr.heap[b6]? = some (.cells #[.int .i64 (word l 0), .int .i64 (word l 2), .int .i64 (word l 4), .bool (bitB x6 0), .bool (bitB x6 1), .bool (bitB x6 2), .bool (bitB x6 3), v7, (.slice none 0 0)] 48 (0, 0))) ∧ Aside0 (Kd.R k54 54 wr w.heap.size (fun k_ => w8.heap.size ≤ k_) v7 (sacksW l j)) ∧ Aside0 (Below w.heap.size w wr) ∧ Aside0 (Bx w.heap.size b2 (.slice (some ad) l.length c) wr) ∧ Aside0 (w8.heap.size ≤ wr.heap.size)) (fun v8 _ => n - (intOf v8).toNat)
        case atStart => exact ⟨0, .slice none 0 0, rfl, ⟨Nat.zero_le _⟩, HS10, ⟨Kd.R_nil _ _ _ _ _⟩, HB10, HV10, ⟨Nat.le_refl _⟩⟩
        case round =>
          obtain ⟨j, v7, rfl, HJ, HSa, HOa, HBa, HVa, HZa⟩ := hrel
          obtain ⟨A7, c7, e7⟩ := Kd.R_slice HOa.out
          subst e7
          have hk7 : wr.cell? ⟨b6, 7, none⟩ = some (.slice A7 (sacksW l j).length c7) := (blk_cell HSa.out 7).trans rfl
          by_cases hj : j < n
          · obtain ⟨j4, hj4⟩ : ∃ m : Nat, 4 * j = m := ⟨_, rfl⟩
            obtain ⟨p, hp⟩ : ∃ m : Nat, 10 + j4 = m := ⟨_, rfl⟩
            obtain ⟨p2, hp2⟩ : ∃ m : Nat, 12 + j4 = m := ⟨_, rfl⟩
            obtain ⟨j1, hj1⟩ : ∃ m : Nat, j + 1 = m := ⟨_, rfl⟩
            have HPE : Aside0 (p = 10 + 4 * j ∧ p2 = 10 + 4 * j + 2 ∧ j1 = j + 1) := ⟨by omega⟩
            have HPB : Aside0 (p + 1 < l.length ∧ p2 + 1 < l.length ∧ p < 2000 ∧ p2 < 2000) := ⟨by have := HJ.out; have := HND.out; have := HDL.out; omega⟩
            have HJN := Aside0.mk hj
            have e5_ : decide ((j : Int) < (n : Int)) = true := decide_eq_true (by omega)
            have e5n_ : decide (j < n) = true := decide_eq_true hj
            have HWP : Aside0 (wrap64 (4 * (j : Int)) = (j4 : Int) ∧ wrap64 (10 + (j4 : Int)) = (p : Int) ∧ wrap64 (12 + (j4 : Int)) = (p2 : Int) ∧ wrap64 ((j : Int) + 1) = (j1 : Int)) := ⟨by rw [w64s (by have := HND.out; omega) (by have := HND.out; omega)]; omega, by rw [w64s (by have := HND.out; omega) (by have := HND.out; omega)]; omega, by rw [w64s (by have := HND.out; omega) (by have := HND.out; omega)]; omega, by rw [w64s (by have := HND.out; omega) (by have := HND.out; omega)]; omega⟩
            clear hj4 hp hp2 hj1 hj
            go_upto_region 16 with (fail)
            obtain ⟨hwq, hwp, hwp2, hwj⟩ := HWP.out
            refine start_ (n := 17) (S := fun w' => w'.cell? ⟨b6, 7, none⟩ = some (.slice A7 (sacksW l j).length c7)) (ds := [16]) #[false, false, false, false, false, false, false, false, false, false, false, false, false, false, false, false, false] (by kernel_rfl) rfl rfl (hk7) (fun hHeld => ?_)
            refine with_tabW sdr.tab16 sdr.bits16 (fun HT_ HW_ => ?_)
            have hw_ : ∃ W, W = wr.drew := ⟨_, rfl⟩
            obtain ⟨wb, hw_⟩ := hw_
            have HBb : Aside0 (Below w.heap.size w wb) := ⟨by rw [hw_]; exact below_drew1 HBa.out⟩
            have HVb : Aside0 (Bx w.heap.size b2 (.slice (some ad) l.length c) wb) := ⟨by rw [hw_]; exact Bx.drew HVa.out⟩
            have HSb : Aside0 (wb.heap[b6]? = some (.cells #[.int .i64 (word l 0), .int .i64 (word l 2), .int .i64 (word l 4), .bool (bitB x6 0), .bool (bitB x6 1), .bool (bitB x6 2), .bool (bitB x6 3), (.slice A7 (sacksW l j).length c7), (.slice none 0 0)] 48 (0, 0))) := ⟨by rw [hw_]; exact HSa.out⟩
            have HOb : Aside0 (Kd.R k54 54 wb w.heap.size (fun k_ => w8.heap.size ≤ k_) (.slice A7 (sacksW l j).length c7) (sacksW l j)) := ⟨by rw [hw_]; exact Kd.R_drew HOa.out⟩
            have HZb : Aside0 (w8.heap.size ≤ wb.heap.size) := ⟨by rw [hw_]; exact HZa.out⟩
            rw [← hw_] at hHeld ⊢
            clear hw_
            refine pure_ (i := 0) (N := some 83) (v := ?_) (a' := ?_) #[true, false, false, false, false, false, false, false, false, false, false, false, false, false, false, false, false] rfl rfl (any_of HT_.out (by kernel_rfl)) (fun _ _ _ h => h) (Or.inl ⟨by rfl, ?_⟩) ?_ ?_
            rotate_left
            · intro w'
              go_simp
              with_reducible rfl
            rotate_left
            · simp only [Act.put, List.setIfInBounds_toArray, List.set_cons_zero, List.set_cons_succ, i64_w, i32_w, hwq, hwp, hwp2]
              rfl
            refine pure_ (i := 2) (N := some 85) (v := ?_) (a' := ?_) #[true, false, true, false, false, false, false, false, false, false, false, false, false, false, false, false, false] rfl rfl (any_of HT_.out (by kernel_rfl)) (fun _ _ _ h => h) (Or.inl ⟨by rfl, ?_⟩) ?_ ?_
            rotate_left
            · intro w'
              go_simp
              with_reducible rfl
            rotate_left
            · simp only [Act.put, List.setIfInBounds_toArray, List.set_cons_zero, List.set_cons_succ, i64_w, i32_w, hwq, hwp, hwp2]
              rfl
            refine pure_ (i := 3) (N := some 86) (v := ?_) (a' := ?_) #[true, false, true, true, false, false, false, false, false, false, false, false, false, false, false, false, false] rfl rfl (any_of HT_.out (by kernel_rfl)) (fun _ _ _ h => h) (Or.inl ⟨by rfl, ?_⟩) ?_ ?_
            rotate_left
            · intro w'
              go_simp
              with_reducible rfl
            rotate_left
            · simp only [Act.put, List.setIfInBounds_toArray, List.set_cons_zero, List.set_cons_succ, i64_w, i32_w, hwq, hwp, hwp2]
              rfl
            refine pure_ (i := 4) (N := some 87) (v := ?_) (a' := ?_) #[true, false, true, true, true, false, false, false, false, false, false, false, false, false, false, false, false] rfl rfl (any_of HT_.out (by kernel_rfl)) (fun _ _ _ h => h) (Or.inl ⟨by rfl, ?_⟩) ?_ ?_
            rotate_left
            · intro w'
              go_simp
              with_reducible rfl
            rotate_left
            · simp only [Act.put, List.setIfInBounds_toArray, List.set_cons_zero, List.set_cons_succ, i64_w, i32_w, hwq, hwp, hwp2]
              rfl
            refine pure_ (i := 5) (N := some 88) (v := ?_) (a' := ?_) #[true, false, true, true, true, true, false, false, false, false, false, false, false, false, false, false, false] rfl rfl (any_of HT_.out (by kernel_rfl)) (fun _ _ _ h => h) (Or.inl ⟨by rfl, ?_⟩) ?_ ?_
            rotate_left
            · intro w'
              go_simp
              with_reducible rfl
            rotate_left
            · simp only [Act.put, List.setIfInBounds_toArray, List.set_cons_zero, List.set_cons_succ, i64_w, i32_w, hwq, hwp, hwp2]
              rfl
            refine pure_ (i := 7) (N := some 90) (v := ?_) (a' := ?_) #[true, false, true, true, true, true, false, true, false, false, false, false, false, false, false, false, false] rfl rfl (any_of HT_.out (by kernel_rfl)) (fun _ _ _ h => h) (Or.inl ⟨by rfl, ?_⟩) ?_ ?_
            rotate_left
            · intro w'
              go_simp
              with_reducible rfl
            rotate_left
            · simp only [Act.put, List.setIfInBounds_toArray, List.set_cons_zero, List.set_cons_succ, i64_w, i32_w, hwq, hwp, hwp2]
              rfl
            refine pure_ (i := 8) (N := some 91) (v := ?_) (a' := ?_) #[true, false, true, true, true, true, false, true, true, false, false, false, false, false, false, false, false] rfl rfl (any_of HT_.out (by kernel_rfl)) (fun _ _ _ h => h) (Or.inl ⟨by rfl, ?_⟩) ?_ ?_
            rotate_left
            · intro w'
              go_simp
              with_reducible rfl
            rotate_left
            · simp only [Act.put, List.setIfInBounds_toArray, List.set_cons_zero, List.set_cons_succ, i64_w, i32_w, hwq, hwp, hwp2]
              rfl
            refine pure_ (i := 9) (N := some 92) (v := ?_) (a' := ?_) #[true, false, true, true, true, true, false, true, true, true, false, false, false, false, false, false, false] rfl rfl (any_of HT_.out (by kernel_rfl)) (fun _ _ _ h => h) (Or.inl ⟨by rfl, ?_⟩) ?_ ?_
            rotate_left
            · intro w'
              go_simp
              with_reducible rfl
            rotate_left
            · simp only [Act.put, List.setIfInBounds_toArray, List.set_cons_zero, List.set_cons_succ, i64_w, i32_w, hwq, hwp, hwp2]
              rfl
            refine pure_ (i := 10) (N := some 93) (v := ?_) (a' := ?_) #[true, false, true, true, true, true, false, true, true, true, true, false, false, false, false, false, false] rfl rfl (any_of HT_.out (by kernel_rfl)) (fun _ _ _ h => h) (Or.inl ⟨by rfl, ?_⟩) ?_ ?_
            rotate_left
            · intro w'
              go_simp
              with_reducible rfl
            rotate_left
            · simp only [Act.put, List.setIfInBounds_toArray, List.set_cons_zero, List.set_cons_succ, i64_w, i32_w, hwq, hwp, hwp2]
              rfl
            refine take_ (i := 1) (N := some 84) (v := ?_) (a' := ?_) #[true, true, true, true, true, true, false, true, true, true, true, false, false, false, false, false, false] rfl rfl (take_ofW HT_.out HW_.out (by kernel_rfl)) (fun _ _ _ h => h) (Or.inl ⟨by rfl, ?_⟩) hHeld ?_ ?_
            rotate_left
            · intro w' s0
              go_simp
              with_reducible rfl
            rotate_left
            · simp only [Act.put, List.setIfInBounds_toArray, List.set_cons_zero, List.set_cons_succ, i64_w, i32_w, hwq, hwp, hwp2]
              rfl
            refine one_ (i := 6) (N := some 89) #[true, true, true, true, true, true, true, true, true, true, true, false, false, false, false, false, false] rfl rfl (one_of HT_.out (by kernel_rfl)) (by decide) (fun K hK => ?_)
            refine call_ 75 #[.int .i64 (p : Int), .pointer (some ⟨w.heap.size, 0, none⟩)] (by rfl) rfl ?hqc ?_
            (case hqc => first | rfl | (go_simp; done) | (go_simp; rfl))
            with_reducible refine (word75z (p : Int) w.heap.size (some ad) c l p _ rfl (Bx.cell HVb.out) (Kd.C_below HR.out HBb.out) HBY.out HPB.out.1 HPB.out.2.2.1).mono ?_
            rintro e' wc ⟨rfl, hw_⟩
            refine ⟨_, rfl, ?_⟩
            have HBc : Aside0 (Below w.heap.size w wc) := ⟨by rw [hw_]; exact below_drew1 HBb.out⟩
            have HVc : Aside0 (Bx w.heap.size b2 (.slice (some ad) l.length c) wc) := ⟨by rw [hw_]; exact Bx.drew HVb.out⟩
            have HSc : Aside0 (wc.heap[b6]? = some (.cells #[.int .i64 (word l 0), .int .i64 (word l 2), .int .i64 (word l 4), .bool (bitB x6 0), .bool (bitB x6 1), .bool (bitB x6 2), .bool (bitB x6 3), (.slice A7 (sacksW l j).length c7), (.slice none 0 0)] 48 (0, 0))) := ⟨by rw [hw_]; exact HSb.out⟩
            have HOc : Aside0 (Kd.R k54 54 wc w.heap.size (fun k_ => w8.heap.size ≤ k_) (.slice A7 (sacksW l j).length c7) (sacksW l j)) := ⟨by rw [hw_]; exact Kd.R_drew HOb.out⟩
            have HZc : Aside0 (w8.heap.size ≤ wc.heap.size) := ⟨by rw [hw_]; exact HZb.out⟩
            clear hw_
            refine hK.out _ _ ((blk_cell HSc.out 7).trans rfl) (fun hHeld => ?_)
            clear hK K
            refine norm_ (a' := ?_) ?_ ?_
            rotate_left
            · show Act.put _ (some 89) _ = _
              simp only [Act.put, List.setIfInBounds_toArray, List.set_cons_zero, List.set_cons_succ, i64_w, i32_w, hwq, hwp, hwp2]
              rfl
            refine one_ (i := 11) (N := some 94) #[true, true, true, true, true, true, true, true, true, true, true, true, false, false, false, false, false] rfl rfl (one_of HT_.out (by kernel_rfl)) (by decide) (fun K hK => ?_)
            refine call_ 75 #[.int .i64 (p2 : Int), .pointer (some ⟨w.heap.size, 0, none⟩)] (by rfl) rfl ?hqd ?_
            (case hqd => first | rfl | (go_simp; done) | (go_simp; rfl))
            with_reducible refine (word75z (p2 : Int) w.heap.size (some ad) c l p2 _ rfl (Bx.cell HVc.out) (Kd.C_below HR.out HBc.out) HBY.out HPB.out.2.1 HPB.out.2.2.2).mono ?_
            rintro e' wd ⟨rfl, hw_⟩
            refine ⟨_, rfl, ?_⟩
            have HBd : Aside0 (Below w.heap.size w wd) := ⟨by rw [hw_]; exact below_drew1 HBc.out⟩
            have HVd : Aside0 (Bx w.heap.size b2 (.slice (some ad) l.length c) wd) := ⟨by rw [hw_]; exact Bx.drew HVc.out⟩
            have HSd : Aside0 (wd.heap[b6]? = some (.cells #[.int .i64 (word l 0), .int .i64 (word l 2), .int .i64 (word l 4), .bool (bitB x6 0), .bool (bitB x6 1), .bool (bitB x6 2), .bool (bitB x6 3), (.slice A7 (sacksW l j).length c7), (.slice none 0 0)] 48 (0, 0))) := ⟨by rw [hw_]; exact HSc.out⟩
            have HOd : Aside0 (Kd.R k54 54 wd w.heap.size (fun k_ => w8.heap.size ≤ k_) (.slice A7 (sacksW l j).length c7) (sacksW l j)) := ⟨by rw [hw_]; exact Kd.R_drew HOc.out⟩
            have HZd : Aside0 (w8.heap.size ≤ wd.heap.size) := ⟨by rw [hw_]; exact HZc.out⟩
            clear hw_
            refine hK.out _ _ ((blk_cell HSd.out 7).trans rfl) (fun hHeld => ?_)
            clear hK K
            refine norm_ (a' := ?_) ?_ ?_
            rotate_left
            · show Act.put _ (some 94) _ = _
              simp only [Act.put, List.setIfInBounds_toArray, List.set_cons_zero, List.set_cons_succ, i64_w, i32_w, hwq, hwp, hwp2]
              rfl
            refine pure_ (i := 12) (N := some 95) (v := ?_) (a' := ?_) #[true, true, true, true, true, true, true, true, true, true, true, true, true, false, false, false, false] rfl rfl (any_of HT_.out (by kernel_rfl)) (fun _ _ _ h => h) (Or.inl ⟨by rfl, ?_⟩) ?_ ?_
            rotate_left
            · intro w'
              go_simp
              with_reducible rfl
            rotate_left
            · simp only [Act.put, List.setIfInBounds_toArray, List.set_cons_zero, List.set_cons_succ, i64_w, i32_w, hwq, hwp, hwp2]
              rfl
            refine one_ (i := 13) (N := some 96) #[true, true, true, true, true, true, true, true, true, true, true, true, true, true, false, false, false] rfl rfl (one_of HT_.out (by kernel_rfl)) (by decide) (fun K hK => ?_)
            refine Kd.R_lit_step k54 (w0 := w) w.heap.size 54 (by rfl) (N := 96) rfl (xs := [⟨word l p, word l p2⟩]) (inner := [.int .i64 (word l p), .int .i64 (word l p2)]) (ok := (fun k_ => w8.heap.size ≤ k_)) (okp := fun _ => False) ?hl (Reps.c2 (k54_mkM _ _ _ ⟨word l p, word l p2⟩) (Reps.none _ _)) (fun _ h => h.elim) HZd.out HBd.out HBd.out.size (by simp) ?_
            (case hl => first | (go_simp; done) | (go_simp; rfl))
            intro v82 we ho hb hg hnew
            replace hg : wd.grownBy we none := hg
            have HVe := Aside0.mk (Bx.step HVd.out (fun k_ hk_ => hg.block k_ (by have := HVd.out.lt; omega) (by simp)))
            have HSe : Aside0 (we.heap[b6]? = some (.cells #[.int .i64 (word l 0), .int .i64 (word l 2), .int .i64 (word l 4), .bool (bitB x6 0), .bool (bitB x6 1), .bool (bitB x6 2), .bool (bitB x6 3), (.slice A7 (sacksW l j).length c7), (.slice none 0 0)] 48 (0, 0))) := ⟨(hg.block _ (blk_ltd HSd.out) (by simp)).trans HSd.out⟩
            have HOe := Aside0.mk (Kd.R_grown HOd.out hg (by simp))
            have HBe := Aside0.mk hb
            have HZe : Aside0 (w8.heap.size ≤ we.heap.size) := ⟨Nat.le_trans HZd.out hg.size⟩
            obtain ⟨A82, c82, e82⟩ := Kd.R_slice ho
            subst e82
            have HO82 := Aside0.mk ho
            clear ho hb hg hnew
            refine hK.out _ _ ((blk_cell HSe.out 7).trans rfl) (fun hHeld => ?_)
            clear hK K
            refine norm_ (a' := ?_) ?_ ?_
            rotate_left
            · show Act.put _ (some 96) _ = _
              simp only [Act.put, List.setIfInBounds_toArray, List.set_cons_zero, List.set_cons_succ, i64_w, i32_w, hwq, hwp, hwp2]
              rfl
            refine one_ (i := 14) (N := some 97) #[true, true, true, true, true, true, true, true, true, true, true, true, true, true, true, false, false] rfl rfl (one_of HT_.out (by kernel_rfl)) (by decide) (fun K hK => ?_)
            refine Kd.R_append_rows_step k54 (w0 := w) w.heap.size (by rfl) (.tmp 84) (.tmp 96) 46 54 (.agg #[.int .i64 0, .int .i64 0]) 16 rfl Try.underlying46 info54 rfl (by decide) (by omega) (.slice A7 (sacksW l j).length c7) (sacksW l j) [⟨word l p, word l p2⟩] _ _ _ (fun k_ => w8.heap.size ≤ k_) (fun _ => False) rfl rfl HOe.out (Kd.R_reads' HO82.out).2.2 K54_M (fun _ h => h.elim) (fun k_ hk_ => Nat.le_trans HZe.out hk_) HBe.out HBe.out.size ?aL ?_
            (case aL => rw [sacksW_length]; simp only [List.length_cons, List.length_nil]; have := HJN.out; have := HND.out; omega)
            intro v83 wf ho hb hg hat
            replace hg : we.grownBy wf (Value.slice A7 (sacksW l j).length c7).ownBlock := hg
            have hno : ∀ k_, k_ < w8.heap.size → some k_ ≠ (Value.slice A7 (sacksW l j).length c7).ownBlock := fun k_ hk_ e_ => by have := HOe.out.1 k_ e_.symm; omega
            have HVf := Aside0.mk (Bx.step HVe.out (fun k_ hk_ => hg.block k_ (by have := HVe.out.lt; omega) (hno k_ (by have := HV10.out.lt; omega))))
            have HSf : Aside0 (wf.heap[b6]? = some (.cells #[.int .i64 (word l 0), .int .i64 (word l 2), .int .i64 (word l 4), .bool (bitB x6 0), .bool (bitB x6 1), .bool (bitB x6 2), .bool (bitB x6 3), (.slice A7 (sacksW l j).length c7), (.slice none 0 0)] 48 (0, 0))) := ⟨(hg.block _ (blk_ltd HSe.out) (hno _ (blk_ltd HS10.out))).trans HSe.out⟩
            have HBf := Aside0.mk hb
            have HZf : Aside0 (w8.heap.size ≤ wf.heap.size) := ⟨Nat.le_trans HZe.out hg.size⟩
            rw [show sacksW l j ++ [⟨word l p, word l p2⟩] = sacksW l (j + 1) from by have h1 := HPE.out.1; have h2 := HPE.out.2.1; rw [h2, h1]; rfl] at ho
            obtain ⟨A83, c83, e83⟩ := Kd.R_slice ho
            subst e83
            have HOf := Aside0.mk ho
            have hf7 := blk_frozen HSf.out 7
            have hc7f := (blk_cell HSf.out 7).trans rfl
            clear ho hb hg hat hno
            refine hK.out _ _ ((blk_cell HSf.out 7).trans rfl) (fun hHeld => ?_)
            clear hK K
            refine norm_ (a' := ?_) ?_ ?_
            rotate_left
            · show Act.put _ (some 97) _ = _
              simp only [Act.put, List.setIfInBounds_toArray, List.set_cons_zero, List.set_cons_succ, i64_w, i32_w, hwq, hwp, hwp2]
              rfl
            refine pure_ (i := 15) (N := some 98) (v := ?_) (a' := ?_) #[true, true, true, true, true, true, true, true, true, true, true, true, true, true, true, true, false] rfl rfl (any_of HT_.out (by kernel_rfl)) (fun _ _ _ h => h) (Or.inl ⟨by rfl, ?_⟩) ?_ ?_
            rotate_left
            · intro w'
              go_simp
              with_reducible rfl
            rotate_left
            · simp only [Act.put, List.setIfInBounds_toArray, List.set_cons_zero, List.set_cons_succ, i64_w, i32_w, hwq, hwp, hwp2]
              rfl
            refine last_ (i := 16) (N := none) #[true, true, true, true, true, true, true, true, true, true, true, true, true, true, true, true, true] rfl rfl (one_of HT_.out (by kernel_rfl)) (by decide) (fun K hK => ?_)
            refine skip_ (w1 := ?_) (by rfl) rfl ?_ ?_
            rotate_left
            · go_simp
              rfl
            refine hK.out _ _ ?_
            clear hK K
            refine done_ (done_of HT_.out (by kernel_rfl)) ?_
            go_wp2
            go_roundw
            case measure => rw [hwj]; exact meas3 (by have := HPE.out; omega) HJN.out
            case rel => exact ⟨j1, _, by rw [hwj], ⟨by have := HPE.out; have := HJN.out; omega⟩, ⟨by simpa using blk_set HSf.out 7 (.slice A83 (sacksW l (j + 1)).length c83)⟩, ⟨by rw [HPE.out.2.2]; exact Kd.R_far HOf.out (fun k_ hk_ e_ => by have := blk_ltd HS10.out; have e1 : k_ = b6 := e_; omega) _⟩, ⟨below_set HBf.out hb6w⟩, ⟨Bx.far HVf.out (p := ⟨b6, 7, none⟩) hn61 hn62 _⟩, ⟨by simpa [World.setCell] using HZf.out⟩⟩
          · have e5_ : decide ((j : Int) < (n : Int)) = false := decide_eq_false (by omega)
            have e5n_ : decide (j < n) = false := decide_eq_false hj
            obtain rfl : j = n := by have := HJ.out; omega
            obtain ⟨dl, hdl⟩ : ∃ x, l.drop D = x := ⟨_, rfl⟩
            have hL1 : l.length - D = dl.length := by rw [← hdl, List.length_drop]
            obtain ⟨C1, hC1⟩ : ∃ m : Nat, c - D = m := ⟨_, rfl⟩
            have HC1 : Aside0 (dl.length ≤ C1) := ⟨by rw [← hL1]; have := HC.out; omega⟩
            have HDS : Aside0 (dl.length < 140737488351233) := ⟨by rw [← hL1]; have := HLN.out; omega⟩
            obtain ⟨i5, hi5, hz5⟩ := Option.map_eq_some_iff.1 info5s
            have hsz5 : i5.size = 1 := by simp only [Prod.mk.injEq] at hz5; exact hz5.2.1
            clear hz5
            have hcut := cut_from (P := Try.prog) 30 5 .i64 Try.underlying30 hi5 1 hsz5 (some ad) l.length c (D : Int) (by omega) (by have := HDL.out; omega)
            have hCF := Kd.C_drop (m := D) (c := c) HR.out HDL.out HC.out
            rw [show (Kd.int .u8).sz = 1 from rfl] at hCF
            rw [Int.toNat_natCast, hL1, hC1] at hcut
            rw [hdl] at hCF
            have HDLE := Aside0.mk hdl
            have HCF := Aside0.mk hCF
            generalize (if c = D then (some ad) else (some ad).map (·.add (D * 1))) = A2 at hcut HCF
            have hkb := Bx.cell HVa.out
            clear hCF hL1 hC1 hj hi5 hsz5 hdl hk7
            obtain ⟨hwn, hw4, hwD⟩ := HWN.out
            go_upto_region 18 with (first | ((with_reducible refine gate_builtin (b := .append) (xs := #[.const (.slice none 0 0), .tmp 103]) rfl ?_); at_builtin; refine Kd.R_append_rows (Kd.int .u8) (w0 := w) w.heap.size rfl (.const (.slice none 0 0)) (.tmp 103) 30 5 (.int .u8 0) 1 rfl Try.underlying30 info5s rfl (by decide) (by omega) (.slice none 0 0) [] dl _ _ _ (fun k_ => w8.heap.size ≤ k_) (fun _ => False) rfl rfl ?bO ?bR (fun _ _ h => h) (fun _ h => h.elim) (fun k_ hk_ => Nat.le_trans HZa.out hk_) HBa.out HBa.out.size ?bL ?_; (case bR => exact Kd.C_below HCF.out HBa.out); (case bO => exact Kd.R_nil _ _ _ _ _); (case bL => simp only [List.length_nil]; have := HDS.out; omega); intro v88 w21 ho_ hb_ hg_ hat_; rw [List.nil_append] at ho_; replace hg_ : wr.grownBy w21 none := hg_; obtain ⟨A8, c8, e8⟩ := Kd.R_slice ho_; subst e8; have HB21 := Aside0.mk hb_; have HV21 := Aside0.mk (Bx.step HVa.out (fun k_ hk_ => hg_.block k_ (by have := HVa.out.lt; omega) (by simp))); have HS21 : Aside0 (w21.heap[b6]? = some (.cells #[.int .i64 (word l 0), .int .i64 (word l 2), .int .i64 (word l 4), .bool (bitB x6 0), .bool (bitB x6 1), .bool (bitB x6 2), .bool (bitB x6 3), (.slice A7 (sacksW l j).length c7), (.slice none 0 0)] 48 (0, 0))) := ⟨(hg_.block _ (blk_ltd HSa.out) (by simp)).trans HSa.out⟩; have HO7 := Aside0.mk (Kd.R_grown HOa.out hg_ (by simp)); have HO8 := Aside0.mk ho_; have hf8_ := blk_frozen HS21.out 8; have hc8_ := (blk_cell HS21.out 8).trans rfl; clear ho_ hb_ hg_ hat_))
            clear hwn hw4 hwD hkb hcut
            obtain ⟨w22, hw22⟩ : ∃ W, w21.setCell ⟨b6, 8, none⟩ (.slice A8 dl.length c8) = W := ⟨_, rfl⟩
            rw [hw22]
            have HS22 : Aside0 (w22.heap[b6]? = some (.cells #[.int .i64 (word l 0), .int .i64 (word l 2), .int .i64 (word l 4), .bool (bitB x6 0), .bool (bitB x6 1), .bool (bitB x6 2), .bool (bitB x6 3), .slice A7 (sacksW l j).length c7, .slice A8 dl.length c8] 48 (0, 0))) := ⟨by rw [← hw22]; simpa using blk_set HS21.out 8 (.slice A8 dl.length c8)⟩
            have HB22 : Aside0 (Below w.heap.size w w22) := ⟨by rw [← hw22]; exact below_set HB21.out hb6w⟩
            have HV22 : Aside0 (Bx w.heap.size b2 (.slice (some ad) l.length c) w22) := ⟨by rw [← hw22]; exact Bx.far HV21.out (p := ⟨b6, 8, none⟩) hn61 hn62 _⟩
            have HRR7 := Aside0.mk (show Kd.R k54 54 w22 w.heap.size (fun k_ => w8.heap.size ≤ k_) (.slice A7 (sacksW l j).length c7) (sacksW l j) from by rw [← hw22]; exact Kd.R_far HO7.out (fun k_ hk_ e_ => by have := blk_ltd HS10.out; have e1 : k_ = b6 := e_; omega) _)
            have HRR8 := Aside0.mk (show Kd.R (Kd.int .u8) 5 w22 w.heap.size (fun k_ => w8.heap.size ≤ k_) (.slice A8 dl.length c8) dl from by rw [← hw22]; exact Kd.R_far HO8.out (fun k_ hk_ e_ => by have := blk_ltd HS10.out; have e1 : k_ = b6 := e_; omega) _)
            have HR7 := Aside0.mk (Kd.R_reads' HRR7.out)
            have HR8 := Aside0.mk (Kd.R_reads' HRR8.out)
            clear hw22 hf8_ hc8_
            have hso : segOf l = ⟨word l 0, word l 2, word l 4, bitB x6 0, bitB x6 1, bitB x6 2, bitB x6 3, sacksW l j, dl⟩ := by
              unfold segOf
              rw [HXE.out, HNE.out, Int.toNat_natCast, show 10 + 4 * j = D from by have := HND.out; omega, HDLE.out]
            have hHH := HH.out
            have hSE := HSE.out
            rw [hso] at hHH hSE
            have HSE2 := Aside0.mk hSE
            clear hso hSE
            have hk_0 := (blk_cell HS22.out 0).trans rfl
            have hk_1 := (blk_cell HS22.out 1).trans rfl
            have hk_2 := (blk_cell HS22.out 2).trans rfl
            have hk_3 := (blk_cell HS22.out 3).trans rfl
            have hk_4 := (blk_cell HS22.out 4).trans rfl
            have hk_5 := (blk_cell HS22.out 5).trans rfl
            have hk_6 := (blk_cell HS22.out 6).trans rfl
            have hk_7 := (blk_cell HS22.out 7).trans rfl
            have hk_8 := (blk_cell HS22.out 8).trans rfl
            go_upto_region 19 with (first | ((with_reducible refine gate_callee (f := 27) rfl ?_); refine goesL_ (some 108) rfl rfl Try.func27 (by kernel_rfl) rfl #[.agg #[.int .i64 (word l 0), .int .i64 (word l 2), .int .i64 (word l 4), .bool (bitB x6 0), .bool (bitB x6 1), .bool (bitB x6 2), .bool (bitB x6 3), .slice A7 (sacksW l j).length c7, .slice A8 dl.length c8]] rfl (by (try simp only [List.map_toArray, List.map_cons, List.map_nil]); first | done | rfl) ?_; refine (packthreadref_SegEncoded.calls k (word l 0) (word l 2) (word l 4) (bitB x6 0) (bitB x6 1) (bitB x6 2) (bitB x6 3) A7 c7 (sacksW l j) A8 c8 dl bk eb _ HR7.out.2.2 HR7.out.2.1 HR8.out.2.2 HR8.out.2.1 HSE2.out).mono ?_; rintro e' w23 ⟨v9, rfl, ho_, hb_⟩; obtain ⟨A9, c9, e9⟩ := Kd.R_slice ho_; subst e9; refine ⟨_, rfl, ?_⟩; have HB23 := Aside0.mk (below_step HB22.out hb_); have HV23 := Aside0.mk (Bx.below HV22.out hb_); have HS23 := Aside0.mk (blk_below HS22.out hb_); have HR7b := Aside0.mk (Kd.R_below HRR7.out hb_); have HR8b := Aside0.mk (Kd.R_below HRR8.out hb_); have HR9 := Aside0.mk (Kd.R_reads' ho_); clear hb_ ho_))
            have hcv1 := Kd.C_string (P := Try.prog) (src := 30) (dst := 9) (e := 5) (c := c9) Try.underlying30 Try.underlying5 Try.underlying9 HR9.out.2.2
            have hcv2 := Kd.C_string (P := Try.prog) (src := 30) (dst := 9) (e := 5) (c := c) Try.underlying30 Try.underlying5 Try.underlying9 (Kd.C_below HR.out HB23.out)
            have hkb := Bx.cell HV23.out
            by_cases heb : eb = 0
            · have e6_ : (eb != 0) = false := bne_eq_false_iff_eq.2 heb
              by_cases hbl : bk = l
              · rw [if_pos ⟨heb, hbl⟩] at hHH
                simp only [Option.some.injEq, Prod.mk.injEq] at hHH
                obtain ⟨rfl, rfl⟩ := hHH
                have e7_ : ((strOfNums bk).toList == (strOfNums l).toList) = true := beq_iff_eq.2 (by rw [hbl])
                clear heb hbl
                go_upto_region 21 with (fail)
                have hs_0 := (blk_cell HS23.out 0).trans rfl
                have hs_1 := (blk_cell HS23.out 1).trans rfl
                have hs_2 := (blk_cell HS23.out 2).trans rfl
                have hs_3 := (blk_cell HS23.out 3).trans rfl
                have hs_4 := (blk_cell HS23.out 4).trans rfl
                have hs_5 := (blk_cell HS23.out 5).trans rfl
                have hs_6 := (blk_cell HS23.out 6).trans rfl
                have hs_7 := (blk_cell HS23.out 7).trans rfl
                have hs_8 := (blk_cell HS23.out 8).trans rfl
                have hf0 := blk_frozen HV23.out.2 0
                have hf1 := blk_frozen HV23.out.2 1
                have hf2 := blk_frozen HV23.out.2 2
                have hf3 := blk_frozen HV23.out.2 3
                have hf4 := blk_frozen HV23.out.2 4
                have hf5 := blk_frozen HV23.out.2 5
                have hf6 := blk_frozen HV23.out.2 6
                have hf7 := blk_frozen HV23.out.2 7
                have hf8 := blk_frozen HV23.out.2 8
                have hz0 := (blk_cell HV23.out.2 0).trans rfl
                have hz1 := (blk_cell HV23.out.2 1).trans rfl
                have hz2 := (blk_cell HV23.out.2 2).trans rfl
                have hz3 := (blk_cell HV23.out.2 3).trans rfl
                have hz4 := (blk_cell HV23.out.2 4).trans rfl
                have hz5 := (blk_cell HV23.out.2 5).trans rfl
                have hz6 := (blk_cell HV23.out.2 6).trans rfl
                have hz7 := (blk_cell HV23.out.2 7).trans rfl
                have hz8 := (blk_cell HV23.out.2 8).trans rfl
                go_wp2
                (try simp only [Exit.inBlock, Exit.then])
                refine bodyPost_ret (results_ct rfl _ _ b2 48 _ (0, 0) _ rfl (set_nine HV23.out.2) Try.underlying48 rfl (by kernel_rfl)) rfl ?_
                exact DPost.mk ⟨word l 0, word l 2, word l 4, bitB x6 0, bitB x6 1, bitB x6 2, bitB x6 3, sacksW l j, dl⟩ 0 A7 c7 A8 c8 HR7.out.2.1 HR8.out.2.1 (Kd.R_reads' (R_nine HR7b.out (fun k_ hk_ => by have := HV10.out.lt; omega))).2.2 (Kd.R_reads' (R_nine HR8b.out (fun k_ hk_ => by have := HV10.out.lt; omega))).2.2 (below_nine HB23.out hb2w)
              · rw [if_neg (fun h => hbl h.2)] at hHH
                simp only [Option.some.injEq, Prod.mk.injEq] at hHH
                obtain ⟨rfl, rfl⟩ := hHH
                have e7_ : ((strOfNums bk).toList == (strOfNums l).toList) = false := beq_eq_false_iff_ne.2 (fun h => hbl (strOfNums_inj HBK.out HBY.out h))
                clear heb hbl
                go_upto_region 20 with (fail)
                have hf0 := blk_frozen HV23.out.2 0
                have hf1 := blk_frozen HV23.out.2 1
                have hf2 := blk_frozen HV23.out.2 2
                have hf3 := blk_frozen HV23.out.2 3
                have hf4 := blk_frozen HV23.out.2 4
                have hf5 := blk_frozen HV23.out.2 5
                have hf6 := blk_frozen HV23.out.2 6
                have hf7 := blk_frozen HV23.out.2 7
                have hf8 := blk_frozen HV23.out.2 8
                have hz0 := (blk_cell HV23.out.2 0).trans rfl
                have hz1 := (blk_cell HV23.out.2 1).trans rfl
                have hz2 := (blk_cell HV23.out.2 2).trans rfl
                have hz3 := (blk_cell HV23.out.2 3).trans rfl
                have hz4 := (blk_cell HV23.out.2 4).trans rfl
                have hz5 := (blk_cell HV23.out.2 5).trans rfl
                have hz6 := (blk_cell HV23.out.2 6).trans rfl
                have hz7 := (blk_cell HV23.out.2 7).trans rfl
                have hz8 := (blk_cell HV23.out.2 8).trans rfl
                go_wp2
                (try simp only [Exit.inBlock, Exit.then])
                refine bodyPost_ret (results_ct rfl _ _ b2 48 _ (0, 0) _ rfl (set_nine HV23.out.2) Try.underlying48 rfl (by kernel_rfl)) rfl ?_
                exact DPost.zero 4 (below_nine HB23.out hb2w)
            · have e6_ : (eb != 0) = true := bne_iff_ne.2 heb
              rw [if_neg (fun h => heb h.1)] at hHH
              simp only [Option.some.injEq, Prod.mk.injEq] at hHH
              obtain ⟨rfl, rfl⟩ := hHH
              clear heb
              go_upto_region 20 with (fail)
              have hf0 := blk_frozen HV23.out.2 0
              have hf1 := blk_frozen HV23.out.2 1
              have hf2 := blk_frozen HV23.out.2 2
              have hf3 := blk_frozen HV23.out.2 3
              have hf4 := blk_frozen HV23.out.2 4
              have hf5 := blk_frozen HV23.out.2 5
              have hf6 := blk_frozen HV23.out.2 6
              have hf7 := blk_frozen HV23.out.2 7
              have hf8 := blk_frozen HV23.out.2 8
              have hz0 := (blk_cell HV23.out.2 0).trans rfl
              have hz1 := (blk_cell HV23.out.2 1).trans rfl
              have hz2 := (blk_cell HV23.out.2 2).trans rfl
              have hz3 := (blk_cell HV23.out.2 3).trans rfl
              have hz4 := (blk_cell HV23.out.2 4).trans rfl
              have hz5 := (blk_cell HV23.out.2 5).trans rfl
              have hz6 := (blk_cell HV23.out.2 6).trans rfl
              have hz7 := (blk_cell HV23.out.2 7).trans rfl
              have hz8 := (blk_cell HV23.out.2 8).trans rfl
              go_wp2
              (try simp only [Exit.inBlock, Exit.then])
              refine bodyPost_ret (results_ct rfl _ _ b2 48 _ (0, 0) _ rfl (set_nine HV23.out.2) Try.underlying48 rfl (by kernel_rfl)) rfl ?_
              exact DPost.zero 4 (below_nine HB23.out hb2w)

end Go.Proofs.Ytjhmjgcebijmiaa.HSegDecodes
