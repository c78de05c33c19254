/- The contracts of the functions that the law TopShaped reaches: Go's code comes to what these Lean functions tell (written by a program of ours and the kit's, out of the translation). -/
import Derived.Test.YtnbpkibefgahlaaHTopShapedx0
import Derived.Test.YtnbpkibefgahlaaHTopShapedx2
import Derived.Test.YtnbpkibefgahlaaHTopShapedx3
import Derived.Test.YtnbpkibefgahlaaHTopShapedx4
namespace Go.Proofs.Ytnbpkibefgahlaa.HTopShaped
open Go.RowKit Go.Proofs.YtnbpkibefgahlaaW.PrintWords Go.Proofs.YtnbpkibefgahlaaW.PrintLast Go.Proofs.YtnbpkibefgahlaaW.PrintMore
attribute [local go_sem] max2_int min2_int max_two min_two max_three min_three max_four min_four   -- for this text's walks alone
set_option linter.unusedVariables false
set_option linter.unusedSimpArgs false

/-! ### packthreadtop_TopShaped: function 4 -/
mutual
def packthreadtop_TopShaped.j0 : Nat → Int → Int → List (S35) → List (S29) → Bool → Option (Bool)
  | 0, _, _, _, _, _ => none
  | k + 1, x2, x3, x9, x10, x42 => if x42 = true then (some false) else (packthreadtop_TopShaped.l0 k x2 x3 x9 x10 ([] : List (S37)) 0)
def packthreadtop_TopShaped.l0 : Nat → Int → Int → List (S35) → List (S29) → List (S37) → Int → Option (Bool)
  | 0, _, _, _, _, _, _ => none
  | k + 1, x2, x3, x9, x10, x12, x13 => if x13 < (x10.length : Int) then (if 0 ≤ x13 then (if x13 < (x9.length : Int) then (if ((rd_T35 x9 x13).f1) = 0 then (if ((rd_T29 x10 x13).f0) = 0 then (if x12.length < 8796093022208 then (packthreadtop_TopShaped.l0 k x2 x3 x9 x10 (x12 ++ [(⟨x13, (rd_T29 x10 x13).f2⟩ : S37)]) (wrap64 (x13 + 1))) else (none)) else (packthreadtop_TopShaped.l0 k x2 x3 x9 x10 x12 (wrap64 (x13 + 1)))) else (packthreadtop_TopShaped.l0 k x2 x3 x9 x10 x12 (wrap64 (x13 + 1)))) else (none)) else (none)) else ((packthreadkeep_Picked.f x2 60).bind fun t175 => ((packthreadkeep_Picked.f x3 900).bind fun t176 => (if ([] : List (S37)).length + x12.length < 8796093022208 then ((bucket_Play.f k t175 t176 (([] : List (S37)) ++ x12)).bind fun bt180 => ((bucket_Bound.f t175 t176 (x10.length : Int)).bind fun bt184 => ((bucket_Play.f k 1 5 (([(⟨0, 5⟩ : S37)] : List (S37)))).bind fun bt189 => (if bt180.2 = 0 then (if bt184.2 = 0 then (if bt189.2 = 0 then (if (bt180.1.length : Int) = (x12.length : Int) then (if (bt189.1.length : Int) = 1 then (if 0 < (bt189.1.length : Int) then (packthreadtop_TopShaped.j2 k x12 bt180.1 bt184.1 (!(rdOf false bt189.1 0))) else (none)) else (packthreadtop_TopShaped.j2 k x12 bt180.1 bt184.1 true)) else (packthreadtop_TopShaped.j2 k x12 bt180.1 bt184.1 true)) else (packthreadtop_TopShaped.j2 k x12 bt180.1 bt184.1 true)) else (packthreadtop_TopShaped.j2 k x12 bt180.1 bt184.1 true)) else (packthreadtop_TopShaped.j2 k x12 bt180.1 bt184.1 true))))) else (none))))
def packthreadtop_TopShaped.j2 : Nat → List (S37) → List Bool → Int → Bool → Option (Bool)
  | 0, _, _, _, _ => none
  | k + 1, x12, x16, x18, x126 => if x126 = true then (some false) else (packthreadtop_TopShaped.l1 k x12 x16 x18 0 0)
def packthreadtop_TopShaped.l1 : Nat → List (S37) → List Bool → Int → Int → Int → Option (Bool)
  | 0, _, _, _, _, _ => none
  | k + 1, x12, x16, x18, x22, x23 => if x23 < (x12.length : Int) then (if 0 ≤ x23 then (if x23 < (x16.length : Int) then (if rdOf false x16 x23 = true then (packthreadtop_TopShaped.l1 k x12 x16 x18 (wrap64 (x22 + ((rd_T37 x12 x23).f1))) (wrap64 (x23 + 1))) else (packthreadtop_TopShaped.l1 k x12 x16 x18 x22 (wrap64 (x23 + 1)))) else (none)) else (none)) else (some (decide (x22 ≤ x18)))
end
def packthreadtop_TopShaped.f (k : Nat) (l0 : List Int) (l1 : List Int) (a2 : Int) (a3 : Int) : Option (Bool) := (packthreadkeep_Feeds.f k l1 150).bind fun t156 => ((packthreadkeep_Quanta.f k l0).bind fun t159 => (if ([] : List (S35)).length + t156.length < 8796093022208 then ((fair_Play.f k t159 (([] : List (S35)) ++ t156)).bind fun bt165 => (if bt165.2 = 0 then (packthreadtop_TopShaped.j0 k a2 a3 t156 bt165.1 ((bt165.1.length : Int) != (t156.length : Int))) else (packthreadtop_TopShaped.j0 k a2 a3 t156 bt165.1 true))) else (none)))
theorem packthreadtop_TopShaped.mono_l : ∀ k, (∀ y0 y1 y2 y3 y4, LeO (packthreadtop_TopShaped.j0 k y0 y1 y2 y3 y4) (packthreadtop_TopShaped.j0 (k + 1) y0 y1 y2 y3 y4)) ∧ (∀ y0 y1 y2 y3 y4 y5, LeO (packthreadtop_TopShaped.l0 k y0 y1 y2 y3 y4 y5) (packthreadtop_TopShaped.l0 (k + 1) y0 y1 y2 y3 y4 y5)) ∧ (∀ y0 y1 y2 y3, LeO (packthreadtop_TopShaped.j2 k y0 y1 y2 y3) (packthreadtop_TopShaped.j2 (k + 1) y0 y1 y2 y3)) ∧ (∀ y0 y1 y2 y3 y4, LeO (packthreadtop_TopShaped.l1 k y0 y1 y2 y3 y4) (packthreadtop_TopShaped.l1 (k + 1) y0 y1 y2 y3 y4))
  | 0 => ⟨fun _ _ _ _ _ r h => by simp [packthreadtop_TopShaped.j0] at h, fun _ _ _ _ _ _ r h => by simp [packthreadtop_TopShaped.l0] at h, fun _ _ _ _ r h => by simp [packthreadtop_TopShaped.j2] at h, fun _ _ _ _ _ r h => by simp [packthreadtop_TopShaped.l1] at h⟩
  | k + 1 => by
    obtain ⟨ih0, ih1, ih2, ih3⟩ := packthreadtop_TopShaped.mono_l k
    refine ⟨?_, ?_, ?_, ?_⟩
    · intro y0 y1 y2 y3 y4
      unfold packthreadtop_TopShaped.j0
      repeat' first
      | (with_reducible exact ih0 _ _ _ _ _)
      | (with_reducible exact ih1 _ _ _ _ _ _)
      | (with_reducible exact ih2 _ _ _ _)
      | (with_reducible exact ih3 _ _ _ _ _)
      | (with_reducible exact bucket_Play.mono _ _ _ _)
      | (with_reducible exact fair_Play.mono _ _ _)
      | (with_reducible exact packthreadkeep_Feeds.mono _ _ _)
      | (with_reducible exact packthreadkeep_Quanta.mono _ _)
      | (with_reducible exact LeO.refl _)
      | (with_reducible exact LeO.none _)
      | (with_reducible refine LeO.ite ?_ ?_)
      | (with_reducible refine LeO.bind ?_ (fun _ => ?_))
      | exact ih0 _ _ _ _ _
      | exact ih1 _ _ _ _ _ _
      | exact ih2 _ _ _ _
      | exact ih3 _ _ _ _ _
      | exact bucket_Play.mono _ _ _ _
      | exact fair_Play.mono _ _ _
      | exact packthreadkeep_Feeds.mono _ _ _
      | exact packthreadkeep_Quanta.mono _ _
      | exact LeO.none _
      | refine LeO.ite ?_ ?_
      | refine LeO.bind ?_ (fun _ => ?_)
    · intro y0 y1 y2 y3 y4 y5
      unfold packthreadtop_TopShaped.l0
      repeat' first
      | (with_reducible exact ih0 _ _ _ _ _)
      | (with_reducible exact ih1 _ _ _ _ _ _)
      | (with_reducible exact ih2 _ _ _ _)
      | (with_reducible exact ih3 _ _ _ _ _)
      | (with_reducible exact bucket_Play.mono _ _ _ _)
      | (with_reducible exact fair_Play.mono _ _ _)
      | (with_reducible exact packthreadkeep_Feeds.mono _ _ _)
      | (with_reducible exact packthreadkeep_Quanta.mono _ _)
      | (with_reducible exact LeO.refl _)
      | (with_reducible exact LeO.none _)
      | (with_reducible refine LeO.ite ?_ ?_)
      | (with_reducible refine LeO.bind ?_ (fun _ => ?_))
      | exact ih0 _ _ _ _ _
      | exact ih1 _ _ _ _ _ _
      | exact ih2 _ _ _ _
      | exact ih3 _ _ _ _ _
      | exact bucket_Play.mono _ _ _ _
      | exact fair_Play.mono _ _ _
      | exact packthreadkeep_Feeds.mono _ _ _
      | exact packthreadkeep_Quanta.mono _ _
      | exact LeO.none _
      | refine LeO.ite ?_ ?_
      | refine LeO.bind ?_ (fun _ => ?_)
    · intro y0 y1 y2 y3
      unfold packthreadtop_TopShaped.j2
      repeat' first
      | (with_reducible exact ih0 _ _ _ _ _)
      | (with_reducible exact ih1 _ _ _ _ _ _)
      | (with_reducible exact ih2 _ _ _ _)
      | (with_reducible exact ih3 _ _ _ _ _)
      | (with_reducible exact bucket_Play.mono _ _ _ _)
      | (with_reducible exact fair_Play.mono _ _ _)
      | (with_reducible exact packthreadkeep_Feeds.mono _ _ _)
      | (with_reducible exact packthreadkeep_Quanta.mono _ _)
      | (with_reducible exact LeO.refl _)
      | (with_reducible exact LeO.none _)
      | (with_reducible refine LeO.ite ?_ ?_)
      | (with_reducible refine LeO.bind ?_ (fun _ => ?_))
      | exact ih0 _ _ _ _ _
      | exact ih1 _ _ _ _ _ _
      | exact ih2 _ _ _ _
      | exact ih3 _ _ _ _ _
      | exact bucket_Play.mono _ _ _ _
      | exact fair_Play.mono _ _ _
      | exact packthreadkeep_Feeds.mono _ _ _
      | exact packthreadkeep_Quanta.mono _ _
      | exact LeO.none _
      | refine LeO.ite ?_ ?_
      | refine LeO.bind ?_ (fun _ => ?_)
    · intro y0 y1 y2 y3 y4
      unfold packthreadtop_TopShaped.l1
      repeat' first
      | (with_reducible exact ih0 _ _ _ _ _)
      | (with_reducible exact ih1 _ _ _ _ _ _)
      | (with_reducible exact ih2 _ _ _ _)
      | (with_reducible exact ih3 _ _ _ _ _)
      | (with_reducible exact bucket_Play.mono _ _ _ _)
      | (with_reducible exact fair_Play.mono _ _ _)
      | (with_reducible exact packthreadkeep_Feeds.mono _ _ _)
      | (with_reducible exact packthreadkeep_Quanta.mono _ _)
      | (with_reducible exact LeO.refl _)
      | (with_reducible exact LeO.none _)
      | (with_reducible refine LeO.ite ?_ ?_)
      | (with_reducible refine LeO.bind ?_ (fun _ => ?_))
      | exact ih0 _ _ _ _ _
      | exact ih1 _ _ _ _ _ _
      | exact ih2 _ _ _ _
      | exact ih3 _ _ _ _ _
      | exact bucket_Play.mono _ _ _ _
      | exact fair_Play.mono _ _ _
      | exact packthreadkeep_Feeds.mono _ _ _
      | exact packthreadkeep_Quanta.mono _ _
      | exact LeO.none _
      | refine LeO.ite ?_ ?_
      | refine LeO.bind ?_ (fun _ => ?_)
theorem packthreadtop_TopShaped.mono : ∀ a0 a1 a2 a3 k, LeO (packthreadtop_TopShaped.f k a0 a1 a2 a3) (packthreadtop_TopShaped.f (k + 1) a0 a1 a2 a3) := by
  intro a0 a1 a2 a3 k
  obtain ⟨ih0, ih1, ih2, ih3⟩ := packthreadtop_TopShaped.mono_l k
  unfold packthreadtop_TopShaped.f
  repeat' first
      | (with_reducible exact ih0 _ _ _ _ _)
      | (with_reducible exact ih1 _ _ _ _ _ _)
      | (with_reducible exact ih2 _ _ _ _)
      | (with_reducible exact ih3 _ _ _ _ _)
      | (with_reducible exact bucket_Play.mono _ _ _ _)
      | (with_reducible exact fair_Play.mono _ _ _)
      | (with_reducible exact packthreadkeep_Feeds.mono _ _ _)
      | (with_reducible exact packthreadkeep_Quanta.mono _ _)
      | (with_reducible exact LeO.refl _)
      | (with_reducible exact LeO.none _)
      | (with_reducible refine LeO.ite ?_ ?_)
      | (with_reducible refine LeO.bind ?_ (fun _ => ?_))
      | exact ih0 _ _ _ _ _
      | exact ih1 _ _ _ _ _ _
      | exact ih2 _ _ _ _
      | exact ih3 _ _ _ _ _
      | exact bucket_Play.mono _ _ _ _
      | exact fair_Play.mono _ _ _
      | exact packthreadkeep_Feeds.mono _ _ _
      | exact packthreadkeep_Quanta.mono _ _
      | exact LeO.none _
      | refine LeO.ite ?_ ?_
      | refine LeO.bind ?_ (fun _ => ?_)
set_option maxHeartbeats 8000000 in
set_option maxRecDepth 100000 in
theorem packthreadtop_TopShaped.calls (k : Nat) (A0 : Option Addr) (c0 : Nat) (l0 : List Int) (A1 : Option Addr) (c1 : Nat) (l1 : List Int) (a2 : Int) (a3 : Int) (r : Bool) (w : World) (hr0 : Kd.C (Kd.int .i64) w A0 l0.length l0) (hc0 : l0.length ≤ c0) (hr1 : Kd.C (Kd.int .i64) w A1 l1.length l1) (hc1 : l1.length ≤ c1) (h : packthreadtop_TopShaped.f k l0 l1 a2 a3 = some r) :
    Calls Try.prog 4 #[.slice A0 l0.length c0, .slice A1 l1.length c1, .int .i64 a2, .int .i64 a3] w fun e w' => e = .returned (.bool r) ∧ Below w.heap.size w w' := by
  have hu37 := Try.underlying37
  have HR0 := Aside0.mk hr0
  have HC0 := Aside0.mk hc0
  clear hr0 hc0
  have HR1 := Aside0.mk hr1
  have HC1 := Aside0.mk hc1
  clear hr1 hc1
  have HB := Aside0.mk (Below.refl w.heap.size w)
  have H : ((packthreadkeep_Feeds.f k l1 150).bind fun t156 => ((packthreadkeep_Quanta.f k l0).bind fun t159 => (if ([] : List (S35)).length + t156.length < 8796093022208 then ((fair_Play.f k t159 (([] : List (S35)) ++ t156)).bind fun bt165 => (if bt165.2 = 0 then (packthreadtop_TopShaped.j0 k a2 a3 t156 bt165.1 ((bt165.1.length : Int) != (t156.length : Int))) else (packthreadtop_TopShaped.j0 k a2 a3 t156 bt165.1 true))) else (none)))) = some r := h
  clear h
  replace H := Option.bind_eq_some_iff.mp H
  obtain ⟨t156, A50, H⟩ := H
  replace H : ((packthreadkeep_Quanta.f k l0).bind fun t159 => (if ([] : List (S35)).length + t156.length < 8796093022208 then ((fair_Play.f k t159 (([] : List (S35)) ++ t156)).bind fun bt165 => (if bt165.2 = 0 then (packthreadtop_TopShaped.j0 k a2 a3 t156 bt165.1 ((bt165.1.length : Int) != (t156.length : Int))) else (packthreadtop_TopShaped.j0 k a2 a3 t156 bt165.1 true))) else (none))) = some r := H
  have A5 := Aside0.mk A50
  clear A50
  replace H := Option.bind_eq_some_iff.mp H
  obtain ⟨t159, A60, H⟩ := H
  replace H : (if ([] : List (S35)).length + t156.length < 8796093022208 then ((fair_Play.f k t159 (([] : List (S35)) ++ t156)).bind fun bt165 => (if bt165.2 = 0 then (packthreadtop_TopShaped.j0 k a2 a3 t156 bt165.1 ((bt165.1.length : Int) != (t156.length : Int))) else (packthreadtop_TopShaped.j0 k a2 a3 t156 bt165.1 true))) else (none)) = some r := H
  have A6 := Aside0.mk A60
  clear A60
  by_cases c7 : ([] : List (S35)).length + t156.length < 8796093022208
  · rw [if_pos c7] at H
    have LMc7 := Aside0.mk c7
    clear c7
    obtain ⟨y162, hy162⟩ : ∃ y_ : List (S35), y_ = (([] : List (S35)) ++ t156) := ⟨_, rfl⟩
    replace H : ((fair_Play.f k t159 y162).bind fun bt165 => (if bt165.2 = 0 then (packthreadtop_TopShaped.j0 k a2 a3 t156 bt165.1 ((bt165.1.length : Int) != (t156.length : Int))) else (packthreadtop_TopShaped.j0 k a2 a3 t156 bt165.1 true))) = some r := by first | (rw [hy162]; with_reducible exact H) | (have H2_ := (Option.bind_some _ _).symm.trans H; rw [hy162]; with_reducible exact H2_) | (have H2_ := (Option.bind_some _ _).symm.trans H; with_reducible exact H2_) | with_reducible exact H | (rw [hy162]; exact H) | exact H
    have Ny162 := Aside0.mk hy162
    clear hy162
    replace H := Option.bind_eq_some_iff.mp H
    obtain ⟨⟨t165, t166⟩, A80, H⟩ := H
    replace H : (if t166 = 0 then (packthreadtop_TopShaped.j0 k a2 a3 t156 t165 ((t165.length : Int) != (t156.length : Int))) else (packthreadtop_TopShaped.j0 k a2 a3 t156 t165 true)) = some r := H
    have A8 := Aside0.mk A80
    clear A80
    have HC9 := Aside0.mk H
    clear H
    go_enter Try.func4, Try.ntmps4
    go_upto_region 3 with (first | ((with_reducible refine gate_callee (f := 11) rfl ?_); refine goesL_ (some 25) rfl rfl Try.func11 (by kernel_rfl) rfl #[.slice A1 l1.length c1, .int .i64 150] rfl (by (try simp only [List.map_toArray, List.map_cons, List.map_nil]); first | done | rfl | (simp only [List.length_drop, List.length_take]; rfl)) ?_; (with_reducible refine (packthreadkeep_Feeds.calls k _ _ l1 150 t156 _ ?side1 ?side2 A5.out).mono ?_); (case side1 => repeat (first | exact HR1.out | (with_reducible refine Kd.C_alloc ?_ _) | (with_reducible refine Kd.C_drewN ?_ _) | (with_reducible refine Kd.C_drew ?_))); (case side2 => exact HC1.out); rintro e w10 ⟨v157, rfl, ho0, hb⟩; refine ⟨_, rfl, ?_⟩; have n0_ := Aside0.mk (Kd.R_lower ho0 (below_size (by repeat (first | (with_reducible first | exact HB.out | apply below_alloc | apply pw_below_drewN | apply below_drew1) | exact HB.out)))); have n1_ := Aside0.mk (below_step (by repeat (first | (with_reducible first | exact HB.out | apply below_alloc | apply pw_below_drewN | apply below_drew1) | exact HB.out)) hb); clear HB; have HO158 := n0_; have HB := n1_; clear n0_ n1_; (try clear hb); (try clear hb2); (try clear hk); (try clear hi); (try clear ho0)) | ((with_reducible refine gate_callee (f := 12) rfl ?_); refine goesL_ (some 28) rfl rfl Try.func12 (by kernel_rfl) rfl #[.slice A0 l0.length c0] rfl (by (try simp only [List.map_toArray, List.map_cons, List.map_nil]); first | done | rfl | (simp only [List.length_drop, List.length_take]; rfl)) ?_; (with_reducible refine (packthreadkeep_Quanta.calls k _ _ l0 t159 _ ?side1 ?side2 A6.out).mono ?_); (case side1 => repeat (first | exact (Kd.C_below HR0.out HB.out) | (with_reducible refine Kd.C_alloc ?_ _) | (with_reducible refine Kd.C_drewN ?_ _) | (with_reducible refine Kd.C_drew ?_))); (case side2 => exact HC0.out); rintro e w11 ⟨v160, rfl, ho0, hb⟩; refine ⟨_, rfl, ?_⟩; have n0_ := Aside0.mk (Kd.R_below (by (with_reducible repeat (first | apply Kd.R_alloc | apply Kd.R_drewN | apply Kd.R_drew)); exact HO158.out) hb); have n1_ := Aside0.mk (Kd.R_lower ho0 (below_size (by repeat (first | (with_reducible first | exact HB.out | apply below_alloc | apply pw_below_drewN | apply below_drew1) | exact HB.out)))); have n2_ := Aside0.mk (below_step (by repeat (first | (with_reducible first | exact HB.out | apply below_alloc | apply pw_below_drewN | apply below_drew1) | exact HB.out)) hb); clear HO158; clear HB; have HO158 := n0_; have HO161 := n1_; have HB := n2_; clear n0_ n1_ n2_; (try clear hb); (try clear hb2); (try clear hk); (try clear hi); (try clear ho0); obtain ⟨Ao13, co13, eo13⟩ := Kd.R_slice HO158.out; subst eo13) | ((with_reducible refine gate_builtin (b := .append) (xs := #[.const (.slice none 0 0), .tmp 29]) rfl ?_); (try (refine gate_guard (by rfl) ?_; dsimp only)); at_builtin; refine Kd.R_append_rows k35 (w0 := w) w.heap.size rfl (.const (.slice none 0 0)) (.tmp 29) 23 35 (.agg #[(.int .i64 0), (.int .i64 0)]) 16 rfl Try.underlying23 info35 rfl (by decide) (by omega) (.slice none 0 0) ([] : List (S35)) t156 _ _ _ (fun k_ => some k_ ≠ (.slice Ao13 t156.length co13 : Value).ownBlock) (fun _ => False) rfl rfl ?aO ?aR (fun _ _ h => h) (fun _ h => h.elim) ?aF ?aB ?aS ?aL ?_; (case aR => repeat (first | exact (Kd.R_reads' HO158.out).2.2 | (with_reducible refine Kd.C_alloc ?_ _) | (with_reducible refine Kd.C_drewN ?_ _) | (with_reducible refine Kd.C_drew ?_))); (case aB => exact (by repeat (first | (with_reducible first | exact HB.out | apply below_alloc | apply pw_below_drewN | apply below_drew1) | exact HB.out))); (case aF => exact (fun k_ hk => Kd.fresh' (Kd.R_lt (by (with_reducible repeat (first | apply Kd.R_alloc | apply Kd.R_drewN | apply Kd.R_drew)); exact HO158.out)) k_ hk)); (case aO => exact ((Kd.R_nil _ _ _ _ (fun k_ => some k_ ≠ (.slice Ao13 t156.length co13 : Value).ownBlock)))); (case aS => exact (below_size (by repeat (first | (with_reducible first | exact HB.out | apply below_alloc | apply pw_below_drewN | apply below_drew1) | exact HB.out)))); (case aL => have := LMc7.out; omega); intro v163 w12 ho hb hg hat; rw [← Ny162.out] at ho; have n0_ := Aside0.mk (Kd.R_after (Kd.R_apart_nil (by (with_reducible repeat (first | apply Kd.R_alloc | apply Kd.R_drewN | apply Kd.R_drew)); exact HO158.out)) hg hat); have n1_ := Aside0.mk (Kd.R_grown (by (with_reducible repeat (first | apply Kd.R_alloc | apply Kd.R_drewN | apply Kd.R_drew)); exact HO161.out) hg (fun _ _ => by simp [Value.ownBlock])); have n2_ := Aside0.mk (hb); have n3_ := Aside0.mk (ho); clear HO158; clear HO161; clear HB; have HO158 := n0_; have HO161 := n1_; have HB := n2_; have HO164 := n3_; clear n0_ n1_ n2_ n3_; clear ho hb hg hat; obtain ⟨Ao14, co14, eo14⟩ := Kd.R_slice HO161.out; subst eo14; obtain ⟨Ao15, co15, eo15⟩ := Kd.R_slice HO164.out; subst eo15) | ((with_reducible refine gate_callee (f := 9) rfl ?_); refine goesL_ (some 31) rfl rfl Try.func9 (by kernel_rfl) rfl #[.slice Ao14 t159.length co14, .slice Ao15 y162.length co15] rfl (by (try simp only [List.map_toArray, List.map_cons, List.map_nil]); first | done | rfl | (simp only [List.length_drop, List.length_take]; rfl)) ?_; (with_reducible refine (fair_Play.calls k _ _ t159 _ _ y162 t165 t166 _ ?side1 ?side2 ?side3 ?side4 A8.out).mono ?_); (case side1 => repeat (first | exact (Kd.R_reads' HO161.out).2.2 | (with_reducible refine Kd.C_alloc ?_ _) | (with_reducible refine Kd.C_drewN ?_ _) | (with_reducible refine Kd.C_drew ?_))); (case side2 => exact (Kd.R_reads' HO161.out).2.1); (case side3 => repeat (first | exact (Kd.R_reads' HO164.out).2.2 | (with_reducible refine Kd.C_alloc ?_ _) | (with_reducible refine Kd.C_drewN ?_ _) | (with_reducible refine Kd.C_drew ?_))); (case side4 => exact (Kd.R_reads' HO164.out).2.1); rintro e w16 ⟨v167, rfl, ho0, hb⟩; refine ⟨_, rfl, ?_⟩; have n0_ := Aside0.mk (Kd.R_below (by (with_reducible repeat (first | apply Kd.R_alloc | apply Kd.R_drewN | apply Kd.R_drew)); exact HO158.out) hb); have n1_ := Aside0.mk (Kd.R_below (by (with_reducible repeat (first | apply Kd.R_alloc | apply Kd.R_drewN | apply Kd.R_drew)); exact HO161.out) hb); have n2_ := Aside0.mk (Kd.R_below (by (with_reducible repeat (first | apply Kd.R_alloc | apply Kd.R_drewN | apply Kd.R_drew)); exact HO164.out) hb); have n3_ := Aside0.mk (Kd.R_lower ho0 (below_size (by repeat (first | (with_reducible first | exact HB.out | apply below_alloc | apply pw_below_drewN | apply below_drew1) | exact HB.out)))); have n4_ := Aside0.mk (below_step (by repeat (first | (with_reducible first | exact HB.out | apply below_alloc | apply pw_below_drewN | apply below_drew1) | exact HB.out)) hb); clear HO158; clear HO161; clear HO164; clear HB; have HO158 := n0_; have HO161 := n1_; have HO164 := n2_; have HO168 := n3_; have HB := n4_; clear n0_ n1_ n2_ n3_ n4_; (try clear hb); (try clear hb2); (try clear hk); (try clear hi); (try clear ho0)))
    (try simp only [Act.put, List.setIfInBounds_toArray, List.set_cons_zero, List.set_cons_succ])
    go_cut [42] (fun v42 wc => ∃ (kq : Nat) (x42_8 : Bool), v42 = .bool x42_8 ∧ Aside0 (packthreadtop_TopShaped.j0 kq a2 a3 t156 t165 x42_8 = some r) ∧ Aside0 (kq ≤ k) ∧ Aside0 (Kd.R k35 35 wc w.heap.size (fun _ => True) (.slice Ao13 t156.length co13) t156) ∧ Aside0 (Kd.R k29 29 wc w.heap.size (fun _ => True) v167 t165) ∧ Aside0 (Below w.heap.size w wc))
    case first =>
      have H := HC9.out
      clear HC9
      by_cases c17 : t166 = 0
      · rw [if_pos c17] at H
        have c17b0 : (t166 == 0) = true := beq_iff_eq.mpr c17
        have c17b1 : (t166 != 0) = false := bne_eq_false_iff_eq.mpr c17
        clear c17
        (first | rw [c17b0] | (simp only [i64_w, i32_w]; rw [c17b0]) | skip)
        have H' := Aside0.mk H
        clear H
        obtain ⟨Ao18, co18, eo18⟩ := Kd.R_slice HO168.out
        subst eo18
        go_wp2
        go_meet
        case rel => exact ⟨_, (((t165.length : Int) != (t156.length : Int))), (by first | rfl | (simp; done) | (simp [*]; done)), H', ⟨by first | omega | exact Nat.le_refl _⟩, ⟨by (with_reducible repeat (first | apply Kd.R_alloc | apply Kd.R_drewN | apply Kd.R_drew)); exact Kd.R_mono HO158.out (fun _ hk => trivial)⟩, ⟨by (with_reducible repeat (first | apply Kd.R_alloc | apply Kd.R_drewN | apply Kd.R_drew)); exact HO168.out⟩, ⟨by repeat (first | (with_reducible first | exact HB.out | apply below_alloc | apply pw_below_drewN | apply below_drew1) | exact HB.out)⟩⟩
      · rw [if_neg c17] at H
        have c17b0 : (t166 == 0) = false := beq_eq_false_iff_ne.mpr c17
        have c17b1 : (t166 != 0) = true := bne_iff_ne.mpr c17
        (first | rw [c17b0] | (simp only [i64_w, i32_w]; rw [c17b0]) | skip)
        have H' := Aside0.mk H
        clear H
        go_wp2
        go_meet
        case rel => exact ⟨_, (true), (by first | rfl | (simp; done) | (simp [*]; done)), H', ⟨by first | omega | exact Nat.le_refl _⟩, ⟨by (with_reducible repeat (first | apply Kd.R_alloc | apply Kd.R_drewN | apply Kd.R_drew)); exact Kd.R_mono HO158.out (fun _ hk => trivial)⟩, ⟨by (with_reducible repeat (first | apply Kd.R_alloc | apply Kd.R_drewN | apply Kd.R_drew)); exact HO168.out⟩, ⟨by repeat (first | (with_reducible first | exact HB.out | apply below_alloc | apply pw_below_drewN | apply below_drew1) | exact HB.out)⟩⟩
    case rest =>
      clear HC9
      try clear c1
      try clear p2
      try clear c4
      try clear c7
      try clear c9
      try clear c11
      try clear c12
      try clear c17
      try clear c17b0
      try clear c17b1
      obtain ⟨kq, x42_8, rfl, HA, HJ8, HO_9, HO_10, HB⟩ := hcut
      cases kq with
      | zero => exact absurd HA.out (by simp [packthreadtop_TopShaped.j0])
      | succ kj8 =>
        have H := HA.out
        clear HA
        simp only [packthreadtop_TopShaped.j0] at H
        by_cases c19 : x42_8 = true
        · subst c19
          have H1 : (some false) = some r := by rw [if_pos rfl] at H; exact H
          clear H
          have H := H1
          clear H1
          obtain rfl := Option.some.inj H
          go_wp2
          go_ret
          exact ⟨by first | rfl | (simp [errW_none, errW_some] <;> rfl) | (simp [*, errW_none, errW_some] <;> rfl), by repeat (first | (with_reducible first | exact HB.out | apply below_alloc | apply pw_below_drewN | apply below_drew1) | exact HB.out)⟩
        · replace c19 := Bool.eq_false_iff.mpr c19
          subst c19
          have H1 : (packthreadtop_TopShaped.l0 kj8 a2 a3 t156 t165 ([] : List (S37)) 0) = some r := by rw [if_neg (show ¬ (false = true) by decide)] at H; exact H
          clear H
          have H := H1
          clear H1
          have H' := Aside0.mk H
          clear H
          go_wp2
          go_loopg [12, 13] kj8 (fun kq v12 v13 w' => ∃ (x12_2 : List (S37)) (x13_2 : Int), v13 = .int .i64 x13_2 ∧ Aside0 (packthreadtop_TopShaped.l0 kq a2 a3 t156 t165 x12_2 x13_2 = some r) ∧ Aside0 (kq ≤ kj8) ∧ Aside0 (Kd.R k35 35 w' w.heap.size (fun _ => True) (.slice Ao13 t156.length co13) t156) ∧ Aside0 (Kd.R k29 29 w' w.heap.size (fun _ => True) v167 t165) ∧ Aside0 (Kd.R k37 37 w' w.heap.size (fun _ => True) v12 x12_2) ∧ Aside0 (Below w.heap.size w w'))
          case atStart => exact ⟨(([] : List (S37))), (0), (by first | rfl | (simp; done) | (simp [*]; done)), H', ⟨Nat.le_refl _⟩, ⟨by (with_reducible repeat (first | apply Kd.R_alloc | apply Kd.R_drewN | apply Kd.R_drew)); exact HO_9.out⟩, ⟨by (with_reducible repeat (first | apply Kd.R_alloc | apply Kd.R_drewN | apply Kd.R_drew)); exact HO_10.out⟩, ⟨by first | exact Kd.R_nil _ _ _ _ _ | exact Kd.N_nil _ _ _ _ _ | exact Kd.V_nil _ _ _ _ _ | exact Kd.Q_nil _ _ _ _ _ | exact Kd.S_nil _ _ _ _ _⟩, ⟨by repeat (first | (with_reducible first | exact HB.out | apply below_alloc | apply pw_below_drewN | apply below_drew1) | exact HB.out)⟩⟩
          case round =>
            clear H'
            try clear c1
            try clear p2
            try clear c4
            try clear c7
            try clear c9
            try clear c11
            try clear c12
            try clear c17
            try clear c17b0
            try clear c17b1
            try clear c19
            try clear p2
            obtain ⟨x12_2, x13_2, rfl, HA, HK2, HO_9, HO_10, HO_12, HB⟩ := hrel
            cases gk with
            | zero => exact absurd HA.out (by simp [packthreadtop_TopShaped.l0])
            | succ k2 =>
              have H := HA.out
              clear HA
              simp only [packthreadtop_TopShaped.l0] at H
              by_cases c20 : x13_2 < (t165.length : Int)
              · rw [if_pos c20] at H
                have c20b0 : decide (x13_2 < (t165.length : Int)) = true := decide_eq_true c20
                clear c20
                by_cases c21 : 0 ≤ x13_2
                · rw [if_pos c21] at H
                  have c21b0 : decide (0 ≤ x13_2) = true := decide_eq_true c21
                  clear c21
                  by_cases c22 : x13_2 < (t156.length : Int)
                  · rw [if_pos c22] at H
                    have c22b0 : decide (x13_2 < (t156.length : Int)) = true := decide_eq_true c22
                    clear c22
                    by_cases c23 : ((rd_T35 t156 x13_2).f1) = 0
                    · rw [if_pos c23] at H
                      have c23b0 : (((rd_T35 t156 x13_2).f1) == 0) = true := beq_iff_eq.mpr c23
                      have c23b1 : (((rd_T35 t156 x13_2).f1) != 0) = false := bne_eq_false_iff_eq.mpr c23
                      clear c23
                      by_cases c24 : ((rd_T29 t165 x13_2).f0) = 0
                      · rw [if_pos c24] at H
                        have c24b0 : (((rd_T29 t165 x13_2).f0) == 0) = true := beq_iff_eq.mpr c24
                        have c24b1 : (((rd_T29 t165 x13_2).f0) != 0) = false := bne_eq_false_iff_eq.mpr c24
                        clear c24
                        by_cases c25 : x12_2.length < 8796093022208
                        · rw [if_pos c25] at H
                          have LMc25 := Aside0.mk c25
                          clear c25
                          obtain ⟨y172, hy172⟩ : ∃ y_ : List (S37), y_ = (x12_2 ++ [(⟨x13_2, (rd_T29 t165 x13_2).f2⟩ : S37)]) := ⟨_, rfl⟩
                          replace H : (packthreadtop_TopShaped.l0 k2 a2 a3 t156 t165 y172 (wrap64 (x13_2 + 1))) = some r := by first | (rw [hy172]; with_reducible exact H) | (have H2_ := (Option.bind_some _ _).symm.trans H; rw [hy172]; with_reducible exact H2_) | (have H2_ := (Option.bind_some _ _).symm.trans H; with_reducible exact H2_) | with_reducible exact H | (rw [hy172]; exact H) | exact H
                          have Ny172 := Aside0.mk hy172
                          clear hy172
                          have H' := Aside0.mk H
                          clear H
                          obtain ⟨Ao26, co26, eo26⟩ := Kd.R_slice HO_10.out
                          subst eo26
                          have p169 : 0 ≤ (x13_2 : Int) := of_decide_eq_true (by first | (with_reducible assumption) | assumption)
                          have q169 : x13_2 < (t156.length : Int) := of_decide_eq_true (by first | (with_reducible assumption) | assumption)
                          obtain ⟨ad169, e169, hx169_0, hx169_1⟩ := at_T35 (Kd.R_reads' HO_9.out).2.2 x13_2 p169 q169
                          cases e169
                          replace p169 := eq_true p169
                          replace q169 := eq_true q169
                          have p170 : 0 ≤ (x13_2 : Int) := of_decide_eq_true (by first | (with_reducible assumption) | assumption)
                          have q170 : x13_2 < (t165.length : Int) := of_decide_eq_true (by first | (with_reducible assumption) | assumption)
                          obtain ⟨ad170, e170, hx170_0, hx170_1, hx170_2⟩ := at_T29 (Kd.R_reads' HO_10.out).2.2 x13_2 p170 q170
                          cases e170
                          replace p170 := eq_true p170
                          replace q170 := eq_true q170
                          have p171 : 0 ≤ (x13_2 : Int) := of_decide_eq_true (by first | (with_reducible assumption) | assumption)
                          have q171 : x13_2 < (t165.length : Int) := of_decide_eq_true (by first | (with_reducible assumption) | assumption)
                          obtain ⟨ad171, e171, hx171_0, hx171_1, hx171_2⟩ := at_T29 (Kd.R_reads' HO_10.out).2.2 x13_2 p171 q171
                          obtain rfl : ad170 = ad171 := (by injection e171)
                          replace p171 := eq_true p171
                          replace q171 := eq_true q171
                          go_wp2_with (first | ((with_reducible refine gate_builtin (b := .append) (xs := #[.tmp 63, .tmp 71]) rfl ?_); (try (refine gate_guard (by rfl) ?_; dsimp only)); at_builtin; refine Kd.R_append k37 (w0 := w) w.heap.size rfl (.tmp 63) (.tmp 71) 33 37 (.agg #[(.int .i64 0), (.int .i64 0)]) 16 rfl Try.underlying33 info37 rfl (by decide) (by omega) u12 x12_2 (⟨x13_2, (rd_T29 t165 x13_2).f2⟩ : S37) [.int .i64 x13_2, .int .i64 ((rd_T29 t165 x13_2).f2)] (fun _ => True) (fun _ => False) rfl rfl ?aP (fun _ hk => hk.elim) ?aF ?aO ?aB ?aS ?aL ?_; (case aP => exact k37_mkM _ _ _ (⟨x13_2, (rd_T29 t165 x13_2).f2⟩ : S37)); (case aB => exact (by repeat (first | (with_reducible first | exact HB.out | apply below_alloc | apply pw_below_drewN | apply below_drew1) | exact HB.out))); (case aF => exact (fun _ _ => trivial)); (case aO => exact (by (with_reducible repeat (first | apply Kd.R_alloc | apply Kd.R_drewN | apply Kd.R_drew)); exact HO_12.out)); (case aS => exact (below_size (by repeat (first | (with_reducible first | exact HB.out | apply below_alloc | apply pw_below_drewN | apply below_drew1) | exact HB.out)))); (case aL => have := LMc25.out; omega); intro v173 w27 ho hb hg hat; rw [← Ny172.out] at ho; have n0_ := Aside0.mk (Kd.R_over' (by (with_reducible repeat (first | apply Kd.R_alloc | apply Kd.R_drewN | apply Kd.R_drew)); exact HO_9.out) (Kd.R_typed (by (with_reducible repeat (first | apply Kd.R_alloc | apply Kd.R_drewN | apply Kd.R_drew)); exact HO_12.out)) (by decide) hg); have n1_ := Aside0.mk (Kd.R_over' (by (with_reducible repeat (first | apply Kd.R_alloc | apply Kd.R_drewN | apply Kd.R_drew)); exact HO_10.out) (Kd.R_typed (by (with_reducible repeat (first | apply Kd.R_alloc | apply Kd.R_drewN | apply Kd.R_drew)); exact HO_12.out)) (by decide) hg); have n2_ := Aside0.mk (hb); have n3_ := Aside0.mk (ho); clear HO_9; clear HO_10; clear HB; clear HO_12; have HO_9 := n0_; have HO_10 := n1_; have HB := n2_; have HO174 := n3_; clear n0_ n1_ n2_ n3_; clear ho hb hg hat))
                          go_roundg k2
                          case measure => have := HJ8.out; have := HK2.out; omega
                          case rel => exact ⟨(y172), (wrap64 (x13_2 + 1)), (by first | rfl | (simp; done) | (simp [*]; done)), H', ⟨by have := HJ8.out; have := HK2.out; omega⟩, ⟨by (with_reducible repeat (first | apply Kd.R_alloc | apply Kd.R_drewN | apply Kd.R_drew)); exact HO_9.out⟩, ⟨by (with_reducible repeat (first | apply Kd.R_alloc | apply Kd.R_drewN | apply Kd.R_drew)); exact HO_10.out⟩, ⟨by (with_reducible repeat (first | apply Kd.R_alloc | apply Kd.R_drewN | apply Kd.R_drew)); exact HO174.out⟩, ⟨by repeat (first | (with_reducible first | exact HB.out | apply below_alloc | apply pw_below_drewN | apply below_drew1) | exact HB.out)⟩⟩
                        · rw [if_neg c25] at H
                          exact absurd H (by simp)
                      · rw [if_neg c24] at H
                        have c24b0 : (((rd_T29 t165 x13_2).f0) == 0) = false := beq_eq_false_iff_ne.mpr c24
                        have c24b1 : (((rd_T29 t165 x13_2).f0) != 0) = true := bne_iff_ne.mpr c24
                        have H' := Aside0.mk H
                        clear H
                        obtain ⟨Ao28, co28, eo28⟩ := Kd.R_slice HO_10.out
                        subst eo28
                        have p169 : 0 ≤ (x13_2 : Int) := of_decide_eq_true (by first | (with_reducible assumption) | assumption)
                        have q169 : x13_2 < (t156.length : Int) := of_decide_eq_true (by first | (with_reducible assumption) | assumption)
                        obtain ⟨ad169, e169, hx169_0, hx169_1⟩ := at_T35 (Kd.R_reads' HO_9.out).2.2 x13_2 p169 q169
                        cases e169
                        replace p169 := eq_true p169
                        replace q169 := eq_true q169
                        have p170 : 0 ≤ (x13_2 : Int) := of_decide_eq_true (by first | (with_reducible assumption) | assumption)
                        have q170 : x13_2 < (t165.length : Int) := of_decide_eq_true (by first | (with_reducible assumption) | assumption)
                        obtain ⟨ad170, e170, hx170_0, hx170_1, hx170_2⟩ := at_T29 (Kd.R_reads' HO_10.out).2.2 x13_2 p170 q170
                        cases e170
                        replace p170 := eq_true p170
                        replace q170 := eq_true q170
                        go_wp2
                        go_roundg k2
                        case measure => have := HJ8.out; have := HK2.out; omega
                        case rel => exact ⟨(x12_2), (wrap64 (x13_2 + 1)), (by first | rfl | (simp; done) | (simp [*]; done)), H', ⟨by have := HJ8.out; have := HK2.out; omega⟩, ⟨by (with_reducible repeat (first | apply Kd.R_alloc | apply Kd.R_drewN | apply Kd.R_drew)); exact HO_9.out⟩, ⟨by (with_reducible repeat (first | apply Kd.R_alloc | apply Kd.R_drewN | apply Kd.R_drew)); exact HO_10.out⟩, ⟨by (with_reducible repeat (first | apply Kd.R_alloc | apply Kd.R_drewN | apply Kd.R_drew)); exact HO_12.out⟩, ⟨by repeat (first | (with_reducible first | exact HB.out | apply below_alloc | apply pw_below_drewN | apply below_drew1) | exact HB.out)⟩⟩
                    · rw [if_neg c23] at H
                      have c23b0 : (((rd_T35 t156 x13_2).f1) == 0) = false := beq_eq_false_iff_ne.mpr c23
                      have c23b1 : (((rd_T35 t156 x13_2).f1) != 0) = true := bne_iff_ne.mpr c23
                      have H' := Aside0.mk H
                      clear H
                      obtain ⟨Ao29, co29, eo29⟩ := Kd.R_slice HO_10.out
                      subst eo29
                      have p169 : 0 ≤ (x13_2 : Int) := of_decide_eq_true (by first | (with_reducible assumption) | assumption)
                      have q169 : x13_2 < (t156.length : Int) := of_decide_eq_true (by first | (with_reducible assumption) | assumption)
                      obtain ⟨ad169, e169, hx169_0, hx169_1⟩ := at_T35 (Kd.R_reads' HO_9.out).2.2 x13_2 p169 q169
                      cases e169
                      replace p169 := eq_true p169
                      replace q169 := eq_true q169
                      go_wp2
                      go_roundg k2
                      case measure => have := HJ8.out; have := HK2.out; omega
                      case rel => exact ⟨(x12_2), (wrap64 (x13_2 + 1)), (by first | rfl | (simp; done) | (simp [*]; done)), H', ⟨by have := HJ8.out; have := HK2.out; omega⟩, ⟨by (with_reducible repeat (first | apply Kd.R_alloc | apply Kd.R_drewN | apply Kd.R_drew)); exact HO_9.out⟩, ⟨by (with_reducible repeat (first | apply Kd.R_alloc | apply Kd.R_drewN | apply Kd.R_drew)); exact HO_10.out⟩, ⟨by (with_reducible repeat (first | apply Kd.R_alloc | apply Kd.R_drewN | apply Kd.R_drew)); exact HO_12.out⟩, ⟨by repeat (first | (with_reducible first | exact HB.out | apply below_alloc | apply pw_below_drewN | apply below_drew1) | exact HB.out)⟩⟩
                  · rw [if_neg c22] at H
                    exact absurd H (by simp)
                · rw [if_neg c21] at H
                  exact absurd H (by simp)
              · rw [if_neg c20] at H
                have c20b0 : decide (x13_2 < (t165.length : Int)) = false := decide_eq_false c20
                clear c20
                replace H := Option.bind_eq_some_iff.mp H
                obtain ⟨t175, A300, H⟩ := H
                replace H : ((packthreadkeep_Picked.f a3 900).bind fun t176 => (if ([] : List (S37)).length + x12_2.length < 8796093022208 then ((bucket_Play.f k2 t175 t176 (([] : List (S37)) ++ x12_2)).bind fun bt180 => ((bucket_Bound.f t175 t176 (t165.length : Int)).bind fun bt184 => ((bucket_Play.f k2 1 5 (([(⟨0, 5⟩ : S37)] : List (S37)))).bind fun bt189 => (if bt180.2 = 0 then (if bt184.2 = 0 then (if bt189.2 = 0 then (if (bt180.1.length : Int) = (x12_2.length : Int) then (if (bt189.1.length : Int) = 1 then (if 0 < (bt189.1.length : Int) then (packthreadtop_TopShaped.j2 k2 x12_2 bt180.1 bt184.1 (!(rdOf false bt189.1 0))) else (none)) else (packthreadtop_TopShaped.j2 k2 x12_2 bt180.1 bt184.1 true)) else (packthreadtop_TopShaped.j2 k2 x12_2 bt180.1 bt184.1 true)) else (packthreadtop_TopShaped.j2 k2 x12_2 bt180.1 bt184.1 true)) else (packthreadtop_TopShaped.j2 k2 x12_2 bt180.1 bt184.1 true)) else (packthreadtop_TopShaped.j2 k2 x12_2 bt180.1 bt184.1 true))))) else (none))) = some r := H
                have A30 := Aside0.mk A300
                clear A300
                replace H := Option.bind_eq_some_iff.mp H
                obtain ⟨t176, A310, H⟩ := H
                replace H : (if ([] : List (S37)).length + x12_2.length < 8796093022208 then ((bucket_Play.f k2 t175 t176 (([] : List (S37)) ++ x12_2)).bind fun bt180 => ((bucket_Bound.f t175 t176 (t165.length : Int)).bind fun bt184 => ((bucket_Play.f k2 1 5 (([(⟨0, 5⟩ : S37)] : List (S37)))).bind fun bt189 => (if bt180.2 = 0 then (if bt184.2 = 0 then (if bt189.2 = 0 then (if (bt180.1.length : Int) = (x12_2.length : Int) then (if (bt189.1.length : Int) = 1 then (if 0 < (bt189.1.length : Int) then (packthreadtop_TopShaped.j2 k2 x12_2 bt180.1 bt184.1 (!(rdOf false bt189.1 0))) else (none)) else (packthreadtop_TopShaped.j2 k2 x12_2 bt180.1 bt184.1 true)) else (packthreadtop_TopShaped.j2 k2 x12_2 bt180.1 bt184.1 true)) else (packthreadtop_TopShaped.j2 k2 x12_2 bt180.1 bt184.1 true)) else (packthreadtop_TopShaped.j2 k2 x12_2 bt180.1 bt184.1 true)) else (packthreadtop_TopShaped.j2 k2 x12_2 bt180.1 bt184.1 true))))) else (none)) = some r := H
                have A31 := Aside0.mk A310
                clear A310
                by_cases c32 : ([] : List (S37)).length + x12_2.length < 8796093022208
                · rw [if_pos c32] at H
                  have LMc32 := Aside0.mk c32
                  clear c32
                  obtain ⟨y177, hy177⟩ : ∃ y_ : List (S37), y_ = (([] : List (S37)) ++ x12_2) := ⟨_, rfl⟩
                  replace H : ((bucket_Play.f k2 t175 t176 y177).bind fun bt180 => ((bucket_Bound.f t175 t176 (t165.length : Int)).bind fun bt184 => ((bucket_Play.f k2 1 5 (([(⟨0, 5⟩ : S37)] : List (S37)))).bind fun bt189 => (if bt180.2 = 0 then (if bt184.2 = 0 then (if bt189.2 = 0 then (if (bt180.1.length : Int) = (x12_2.length : Int) then (if (bt189.1.length : Int) = 1 then (if 0 < (bt189.1.length : Int) then (packthreadtop_TopShaped.j2 k2 x12_2 bt180.1 bt184.1 (!(rdOf false bt189.1 0))) else (none)) else (packthreadtop_TopShaped.j2 k2 x12_2 bt180.1 bt184.1 true)) else (packthreadtop_TopShaped.j2 k2 x12_2 bt180.1 bt184.1 true)) else (packthreadtop_TopShaped.j2 k2 x12_2 bt180.1 bt184.1 true)) else (packthreadtop_TopShaped.j2 k2 x12_2 bt180.1 bt184.1 true)) else (packthreadtop_TopShaped.j2 k2 x12_2 bt180.1 bt184.1 true))))) = some r := by first | (rw [hy177]; with_reducible exact H) | (have H2_ := (Option.bind_some _ _).symm.trans H; rw [hy177]; with_reducible exact H2_) | (have H2_ := (Option.bind_some _ _).symm.trans H; with_reducible exact H2_) | with_reducible exact H | (rw [hy177]; exact H) | exact H
                  have Ny177 := Aside0.mk hy177
                  clear hy177
                  replace H := Option.bind_eq_some_iff.mp H
                  obtain ⟨⟨t180, t181⟩, A330, H⟩ := H
                  replace H : ((bucket_Bound.f t175 t176 (t165.length : Int)).bind fun bt184 => ((bucket_Play.f k2 1 5 (([(⟨0, 5⟩ : S37)] : List (S37)))).bind fun bt189 => (if t181 = 0 then (if bt184.2 = 0 then (if bt189.2 = 0 then (if (t180.length : Int) = (x12_2.length : Int) then (if (bt189.1.length : Int) = 1 then (if 0 < (bt189.1.length : Int) then (packthreadtop_TopShaped.j2 k2 x12_2 t180 bt184.1 (!(rdOf false bt189.1 0))) else (none)) else (packthreadtop_TopShaped.j2 k2 x12_2 t180 bt184.1 true)) else (packthreadtop_TopShaped.j2 k2 x12_2 t180 bt184.1 true)) else (packthreadtop_TopShaped.j2 k2 x12_2 t180 bt184.1 true)) else (packthreadtop_TopShaped.j2 k2 x12_2 t180 bt184.1 true)) else (packthreadtop_TopShaped.j2 k2 x12_2 t180 bt184.1 true)))) = some r := H
                  have A33 := Aside0.mk A330
                  clear A330
                  replace H := Option.bind_eq_some_iff.mp H
                  obtain ⟨⟨t184, t185⟩, A340, H⟩ := H
                  replace H : ((bucket_Play.f k2 1 5 (([(⟨0, 5⟩ : S37)] : List (S37)))).bind fun bt189 => (if t181 = 0 then (if t185 = 0 then (if bt189.2 = 0 then (if (t180.length : Int) = (x12_2.length : Int) then (if (bt189.1.length : Int) = 1 then (if 0 < (bt189.1.length : Int) then (packthreadtop_TopShaped.j2 k2 x12_2 t180 t184 (!(rdOf false bt189.1 0))) else (none)) else (packthreadtop_TopShaped.j2 k2 x12_2 t180 t184 true)) else (packthreadtop_TopShaped.j2 k2 x12_2 t180 t184 true)) else (packthreadtop_TopShaped.j2 k2 x12_2 t180 t184 true)) else (packthreadtop_TopShaped.j2 k2 x12_2 t180 t184 true)) else (packthreadtop_TopShaped.j2 k2 x12_2 t180 t184 true))) = some r := H
                  have A34 := Aside0.mk A340
                  clear A340
                  obtain ⟨y186, hy186⟩ : ∃ y_ : List (S37), y_ = (([(⟨0, 5⟩ : S37)] : List (S37))) := ⟨_, rfl⟩
                  replace H : ((bucket_Play.f k2 1 5 y186).bind fun bt189 => (if t181 = 0 then (if t185 = 0 then (if bt189.2 = 0 then (if (t180.length : Int) = (x12_2.length : Int) then (if (bt189.1.length : Int) = 1 then (if 0 < (bt189.1.length : Int) then (packthreadtop_TopShaped.j2 k2 x12_2 t180 t184 (!(rdOf false bt189.1 0))) else (none)) else (packthreadtop_TopShaped.j2 k2 x12_2 t180 t184 true)) else (packthreadtop_TopShaped.j2 k2 x12_2 t180 t184 true)) else (packthreadtop_TopShaped.j2 k2 x12_2 t180 t184 true)) else (packthreadtop_TopShaped.j2 k2 x12_2 t180 t184 true)) else (packthreadtop_TopShaped.j2 k2 x12_2 t180 t184 true))) = some r := by first | (rw [hy186]; with_reducible exact H) | (have H2_ := (Option.bind_some _ _).symm.trans H; rw [hy186]; with_reducible exact H2_) | (have H2_ := (Option.bind_some _ _).symm.trans H; with_reducible exact H2_) | with_reducible exact H | (rw [hy186]; exact H) | exact H
                  have Ny186 := Aside0.mk hy186
                  clear hy186
                  replace H := Option.bind_eq_some_iff.mp H
                  obtain ⟨⟨t189, t190⟩, A350, H⟩ := H
                  replace H : (if t181 = 0 then (if t185 = 0 then (if t190 = 0 then (if (t180.length : Int) = (x12_2.length : Int) then (if (t189.length : Int) = 1 then (if 0 < (t189.length : Int) then (packthreadtop_TopShaped.j2 k2 x12_2 t180 t184 (!(rdOf false t189 0))) else (none)) else (packthreadtop_TopShaped.j2 k2 x12_2 t180 t184 true)) else (packthreadtop_TopShaped.j2 k2 x12_2 t180 t184 true)) else (packthreadtop_TopShaped.j2 k2 x12_2 t180 t184 true)) else (packthreadtop_TopShaped.j2 k2 x12_2 t180 t184 true)) else (packthreadtop_TopShaped.j2 k2 x12_2 t180 t184 true)) = some r := H
                  have A35 := Aside0.mk A350
                  clear A350
                  have HC36 := Aside0.mk H
                  clear H
                  obtain ⟨Ao37, co37, eo37⟩ := Kd.R_slice HO_10.out
                  subst eo37
                  go_upto_region 16 with (first | ((with_reducible refine gate_callee (f := 13) rfl ?_); refine goesL_ (some 74) rfl rfl Try.func13 (by kernel_rfl) rfl #[.int .i64 a2, .int .i64 60] rfl (by (try simp only [List.map_toArray, List.map_cons, List.map_nil]); first | done | rfl | (simp only [List.length_drop, List.length_take]; rfl)) ?_; (with_reducible refine (packthreadkeep_Picked.calls a2 60 t175 _ A30.out).mono ?_); rintro e w' ⟨rfl, ⟨nd, rfl⟩⟩; refine ⟨_, rfl, ?_⟩) | ((with_reducible refine gate_callee (f := 13) rfl ?_); refine goesL_ (some 76) rfl rfl Try.func13 (by kernel_rfl) rfl #[.int .i64 a3, .int .i64 900] rfl (by (try simp only [List.map_toArray, List.map_cons, List.map_nil]); first | done | rfl | (simp only [List.length_drop, List.length_take]; rfl)) ?_; (with_reducible refine (packthreadkeep_Picked.calls a3 900 t176 _ A31.out).mono ?_); rintro e w' ⟨rfl, ⟨nd, rfl⟩⟩; refine ⟨_, rfl, ?_⟩; obtain ⟨Ao39, co39, eo39⟩ := Kd.R_slice HO_12.out; subst eo39) | ((with_reducible refine gate_builtin (b := .append) (xs := #[.const (.slice none 0 0), .tmp 80]) rfl ?_); (try (refine gate_guard (by rfl) ?_; dsimp only)); at_builtin; refine Kd.R_append_rows k37 (w0 := w) w.heap.size rfl (.const (.slice none 0 0)) (.tmp 80) 33 37 (.agg #[(.int .i64 0), (.int .i64 0)]) 16 rfl Try.underlying33 info37 rfl (by decide) (by omega) (.slice none 0 0) ([] : List (S37)) x12_2 _ _ _ (fun k_ => some k_ ≠ (.slice Ao39 x12_2.length co39 : Value).ownBlock) (fun _ => False) rfl rfl ?aO ?aR (fun _ _ h => h) (fun _ h => h.elim) ?aF ?aB ?aS ?aL ?_; (case aR => repeat (first | exact (Kd.R_reads' HO_12.out).2.2 | (with_reducible refine Kd.C_alloc ?_ _) | (with_reducible refine Kd.C_drewN ?_ _) | (with_reducible refine Kd.C_drew ?_))); (case aB => exact (by repeat (first | (with_reducible first | exact HB.out | apply below_alloc | apply pw_below_drewN | apply below_drew1) | exact HB.out))); (case aF => exact (fun k_ hk => Kd.fresh' (Kd.R_lt (by (with_reducible repeat (first | apply Kd.R_alloc | apply Kd.R_drewN | apply Kd.R_drew)); exact HO_12.out)) k_ hk)); (case aO => exact ((Kd.R_nil _ _ _ _ (fun k_ => some k_ ≠ (.slice Ao39 x12_2.length co39 : Value).ownBlock)))); (case aS => exact (below_size (by repeat (first | (with_reducible first | exact HB.out | apply below_alloc | apply pw_below_drewN | apply below_drew1) | exact HB.out)))); (case aL => have := LMc32.out; omega); intro v178 w38 ho hb hg hat; rw [← Ny177.out] at ho; have n0_ := Aside0.mk (Kd.R_grown (by (with_reducible repeat (first | apply Kd.R_alloc | apply Kd.R_drewN | apply Kd.R_drew)); exact HO_9.out) hg (fun _ _ => by simp [Value.ownBlock])); have n1_ := Aside0.mk (Kd.R_grown (by (with_reducible repeat (first | apply Kd.R_alloc | apply Kd.R_drewN | apply Kd.R_drew)); exact HO_10.out) hg (fun _ _ => by simp [Value.ownBlock])); have n2_ := Aside0.mk (Kd.R_after (Kd.R_apart_nil (by (with_reducible repeat (first | apply Kd.R_alloc | apply Kd.R_drewN | apply Kd.R_drew)); exact HO_12.out)) hg hat); have n3_ := Aside0.mk (hb); have n4_ := Aside0.mk (ho); clear HO_9; clear HO_10; clear HO_12; clear HB; have HO_9 := n0_; have HO_10 := n1_; have HO_12 := n2_; have HB := n3_; have HO179 := n4_; clear n0_ n1_ n2_ n3_ n4_; clear ho hb hg hat; obtain ⟨Ao40, co40, eo40⟩ := Kd.R_slice HO179.out; subst eo40) | ((with_reducible refine gate_callee (f := 14) rfl ?_); refine goesL_ (some 82) rfl rfl Try.func14 (by kernel_rfl) rfl #[.int .i64 t175, .int .i64 t176, .slice Ao40 y177.length co40] rfl (by (try simp only [List.map_toArray, List.map_cons, List.map_nil]); first | done | rfl | (simp only [List.length_drop, List.length_take]; rfl)) ?_; (with_reducible refine (bucket_Play.calls k2 t175 t176 _ _ y177 t180 t181 _ ?side1 ?side2 A33.out).mono ?_); (case side1 => repeat (first | exact (Kd.R_reads' HO179.out).2.2 | (with_reducible refine Kd.C_alloc ?_ _) | (with_reducible refine Kd.C_drewN ?_ _) | (with_reducible refine Kd.C_drew ?_))); (case side2 => exact (Kd.R_reads' HO179.out).2.1); rintro e w41 ⟨v182, rfl, ho0, hb⟩; refine ⟨_, rfl, ?_⟩; have n0_ := Aside0.mk (Kd.R_below (by (with_reducible repeat (first | apply Kd.R_alloc | apply Kd.R_drewN | apply Kd.R_drew)); exact HO_9.out) hb); have n1_ := Aside0.mk (Kd.R_below (by (with_reducible repeat (first | apply Kd.R_alloc | apply Kd.R_drewN | apply Kd.R_drew)); exact HO_10.out) hb); have n2_ := Aside0.mk (Kd.R_below (by (with_reducible repeat (first | apply Kd.R_alloc | apply Kd.R_drewN | apply Kd.R_drew)); exact HO_12.out) hb); have n3_ := Aside0.mk (Kd.R_below (by (with_reducible repeat (first | apply Kd.R_alloc | apply Kd.R_drewN | apply Kd.R_drew)); exact HO179.out) hb); have n4_ := Aside0.mk (Kd.R_lower ho0 (below_size (by repeat (first | (with_reducible first | exact HB.out | apply below_alloc | apply pw_below_drewN | apply below_drew1) | exact HB.out)))); have n5_ := Aside0.mk (below_step (by repeat (first | (with_reducible first | exact HB.out | apply below_alloc | apply pw_below_drewN | apply below_drew1) | exact HB.out)) hb); clear HO_9; clear HO_10; clear HO_12; clear HO179; clear HB; have HO_9 := n0_; have HO_10 := n1_; have HO_12 := n2_; have HO179 := n3_; have HO183 := n4_; have HB := n5_; clear n0_ n1_ n2_ n3_ n4_ n5_; (try clear hb); (try clear hb2); (try clear hk); (try clear hi); (try clear ho0)) | ((with_reducible refine gate_callee (f := 15) rfl ?_); refine goesL_ (some 90) rfl rfl Try.func15 (by kernel_rfl) rfl #[.int .i64 t175, .int .i64 t176, .int .i64 (t165.length : Int)] rfl (by (try simp only [List.map_toArray, List.map_cons, List.map_nil]); first | done | rfl | (simp only [List.length_drop, List.length_take]; rfl)) ?_; (with_reducible refine (bucket_Bound.calls t175 t176 (t165.length : Int) t184 t185 _ A34.out).mono ?_); rintro e w' ⟨rfl, ⟨nd, rfl⟩⟩; refine ⟨_, rfl, ?_⟩) | ((with_reducible refine gate_dst (N := 95) rfl ?_); (try (refine gate_guard (by rfl) ?_; dsimp only)); refine Kd.R_lit k37 _ 37 ?hg (N := 95) ?hd (xs := ([(⟨0, 5⟩ : S37)] : List (S37))) (inner := [.int .i64 0, .int .i64 5]) (ok := fun _ => True) (okp := fun _ => True) ?hr ?hp (fun _ hk => hk) trivial (Below.refl _ _) (Nat.le_refl _) (by simp) ?_; (case hd => rfl); (case hg => rfl); (case hr => first | (go_simp; done) | (go_simp; rfl)); (case hp => exact (Reps.c2 (show Kd.M k37 _ _ _ (⟨0, 5⟩ : S37) [.int .i64 0, .int .i64 5] from (k37_mkM _ _ _ (⟨0, 5⟩ : S37) )) (Reps.none _ _))); intro v187 w42 ho43 hb hg_ hnew_; clear hg_ hnew_; (first | rw [← Ny186.out] at ho43 | (simp only [Int.reduceToNat] at ho43; rw [← Ny186.out] at ho43)); have n0_ := Aside0.mk (Kd.R_below (by (with_reducible repeat (first | apply Kd.R_alloc | apply Kd.R_drewN | apply Kd.R_drew)); exact HO_9.out) hb); have n1_ := Aside0.mk (Kd.R_below (by (with_reducible repeat (first | apply Kd.R_alloc | apply Kd.R_drewN | apply Kd.R_drew)); exact HO_10.out) hb); have n2_ := Aside0.mk (Kd.R_elder' (by (with_reducible repeat (first | apply Kd.R_alloc | apply Kd.R_drewN | apply Kd.R_drew)); exact HO_12.out) (Kd.R_base ho43) hb); have n3_ := Aside0.mk (Kd.R_elder' (by (with_reducible repeat (first | apply Kd.R_alloc | apply Kd.R_drewN | apply Kd.R_drew)); exact HO179.out) (Kd.R_base ho43) hb); have n4_ := Aside0.mk (Kd.R_below (by (with_reducible repeat (first | apply Kd.R_alloc | apply Kd.R_drewN | apply Kd.R_drew)); exact HO183.out) hb); have n5_ := Aside0.mk (Kd.R_lower (Kd.R_new' (Kd.R_new' ho43 (Kd.R_lt (by (with_reducible repeat (first | apply Kd.R_alloc | apply Kd.R_drewN | apply Kd.R_drew)); exact HO_12.out))) (Kd.R_lt (by (with_reducible repeat (first | apply Kd.R_alloc | apply Kd.R_drewN | apply Kd.R_drew)); exact HO179.out))) (below_size (by repeat (first | (with_reducible first | exact HB.out | apply below_alloc | apply pw_below_drewN | apply below_drew1) | exact HB.out)))); have n6_ := Aside0.mk (below_step (by repeat (first | (with_reducible first | exact HB.out | apply below_alloc | apply pw_below_drewN | apply below_drew1) | exact HB.out)) hb); clear HO_9; clear HO_10; clear HO_12; clear HO179; clear HO183; clear HB; have HO_9 := n0_; have HO_10 := n1_; have HO_12 := n2_; have HO179 := n3_; have HO183 := n4_; have HO188 := n5_; have HB := n6_; clear n0_ n1_ n2_ n3_ n4_ n5_ n6_; clear hb ho43; obtain ⟨Ao44, co44, eo44⟩ := Kd.R_slice HO188.out; subst eo44) | ((with_reducible refine gate_callee (f := 14) rfl ?_); refine goesL_ (some 96) rfl rfl Try.func14 (by kernel_rfl) rfl #[.int .i64 1, .int .i64 5, .slice Ao44 y186.length co44] rfl (by (try simp only [List.map_toArray, List.map_cons, List.map_nil]); first | done | rfl | (simp only [List.length_drop, List.length_take]; rfl)) ?_; (with_reducible refine (bucket_Play.calls k2 1 5 _ _ y186 t189 t190 _ ?side1 ?side2 A35.out).mono ?_); (case side1 => repeat (first | exact (Kd.R_reads' HO188.out).2.2 | (with_reducible refine Kd.C_alloc ?_ _) | (with_reducible refine Kd.C_drewN ?_ _) | (with_reducible refine Kd.C_drew ?_))); (case side2 => exact (Kd.R_reads' HO188.out).2.1); rintro e w45 ⟨v191, rfl, ho0, hb⟩; refine ⟨_, rfl, ?_⟩; have n0_ := Aside0.mk (Kd.R_below (by (with_reducible repeat (first | apply Kd.R_alloc | apply Kd.R_drewN | apply Kd.R_drew)); exact HO_9.out) hb); have n1_ := Aside0.mk (Kd.R_below (by (with_reducible repeat (first | apply Kd.R_alloc | apply Kd.R_drewN | apply Kd.R_drew)); exact HO_10.out) hb); have n2_ := Aside0.mk (Kd.R_below (by (with_reducible repeat (first | apply Kd.R_alloc | apply Kd.R_drewN | apply Kd.R_drew)); exact HO_12.out) hb); have n3_ := Aside0.mk (Kd.R_below (by (with_reducible repeat (first | apply Kd.R_alloc | apply Kd.R_drewN | apply Kd.R_drew)); exact HO179.out) hb); have n4_ := Aside0.mk (Kd.R_elder' (by (with_reducible repeat (first | apply Kd.R_alloc | apply Kd.R_drewN | apply Kd.R_drew)); exact HO183.out) (Kd.R_base ho0) hb); have n5_ := Aside0.mk (Kd.R_below (by (with_reducible repeat (first | apply Kd.R_alloc | apply Kd.R_drewN | apply Kd.R_drew)); exact HO188.out) hb); have n6_ := Aside0.mk (Kd.R_lower (Kd.R_new' ho0 (Kd.R_lt (by (with_reducible repeat (first | apply Kd.R_alloc | apply Kd.R_drewN | apply Kd.R_drew)); exact HO183.out))) (below_size (by repeat (first | (with_reducible first | exact HB.out | apply below_alloc | apply pw_below_drewN | apply below_drew1) | exact HB.out)))); have n7_ := Aside0.mk (below_step (by repeat (first | (with_reducible first | exact HB.out | apply below_alloc | apply pw_below_drewN | apply below_drew1) | exact HB.out)) hb); clear HO_9; clear HO_10; clear HO_12; clear HO179; clear HO183; clear HO188; clear HB; have HO_9 := n0_; have HO_10 := n1_; have HO_12 := n2_; have HO179 := n3_; have HO183 := n4_; have HO188 := n5_; have HO192 := n6_; have HB := n7_; clear n0_ n1_ n2_ n3_ n4_ n5_ n6_ n7_; (try clear hb); (try clear hb2); (try clear hk); (try clear hi); (try clear ho0)))
                  (try simp only [Act.put, List.setIfInBounds_toArray, List.set_cons_zero, List.set_cons_succ])
                  go_cut [126] (fun v126 wc => ∃ (kq : Nat) (x126_35 : Bool), v126 = .bool x126_35 ∧ Aside0 (packthreadtop_TopShaped.j2 kq x12_2 t180 t184 x126_35 = some r) ∧ Aside0 (kq ≤ k2) ∧ Aside0 (Kd.R k37 37 wc w.heap.size (fun _ => True) (.slice Ao39 x12_2.length co39) x12_2) ∧ Aside0 (Kd.R Kd.bool 4 wc w.heap.size (fun _ => True) v182 t180) ∧ Aside0 (Below w.heap.size w wc))
                  case first =>
                    have H := HC36.out
                    clear HC36
                    by_cases c46 : t181 = 0
                    · rw [if_pos c46] at H
                      have c46b0 : (t181 == 0) = true := beq_iff_eq.mpr c46
                      have c46b1 : (t181 != 0) = false := bne_eq_false_iff_eq.mpr c46
                      clear c46
                      (first | rw [c46b0] | (simp only [i64_w, i32_w]; rw [c46b0]) | skip)
                      by_cases c47 : t185 = 0
                      · rw [if_pos c47] at H
                        have c47b0 : (t185 == 0) = true := beq_iff_eq.mpr c47
                        have c47b1 : (t185 != 0) = false := bne_eq_false_iff_eq.mpr c47
                        clear c47
                        by_cases c48 : t190 = 0
                        · rw [if_pos c48] at H
                          have c48b0 : (t190 == 0) = true := beq_iff_eq.mpr c48
                          have c48b1 : (t190 != 0) = false := bne_eq_false_iff_eq.mpr c48
                          clear c48
                          by_cases c49 : (t180.length : Int) = (x12_2.length : Int)
                          · rw [if_pos c49] at H
                            have c49b0 : ((t180.length : Int) == (x12_2.length : Int)) = true := beq_iff_eq.mpr c49
                            have c49b1 : ((t180.length : Int) != (x12_2.length : Int)) = false := bne_eq_false_iff_eq.mpr c49
                            have c49b2 : (t180.length == x12_2.length) = true := by first | simpa using c49 | (simp at c49 ⊢; omega)
                            clear c49
                            by_cases c50 : (t189.length : Int) = 1
                            · rw [if_pos c50] at H
                              have c50b0 : ((t189.length : Int) == 1) = true := beq_iff_eq.mpr c50
                              have c50b1 : ((t189.length : Int) != 1) = false := bne_eq_false_iff_eq.mpr c50
                              clear c50
                              by_cases c51 : 0 < (t189.length : Int)
                              · rw [if_pos c51] at H
                                have c51b0 : decide (0 < (t189.length : Int)) = true := decide_eq_true c51
                                have c51b1 : decide (0 < t189.length) = true := decide_eq_true (by omega)
                                clear c51
                                have H' := Aside0.mk H
                                clear H
                                obtain ⟨Ao52, co52, eo52⟩ := Kd.R_slice HO183.out
                                subst eo52
                                obtain ⟨Ao53, co53, eo53⟩ := Kd.R_slice HO192.out
                                subst eo53
                                have p193 : 0 ≤ (0 : Int) := (by omega)
                                have q193 : 0 < (t189.length : Int) := of_decide_eq_true (by first | (with_reducible assumption) | assumption)
                                obtain ⟨ad193, e193, hx193_0⟩ := Kd.at_bool (Kd.R_reads' HO192.out).2.2 0 p193 q193
                                cases e193
                                have qi193 : (0 < t189.length) = True := eq_true (by omega)
                                (try rw [show ((0 : Int)).toNat = 0 from rfl] at hx193_0)
                                (try rw [Addr.add_zero'] at hx193_0)
                                replace p193 := eq_true p193
                                replace q193 := eq_true q193
                                go_wp2
                                go_meet
                                case rel => exact ⟨_, (!(rdOf false t189 0)), (by first | rfl | (simp; done) | (simp [*]; done)), H', ⟨by have := HJ8.out; have := HK2.out; first | omega | exact Nat.le_refl _⟩, ⟨by (with_reducible repeat (first | apply Kd.R_alloc | apply Kd.R_drewN | apply Kd.R_drew)); exact Kd.R_mono HO_12.out (fun _ hk => trivial)⟩, ⟨by (with_reducible repeat (first | apply Kd.R_alloc | apply Kd.R_drewN | apply Kd.R_drew)); exact Kd.R_mono HO183.out (fun _ hk => trivial)⟩, ⟨by repeat (first | (with_reducible first | exact HB.out | apply below_alloc | apply pw_below_drewN | apply below_drew1) | exact HB.out)⟩⟩
                              · rw [if_neg c51] at H
                                exact absurd H (by simp)
                            · rw [if_neg c50] at H
                              have c50b0 : ((t189.length : Int) == 1) = false := beq_eq_false_iff_ne.mpr c50
                              have c50b1 : ((t189.length : Int) != 1) = true := bne_iff_ne.mpr c50
                              have H' := Aside0.mk H
                              clear H
                              obtain ⟨Ao54, co54, eo54⟩ := Kd.R_slice HO183.out
                              subst eo54
                              obtain ⟨Ao55, co55, eo55⟩ := Kd.R_slice HO192.out
                              subst eo55
                              go_wp2
                              go_meet
                              case rel => exact ⟨_, (true), (by first | rfl | (simp; done) | (simp [*]; done)), H', ⟨by have := HJ8.out; have := HK2.out; first | omega | exact Nat.le_refl _⟩, ⟨by (with_reducible repeat (first | apply Kd.R_alloc | apply Kd.R_drewN | apply Kd.R_drew)); exact Kd.R_mono HO_12.out (fun _ hk => trivial)⟩, ⟨by (with_reducible repeat (first | apply Kd.R_alloc | apply Kd.R_drewN | apply Kd.R_drew)); exact Kd.R_mono HO183.out (fun _ hk => trivial)⟩, ⟨by repeat (first | (with_reducible first | exact HB.out | apply below_alloc | apply pw_below_drewN | apply below_drew1) | exact HB.out)⟩⟩
                          · rw [if_neg c49] at H
                            have c49b0 : ((t180.length : Int) == (x12_2.length : Int)) = false := beq_eq_false_iff_ne.mpr c49
                            have c49b1 : ((t180.length : Int) != (x12_2.length : Int)) = true := bne_iff_ne.mpr c49
                            have c49b2 : (t180.length == x12_2.length) = false := by first | simpa using c49 | (simp at c49 ⊢; omega)
                            have H' := Aside0.mk H
                            clear H
                            obtain ⟨Ao56, co56, eo56⟩ := Kd.R_slice HO183.out
                            subst eo56
                            go_wp2
                            go_meet
                            case rel => exact ⟨_, (true), (by first | rfl | (simp; done) | (simp [*]; done)), H', ⟨by have := HJ8.out; have := HK2.out; first | omega | exact Nat.le_refl _⟩, ⟨by (with_reducible repeat (first | apply Kd.R_alloc | apply Kd.R_drewN | apply Kd.R_drew)); exact Kd.R_mono HO_12.out (fun _ hk => trivial)⟩, ⟨by (with_reducible repeat (first | apply Kd.R_alloc | apply Kd.R_drewN | apply Kd.R_drew)); exact Kd.R_mono HO183.out (fun _ hk => trivial)⟩, ⟨by repeat (first | (with_reducible first | exact HB.out | apply below_alloc | apply pw_below_drewN | apply below_drew1) | exact HB.out)⟩⟩
                        · rw [if_neg c48] at H
                          have c48b0 : (t190 == 0) = false := beq_eq_false_iff_ne.mpr c48
                          have c48b1 : (t190 != 0) = true := bne_iff_ne.mpr c48
                          have H' := Aside0.mk H
                          clear H
                          go_wp2
                          go_meet
                          case rel => exact ⟨_, (true), (by first | rfl | (simp; done) | (simp [*]; done)), H', ⟨by have := HJ8.out; have := HK2.out; first | omega | exact Nat.le_refl _⟩, ⟨by (with_reducible repeat (first | apply Kd.R_alloc | apply Kd.R_drewN | apply Kd.R_drew)); exact Kd.R_mono HO_12.out (fun _ hk => trivial)⟩, ⟨by (with_reducible repeat (first | apply Kd.R_alloc | apply Kd.R_drewN | apply Kd.R_drew)); exact Kd.R_mono HO183.out (fun _ hk => trivial)⟩, ⟨by repeat (first | (with_reducible first | exact HB.out | apply below_alloc | apply pw_below_drewN | apply below_drew1) | exact HB.out)⟩⟩
                      · rw [if_neg c47] at H
                        have c47b0 : (t185 == 0) = false := beq_eq_false_iff_ne.mpr c47
                        have c47b1 : (t185 != 0) = true := bne_iff_ne.mpr c47
                        have H' := Aside0.mk H
                        clear H
                        go_wp2
                        go_meet
                        case rel => exact ⟨_, (true), (by first | rfl | (simp; done) | (simp [*]; done)), H', ⟨by have := HJ8.out; have := HK2.out; first | omega | exact Nat.le_refl _⟩, ⟨by (with_reducible repeat (first | apply Kd.R_alloc | apply Kd.R_drewN | apply Kd.R_drew)); exact Kd.R_mono HO_12.out (fun _ hk => trivial)⟩, ⟨by (with_reducible repeat (first | apply Kd.R_alloc | apply Kd.R_drewN | apply Kd.R_drew)); exact Kd.R_mono HO183.out (fun _ hk => trivial)⟩, ⟨by repeat (first | (with_reducible first | exact HB.out | apply below_alloc | apply pw_below_drewN | apply below_drew1) | exact HB.out)⟩⟩
                    · rw [if_neg c46] at H
                      have c46b0 : (t181 == 0) = false := beq_eq_false_iff_ne.mpr c46
                      have c46b1 : (t181 != 0) = true := bne_iff_ne.mpr c46
                      (first | rw [c46b0] | (simp only [i64_w, i32_w]; rw [c46b0]) | skip)
                      have H' := Aside0.mk H
                      clear H
                      go_wp2
                      go_meet
                      case rel => exact ⟨_, (true), (by first | rfl | (simp; done) | (simp [*]; done)), H', ⟨by have := HJ8.out; have := HK2.out; first | omega | exact Nat.le_refl _⟩, ⟨by (with_reducible repeat (first | apply Kd.R_alloc | apply Kd.R_drewN | apply Kd.R_drew)); exact Kd.R_mono HO_12.out (fun _ hk => trivial)⟩, ⟨by (with_reducible repeat (first | apply Kd.R_alloc | apply Kd.R_drewN | apply Kd.R_drew)); exact Kd.R_mono HO183.out (fun _ hk => trivial)⟩, ⟨by repeat (first | (with_reducible first | exact HB.out | apply below_alloc | apply pw_below_drewN | apply below_drew1) | exact HB.out)⟩⟩
                  case rest =>
                    clear HC36
                    try clear c1
                    try clear p1
                    try clear q1
                    try clear hx1
                    try clear qi1
                    try clear c2
                    try clear p2
                    try clear c3
                    try clear c4
                    try clear c5
                    try clear p6
                    try clear c7
                    try clear c9
                    try clear c11
                    try clear c12
                    try clear c13
                    try clear c14
                    try clear c15
                    try clear p16
                    try clear q16
                    try clear hx16
                    try clear c17
                    try clear c17b0
                    try clear c17b1
                    try clear p17
                    try clear q17
                    try clear hx17
                    try clear c19
                    try clear p19
                    try clear q19
                    try clear hx19
                    try clear qi19
                    try clear c20
                    try clear c20b0
                    try clear c21
                    try clear c21b0
                    try clear c22
                    try clear c22b0
                    try clear c23
                    try clear c23b0
                    try clear c23b1
                    try clear c24
                    try clear c24b0
                    try clear c24b1
                    try clear c25
                    try clear c32
                    try clear c46
                    try clear c46b0
                    try clear c46b1
                    try clear c47
                    try clear c47b0
                    try clear c47b1
                    try clear c48
                    try clear c48b0
                    try clear c48b1
                    try clear c49
                    try clear c49b0
                    try clear c49b1
                    try clear c49b2
                    try clear c50
                    try clear c50b0
                    try clear c50b1
                    try clear c51
                    try clear c51b0
                    try clear c51b1
                    try clear hx169_0
                    try clear hx169_1
                    try clear hx170_0
                    try clear hx170_1
                    try clear hx170_2
                    try clear hx171_0
                    try clear hx171_1
                    try clear hx171_2
                    try clear hx193_0
                    try clear p169
                    try clear p170
                    try clear p171
                    try clear p193
                    try clear p2
                    try clear q169
                    try clear q170
                    try clear q171
                    try clear q193
                    obtain ⟨kq, x126_35, rfl, HA, HJ35, HO_12, HO_16, HB⟩ := hcut
                    cases kq with
                    | zero => exact absurd HA.out (by simp [packthreadtop_TopShaped.j2])
                    | succ kj35 =>
                      have H := HA.out
                      clear HA
                      simp only [packthreadtop_TopShaped.j2] at H
                      by_cases c57 : x126_35 = true
                      · subst c57
                        have H1 : (some false) = some r := by rw [if_pos rfl] at H; exact H
                        clear H
                        have H := H1
                        clear H1
                        obtain rfl := Option.some.inj H
                        go_wp2
                        go_ret
                        exact ⟨by first | rfl | (simp [errW_none, errW_some] <;> rfl) | (simp [*, errW_none, errW_some] <;> rfl), by repeat (first | (with_reducible first | exact HB.out | apply below_alloc | apply pw_below_drewN | apply below_drew1) | exact HB.out)⟩
                      · replace c57 := Bool.eq_false_iff.mpr c57
                        subst c57
                        have H1 : (packthreadtop_TopShaped.l1 kj35 x12_2 t180 t184 0 0) = some r := by rw [if_neg (show ¬ (false = true) by decide)] at H; exact H
                        clear H
                        have H := H1
                        clear H1
                        have H' := Aside0.mk H
                        clear H
                        go_wp2
                        go_loopg [22, 23] kj35 (fun kq v22 v23 w' => ∃ (x22_4 : Int) (x23_4 : Int), v22 = .int .i64 x22_4 ∧ v23 = .int .i64 x23_4 ∧ Aside0 (packthreadtop_TopShaped.l1 kq x12_2 t180 t184 x22_4 x23_4 = some r) ∧ Aside0 (kq ≤ kj35) ∧ Aside0 (Kd.R k37 37 w' w.heap.size (fun _ => True) (.slice Ao39 x12_2.length co39) x12_2) ∧ Aside0 (Kd.R Kd.bool 4 w' w.heap.size (fun _ => True) v182 t180) ∧ Aside0 (Below w.heap.size w w'))
                        case atStart => exact ⟨(0), (0), (by first | rfl | (simp; done) | (simp [*]; done)), (by first | rfl | (simp; done) | (simp [*]; done)), H', ⟨Nat.le_refl _⟩, ⟨by (with_reducible repeat (first | apply Kd.R_alloc | apply Kd.R_drewN | apply Kd.R_drew)); exact HO_12.out⟩, ⟨by (with_reducible repeat (first | apply Kd.R_alloc | apply Kd.R_drewN | apply Kd.R_drew)); exact HO_16.out⟩, ⟨by repeat (first | (with_reducible first | exact HB.out | apply below_alloc | apply pw_below_drewN | apply below_drew1) | exact HB.out)⟩⟩
                        case round =>
                          clear H'
                          try clear c1
                          try clear p1
                          try clear q1
                          try clear hx1
                          try clear qi1
                          try clear c2
                          try clear p2
                          try clear c3
                          try clear c4
                          try clear c5
                          try clear p6
                          try clear c7
                          try clear c9
                          try clear c11
                          try clear c12
                          try clear c13
                          try clear c14
                          try clear c15
                          try clear p16
                          try clear q16
                          try clear hx16
                          try clear c17
                          try clear c17b0
                          try clear c17b1
                          try clear p17
                          try clear q17
                          try clear hx17
                          try clear c19
                          try clear p19
                          try clear q19
                          try clear hx19
                          try clear qi19
                          try clear c20
                          try clear c20b0
                          try clear c21
                          try clear c21b0
                          try clear c22
                          try clear c22b0
                          try clear c23
                          try clear c23b0
                          try clear c23b1
                          try clear c24
                          try clear c24b0
                          try clear c24b1
                          try clear c25
                          try clear c32
                          try clear c46
                          try clear c46b0
                          try clear c46b1
                          try clear c47
                          try clear c47b0
                          try clear c47b1
                          try clear c48
                          try clear c48b0
                          try clear c48b1
                          try clear c49
                          try clear c49b0
                          try clear c49b1
                          try clear c49b2
                          try clear c50
                          try clear c50b0
                          try clear c50b1
                          try clear c51
                          try clear c51b0
                          try clear c51b1
                          try clear c57
                          try clear hx169_0
                          try clear hx169_1
                          try clear hx170_0
                          try clear hx170_1
                          try clear hx170_2
                          try clear hx171_0
                          try clear hx171_1
                          try clear hx171_2
                          try clear hx193_0
                          try clear p1
                          try clear p16
                          try clear p169
                          try clear p17
                          try clear p170
                          try clear p171
                          try clear p19
                          try clear p193
                          try clear p2
                          try clear p6
                          try clear q1
                          try clear q16
                          try clear q169
                          try clear q17
                          try clear q170
                          try clear q171
                          try clear q19
                          try clear q193
                          obtain ⟨x22_4, x23_4, rfl, rfl, HA, HK4, HO_12, HO_16, HB⟩ := hrel
                          cases gk with
                          | zero => exact absurd HA.out (by simp [packthreadtop_TopShaped.l1])
                          | succ k4 =>
                            have H := HA.out
                            clear HA
                            simp only [packthreadtop_TopShaped.l1] at H
                            by_cases c58 : x23_4 < (x12_2.length : Int)
                            · rw [if_pos c58] at H
                              have c58b0 : decide (x23_4 < (x12_2.length : Int)) = true := decide_eq_true c58
                              clear c58
                              by_cases c59 : 0 ≤ x23_4
                              · rw [if_pos c59] at H
                                have c59b0 : decide (0 ≤ x23_4) = true := decide_eq_true c59
                                clear c59
                                by_cases c60 : x23_4 < (t180.length : Int)
                                · rw [if_pos c60] at H
                                  have c60b0 : decide (x23_4 < (t180.length : Int)) = true := decide_eq_true c60
                                  clear c60
                                  obtain ⟨bq61, hbq61⟩ : ∃ b_ : Bool, b_ = (rdOf false t180 x23_4) := ⟨_, rfl⟩
                                  replace H : (if bq61 = true then (packthreadtop_TopShaped.l1 k4 x12_2 t180 t184 (wrap64 (x22_4 + ((rd_T37 x12_2 x23_4).f1))) (wrap64 (x23_4 + 1))) else (packthreadtop_TopShaped.l1 k4 x12_2 t180 t184 x22_4 (wrap64 (x23_4 + 1)))) = some r := by rw [← hbq61] at H; exact H
                                  have Nbq61 := Aside0.mk hbq61
                                  clear hbq61
                                  by_cases c62 : bq61 = true
                                  · subst c62
                                    have H1 : (packthreadtop_TopShaped.l1 k4 x12_2 t180 t184 (wrap64 (x22_4 + ((rd_T37 x12_2 x23_4).f1))) (wrap64 (x23_4 + 1))) = some r := by rw [if_pos rfl] at H; exact H
                                    clear H
                                    have H := H1
                                    clear H1
                                    have H' := Aside0.mk H
                                    clear H
                                    obtain ⟨Ao63, co63, eo63⟩ := Kd.R_slice HO_16.out
                                    subst eo63
                                    have p194 : 0 ≤ (x23_4 : Int) := of_decide_eq_true (by first | (with_reducible assumption) | assumption)
                                    have q194 : x23_4 < (t180.length : Int) := of_decide_eq_true (by first | (with_reducible assumption) | assumption)
                                    obtain ⟨ad194, e194, hx194_0⟩ := Kd.at_bool (Kd.R_reads' HO_16.out).2.2 x23_4 p194 q194
                                    (try rw [← Nbq61.out] at hx194_0)
                                    cases e194
                                    replace p194 := eq_true p194
                                    replace q194 := eq_true q194
                                    have p195 : 0 ≤ (x23_4 : Int) := of_decide_eq_true (by first | (with_reducible assumption) | assumption)
                                    have q195 : x23_4 < (x12_2.length : Int) := of_decide_eq_true (by first | (with_reducible assumption) | assumption)
                                    obtain ⟨ad195, e195, hx195_0, hx195_1⟩ := at_T37 (Kd.R_reads' HO_12.out).2.2 x23_4 p195 q195
                                    cases e195
                                    replace p195 := eq_true p195
                                    replace q195 := eq_true q195
                                    go_wp2
                                    go_roundg k4
                                    case measure => have := HJ8.out; have := HK2.out; have := HJ35.out; have := HK4.out; omega
                                    case rel => first | exact ⟨(wrap64 (x22_4 + ((rd_T37 x12_2 x23_4).f1))), (wrap64 (x23_4 + 1)), (by first | rfl | (simp; done) | (simp [*]; done)), (by first | rfl | (simp; done) | (simp [*]; done)), H', ⟨by have := HJ8.out; have := HK2.out; have := HJ35.out; have := HK4.out; omega⟩, ⟨by (with_reducible repeat (first | apply Kd.R_alloc | apply Kd.R_drewN | apply Kd.R_drew)); exact HO_12.out⟩, ⟨by (with_reducible repeat (first | apply Kd.R_alloc | apply Kd.R_drewN | apply Kd.R_drew)); exact HO_16.out⟩, ⟨by repeat (first | (with_reducible first | exact HB.out | apply below_alloc | apply pw_below_drewN | apply below_drew1) | exact HB.out)⟩⟩ | (((try rw [← Nbq61.out])); exact ⟨(wrap64 (x22_4 + ((rd_T37 x12_2 x23_4).f1))), (wrap64 (x23_4 + 1)), (by first | rfl | (simp; done) | (simp [*]; done)), (by first | rfl | (simp; done) | (simp [*]; done)), H', ⟨by have := HJ8.out; have := HK2.out; have := HJ35.out; have := HK4.out; omega⟩, ⟨by (with_reducible repeat (first | apply Kd.R_alloc | apply Kd.R_drewN | apply Kd.R_drew)); exact HO_12.out⟩, ⟨by (with_reducible repeat (first | apply Kd.R_alloc | apply Kd.R_drewN | apply Kd.R_drew)); exact HO_16.out⟩, ⟨by repeat (first | (with_reducible first | exact HB.out | apply below_alloc | apply pw_below_drewN | apply below_drew1) | exact HB.out)⟩⟩)
                                  · replace c62 := Bool.eq_false_iff.mpr c62
                                    subst c62
                                    have H1 : (packthreadtop_TopShaped.l1 k4 x12_2 t180 t184 x22_4 (wrap64 (x23_4 + 1))) = some r := by rw [if_neg (show ¬ (false = true) by decide)] at H; exact H
                                    clear H
                                    have H := H1
                                    clear H1
                                    have H' := Aside0.mk H
                                    clear H
                                    obtain ⟨Ao64, co64, eo64⟩ := Kd.R_slice HO_16.out
                                    subst eo64
                                    have p194 : 0 ≤ (x23_4 : Int) := of_decide_eq_true (by first | (with_reducible assumption) | assumption)
                                    have q194 : x23_4 < (t180.length : Int) := of_decide_eq_true (by first | (with_reducible assumption) | assumption)
                                    obtain ⟨ad194, e194, hx194_0⟩ := Kd.at_bool (Kd.R_reads' HO_16.out).2.2 x23_4 p194 q194
                                    (try rw [← Nbq61.out] at hx194_0)
                                    cases e194
                                    replace p194 := eq_true p194
                                    replace q194 := eq_true q194
                                    go_wp2
                                    go_roundg k4
                                    case measure => have := HJ8.out; have := HK2.out; have := HJ35.out; have := HK4.out; omega
                                    case rel => first | exact ⟨(x22_4), (wrap64 (x23_4 + 1)), (by first | rfl | (simp; done) | (simp [*]; done)), (by first | rfl | (simp; done) | (simp [*]; done)), H', ⟨by have := HJ8.out; have := HK2.out; have := HJ35.out; have := HK4.out; omega⟩, ⟨by (with_reducible repeat (first | apply Kd.R_alloc | apply Kd.R_drewN | apply Kd.R_drew)); exact HO_12.out⟩, ⟨by (with_reducible repeat (first | apply Kd.R_alloc | apply Kd.R_drewN | apply Kd.R_drew)); exact HO_16.out⟩, ⟨by repeat (first | (with_reducible first | exact HB.out | apply below_alloc | apply pw_below_drewN | apply below_drew1) | exact HB.out)⟩⟩ | (((try rw [← Nbq61.out])); exact ⟨(x22_4), (wrap64 (x23_4 + 1)), (by first | rfl | (simp; done) | (simp [*]; done)), (by first | rfl | (simp; done) | (simp [*]; done)), H', ⟨by have := HJ8.out; have := HK2.out; have := HJ35.out; have := HK4.out; omega⟩, ⟨by (with_reducible repeat (first | apply Kd.R_alloc | apply Kd.R_drewN | apply Kd.R_drew)); exact HO_12.out⟩, ⟨by (with_reducible repeat (first | apply Kd.R_alloc | apply Kd.R_drewN | apply Kd.R_drew)); exact HO_16.out⟩, ⟨by repeat (first | (with_reducible first | exact HB.out | apply below_alloc | apply pw_below_drewN | apply below_drew1) | exact HB.out)⟩⟩)
                                · rw [if_neg c60] at H
                                  exact absurd H (by simp)
                              · rw [if_neg c59] at H
                                exact absurd H (by simp)
                            · rw [if_neg c58] at H
                              have c58b0 : decide (x23_4 < (x12_2.length : Int)) = false := decide_eq_false c58
                              clear c58
                              obtain rfl := Option.some.inj H
                              go_wp2
                              go_ret
                              exact ⟨by first | rfl | (simp [errW_none, errW_some] <;> rfl) | (simp [*, errW_none, errW_some] <;> rfl), by repeat (first | (with_reducible first | exact HB.out | apply below_alloc | apply pw_below_drewN | apply below_drew1) | exact HB.out)⟩
                · rw [if_neg c32] at H
                  exact absurd H (by simp)
  · rw [if_neg c7] at H
    exact absurd H (by simp)

/-- THE ONE PURE STATEMENT of packthreadtop_TopShaped: yours. -/
def packthreadtop_TopShaped.Pure : Prop := ∀ (l0 : List Int) (l1 : List Int) (a2 : Int) (a3 : Int), l0.length ≤ maxLen → l0.length * 8 ≤ 140737488351232 → (∀ x ∈ l0, (Lit.int .i64 x).wf = true) → l1.length ≤ maxLen → l1.length * 8 ≤ 140737488351232 → (∀ x ∈ l1, (Lit.int .i64 x).wf = true) → (Lit.int .i64 a2).wf = true → (Lit.int .i64 a3).wf = true → ∃ k, packthreadtop_TopShaped.f k l0 l1 a2 a3 = some true
theorem packthreadtop_TopShaped.walk (P : packthreadtop_TopShaped.Pure) (a0 : Option Addr) (len0 cap0 : Nat) (z0 : List Int) (a1 : Option Addr) (len1 cap1 : Nat) (z1 : List Int) (a2 : Int) (a3 : Int) (w : World) (w0 : (a0 = none ∧ len0 = 0 ∧ cap0 = 0 ∧ z0 = []) ∨ ∃ x, a0 = some x ∧ len0 ≤ cap0 ∧ cap0 ≤ maxLen ∧ z0.length = cap0 ∧ (∀ i, i < z0.length → w.cell? (x.add i) = some (.int .i64 (z0.getD i 0))) ∧ ∀ n ∈ z0, (Lit.int .i64 n).wf = true) (y0 : len0 * 8 ≤ 140737488351232) (w1 : (a1 = none ∧ len1 = 0 ∧ cap1 = 0 ∧ z1 = []) ∨ ∃ x, a1 = some x ∧ len1 ≤ cap1 ∧ cap1 ≤ maxLen ∧ z1.length = cap1 ∧ (∀ i, i < z1.length → w.cell? (x.add i) = some (.int .i64 (z1.getD i 0))) ∧ ∀ n ∈ z1, (Lit.int .i64 n).wf = true) (y1 : len1 * 8 ≤ 140737488351232) (w2 : (Lit.int .i64 a2).wf = true) (w3 : (Lit.int .i64 a3).wf = true) :
    Calls Try.prog 4 #[.slice a0 len0 cap0, .slice a1 len1 cap1, .int .i64 a2, .int .i64 a3] w fun e w' => e = .returned (.bool true) ∧ Below w.heap.size w w' := by
  obtain ⟨l0, rfl, hr0, hm0, hw0, hc0⟩ := ReadsInt.ofRowC w0
  obtain ⟨l1, rfl, hr1, hm1, hw1, hc1⟩ := ReadsInt.ofRowC w1
  obtain ⟨k, h⟩ := P l0 l1 a2 a3 hm0 y0 hw0 hm1 y1 hw1 w2 w3
  refine (packthreadtop_TopShaped.calls k _ _ l0 _ _ l1 a2 a3 true w (Kd.C_of_reads (d := (0 : Int)) (h1 := fun _ => rfl) hr0) hc0 (Kd.C_of_reads (d := (0 : Int)) (h1 := fun _ => rfl) hr1) hc1 h).mono ?_
  rintro e w' ⟨rfl, hd⟩
  exact ⟨rfl, hd⟩

end Go.Proofs.Ytnbpkibefgahlaa.HTopShaped
