/- The contracts of the functions that the law LzParses reaches: Go's code comes to what these Lean functions tell (written by a program of ours and the kit's, out of the translation). -/
import Derived.Maps.OwnRows
import Derived.Maps.GroupsBeside
import Derived.Maps.Views
import Derived.Outline
import Derived.WideKeyEntry
import Derived.DeepKeys4
import Derived.Test.YtjhmjgcebijmiaaHLzParsesx0
import Derived.Test.YtjhmjgcebijmiaaHLzParsesx2
namespace Go.Proofs.Ytjhmjgcebijmiaa.HLzParses
open Go.RowKit Go.Proofs.YtjhmjgcebijmiaaW.PrintWords Go.Proofs.YtjhmjgcebijmiaaW.PrintLast Go.Proofs.YtjhmjgcebijmiaaW.PrintMore
attribute [local go_sem] max2_int min2_int max_two min_two max_three min_three max_four min_four   -- for this text's walks alone
set_option linter.unusedVariables false
set_option linter.unusedSimpArgs false

/-! ### lz_Parse: function 20 -/
section
open Go.Maps Go.WideMaps
open Go.ChangeShapes (lits)
open Go.MapKept (Stamped)
open Go.ChangeMaps (setBlock)
open Go.WideElems (Fit rd_val findIdx_arr findIdx_born modify_last)
theorem key_once {l : List MapEntry} (hn : (l.map (·.key)).Nodup) {i j : Nat} {a c : MapEntry} (ha : l[i]? = some a) (hc : l[j]? = some c) (h : a.key = c.key) : i = j := by
  have hi : i < (l.map (·.key)).length := by
    rw [List.length_map]
    exact (List.getElem?_eq_some_iff.1 ha).1
  refine (List.getElem?_inj hi hn).1 ?_
  rw [List.getElem?_map, List.getElem?_map, ha, hc, Option.map_some, Option.map_some, h]
/-- An entry that is looked up to be written: what is read of it, and what the two halves come to, in whatever world. -/
theorem entry_any {P : Program} {k t E : TypeId} (K : Keyed P k) (ht : P.underlying t = some (.map k E)) {z : Value} (hz : ∀ u : World, (zeroValue E).run P u = .ok z u) {es : Array MapEntry} {clock : Nat} (hs : Stamped es clock) (hks : ∀ x ∈ es.toList, ∃ l, keyOf P k x.key = some l) (b : Nat) {key : Value} {kl : Lit} (hkey : keyOf P k key = some kl) :
    ∃ (v0 : Value) (st : Nat) (es1 : Array MapEntry) (clock1 : Nat), ((∃ e0 ∈ es.toList, e0.key = key ∧ v0 = e0.val) ∨ ((∀ x ∈ es.toList, x.key ≠ key) ∧ v0 = z)) ∧
      (∀ u : World, u.heap[b]? = some (.map es clock) → (Instr.mapEntry t (.map (some b)) key).run P u = .ok (.tuple #[v0, goInt st]) (setBlock u b (.map es1 clock1))) ∧
      ∀ val : Value, ∃ es' clock', (∀ u : World, u.heap[b]? = some (.map es1 clock1) → (Instr.entryStore t (.map (some b)) (goInt st) val).run P u = .ok () (setBlock u b (.map es' clock'))) ∧
        ∀ u : World, u.heap[b]? = some (.map es clock) → (Instr.mapUpdate t (.map (some b)) key val).run P u = .ok () (setBlock u b (.map es' clock')) := by
  obtain ⟨s1, s2, s3⟩ := hs
  by_cases hex : ∃ e ∈ es.toList, e.key = key
  · obtain ⟨e0, hm, h3⟩ := hex
    obtain ⟨j, h2⟩ := List.getElem?_of_mem hm
    have hf : ∀ u : World, (Instr.findKey k key es.toList).run P u = .ok (some (j, e0.val)) u := by
      intro u
      rcases K.find u hkey es.toList hks with ⟨_, h⟩ | ⟨j', e', h1, h2', h3'⟩
      · exact absurd h3 (h e0 hm)
      · have e := key_once s3 h2' h2 (h3'.trans h3.symm)
        subst e
        rw [h2] at h2'
        obtain rfl := Option.some.inj h2'
        exact h1
    have hj : es[j]? = some e0 := by simpa using h2
    have hsame : es.modify j (fun e => { e with key := key }) = es := by
      apply Array.ext'
      rw [Array.toList_modify]
      refine List.ext_getElem? fun i => ?_
      rw [List.getElem?_modify]
      by_cases e : j = i
      · subst e
        rw [h2]
        simp [← h3]
      · simp [e]
    refine ⟨e0.val, e0.born, es, clock, .inl ⟨e0, hm, h3, rfl⟩, fun u hu => ?_, fun val => ⟨es.modify j (fun e' => { e' with key := key, val := val }), clock, fun u hu => ?_, fun u hu => ?_⟩⟩
    · simp [Instr.mapEntry, run_underlying ht, MapKept.run_getObj_map hu, K.check u false hkey, hf, hj, h3, K.stays u hkey, hsame, MapKept.run_setObj_map _ hu, Result.andThen, setBlock]
    · have hidx : es.findIdx? (fun e => ((e.born : Nat) : Int) == ((e0.born : Nat) : Int)) = some j := by
        rw [findIdx_arr]
        exact findIdx_born s2 h2
      have hmod : es.modify j (fun e => { e with val := val }) = es.modify j (fun e' => { e' with key := key, val := val }) := by
        apply Array.ext'
        rw [Array.toList_modify, Array.toList_modify]
        refine List.ext_getElem? fun i => ?_
        rw [List.getElem?_modify, List.getElem?_modify]
        by_cases e : j = i
        · subst e
          rw [h2]
          simp [← h3]
        · simp [e]
      simp [Instr.entryStore, MapKept.run_getObj_map hu, asInt, asIntOf, goInt, hidx, hmod, MapKept.run_setObj_map _ hu, Result.andThen, setBlock]
    · simp [Instr.mapUpdate, run_underlying ht, MapKept.run_getObj_map hu, K.check u false hkey, hf, hj, h3, K.stays u hkey, MapKept.run_setObj_map _ hu, Result.andThen, setBlock]
  · have hno : ∀ x ∈ es.toList, x.key ≠ key := fun x hx e => hex ⟨x, hx, e⟩
    have hf : ∀ u : World, (Instr.findKey k key es.toList).run P u = .ok none u := by
      intro u
      rcases K.find u hkey es.toList hks with ⟨h, _⟩ | ⟨j', e', h1, h2', h3'⟩
      · exact h
      · exact absurd h3' (hno e' (List.mem_of_getElem? h2'))
    refine ⟨z, clock, es.push ⟨key, z, clock⟩, clock + 1, .inr ⟨hno, rfl⟩, fun u hu => ?_, fun val => ⟨es.push ⟨key, val, clock⟩, clock + 1, fun u hu => ?_, fun u hu => ?_⟩⟩
    · simp [Instr.mapEntry, run_underlying ht, MapKept.run_getObj_map hu, K.check u false hkey, hf, hz, MapKept.run_setObj_map _ hu, Result.andThen, setBlock]
    · have hidx : (es.push ⟨key, z, clock⟩).findIdx? (fun e => ((e.born : Nat) : Int) == ((clock : Nat) : Int)) = some es.size := by
        rw [findIdx_arr]
        refine findIdx_born (l := (es.push ⟨key, z, clock⟩).toList) (j := es.size) (e0 := ⟨key, z, clock⟩) ?_ (by simp)
        simp only [Array.toList_push, List.map_append, List.map_cons, List.map_nil]
        refine List.nodup_append.2 ⟨s2, by simp, fun a ha c hc e1 => ?_⟩
        simp only [List.mem_singleton] at hc
        obtain ⟨x, hx, rfl⟩ := List.mem_map.1 ha
        have := s1 x hx
        omega
      have hmod : (es.push ⟨key, z, clock⟩).modify es.size (fun e => { e with val := val }) = es.push ⟨key, val, clock⟩ := by
        apply Array.ext'
        rw [Array.toList_modify, Array.toList_push, Array.toList_push, ← Array.length_toList, modify_last]
      simp [Instr.entryStore, MapKept.run_getObj_map hu, asInt, asIntOf, goInt, hidx, hmod, MapKept.run_setObj_map _ hu, Result.andThen, setBlock]
    · simp [Instr.mapUpdate, run_underlying ht, MapKept.run_getObj_map hu, K.check u false hkey, hf, MapKept.run_setObj_map _ hu, Result.andThen, setBlock]
theorem grown_set {w : World} {b : Nat} {es : Array MapEntry} {clock : Nat} (hb : w.heap[b]? = some (.map es clock)) (o : Obj) : w.grownBy (setBlock w b o) (some b) :=
  ⟨rfl, rfl, rfl, by simp [setBlock], fun i _ hi => ChangeMaps.heap_setBlock_other hb o (fun e => hi (by rw [e]))⟩
theorem set_twice (w : World) (b : Nat) (o o' : Obj) : setBlock (setBlock w b o) b o' = setBlock w b o' := by
  unfold setBlock
  simp
/-- THE ENTRY OF A MAP OF ROWS, LOOKED UP TO BE WRITTEN: the slice, what it owns, and what the store behind it comes to. -/
theorem entry_at {w : World} {P : Program} {k t E e : TypeId} {q : IntKind} {base b n : Nat} {D : DataW Unit} {key : Value} {kl : Lit} (h : w.ownsGroups P k base e q b n D) (K : Keyed P k) (ht : P.underlying t = some (.map k E)) (hz : ∀ u : World, (zeroValue E).run P u = .ok (.slice none 0 0) u) (hn : n < maxLen) (hkey : keyOf P k key = some kl) :
    ∃ v zs st wA, (Instr.mapEntry t (.map (some b)) key).run P w = .ok (.tuple #[v, goInt st]) wA ∧ w.grownBy wA (some b) ∧ wA.heap.size = w.heap.size ∧ wA.ownsInts base e q v zs ∧ zs.length ≤ n ∧ D.atKey kl .nil = rowDatum q v zs ∧
      ∀ (wB : World) (v' : Value) (zs' : List Int), wA.grownBy wB v.ownBlock → wB.ownsInts base e q v' zs' → zs'.length ≤ n + 1 → (v'.ownBlock = v.ownBlock ∨ ∃ g, v'.ownBlock = some g ∧ wA.heap.size ≤ g) →
        ∃ wC, (Instr.entryStore t (.map (some b)) (goInt st) v').run P wB = .ok () wC ∧ wC.ownsGroups P k base e q b (n + 1) (D.put kl (rowDatum q v' zs')) ∧ wB.grownBy wC (some b) := by
  obtain ⟨v, zs, hlook, hat, hoi, hzl, hback⟩ := h.at K ht (hz w) hn hkey
  obtain ⟨es, clock, hb, F, hs, rfl, hbb, hlen, hap⟩ := h
  obtain ⟨v0, st, es1, clock1, hval, hrun, hrest⟩ := entry_any K ht hz F.stamped F.keys b hkey
  have hv : v0 = v := by
    rcases Maps.fit_look false K ht (hz w) hb F hkey with ⟨hl, hno, _⟩ | ⟨e0, y, hm0, h3, hl, _, _, _⟩
    · rw [hl] at hlook
      injection hlook with hlook
      rcases hval with ⟨e1, hm1, h31, _⟩ | ⟨_, rfl⟩
      · exact absurd h31 (hno e1 hm1)
      · exact hlook
    · rw [hl] at hlook
      injection hlook with hlook
      rcases hval with ⟨e1, hm1, h31, rfl⟩ | ⟨hno, _⟩
      · obtain ⟨i, hi⟩ := List.getElem?_of_mem hm0
        obtain ⟨j, hj⟩ := List.getElem?_of_mem hm1
        have := key_once F.stamped.2.2 hi hj (h3.trans h31.symm)
        subst this
        rw [hi] at hj
        obtain rfl := Option.some.inj hj
        exact hlook
      · exact absurd h3 (hno e0 hm0)
  subst hv
  have hblt : b < w.heap.size := (Array.getElem?_eq_some_iff.1 hb).1
  have own_ne : ∀ {W : World} {u : Value} {ys : List Int}, W.ownsInts base e q u ys → u.ownBlock ≠ some b := fun {W u ys} ho e1 => by
    have := (ho.1.lt b e1).1
    omega
  have hgA := grown_set hb (.map es1 clock1)
  have hbA := ChangeMaps.heap_setBlock_same hb (.map es1 clock1)
  have hszA : (setBlock w b (.map es1 clock1)).heap.size = w.heap.size := by simp [setBlock]
  refine ⟨v0, zs, st, setBlock w b (.map es1 clock1), hrun w hb, hgA, hszA, hoi.kept hgA (.inr (own_ne hoi)), hzl, hat, ?_⟩
  intro wB v' zs' hgB hown' hl' hloc
  have hbB : wB.heap[b]? = some (.map es1 clock1) := (hgB.block b (by rw [hszA]; exact hblt) (fun e1 => own_ne hoi e1.symm)).trans hbA
  have hg1 := grown_set hbB (.map es clock)
  have hb1 := ChangeMaps.heap_setBlock_same hbB (.map es clock)
  have hgw : w.grownBy (setBlock wB b (.map es clock)) v0.ownBlock := by
    refine ⟨hgB.os, hgB.tape, hgB.output, ?_, ?_⟩
    · have := hgB.size
      rw [hszA] at this
      exact Nat.le_trans this hg1.size
    · intro i hi hne
      by_cases e1 : i = b
      · subst e1
        rw [hb1, hb]
      · rw [ChangeMaps.heap_setBlock_other hbB _ e1, hgB.block i (by rw [hszA]; exact hi) hne, ChangeMaps.heap_setBlock_other hb _ e1]
  obtain ⟨w2, hrun2, hown2, _⟩ := hback _ v' zs' hgw (hown'.kept hg1 (.inr (own_ne hown'))) hl' (by rw [hszA] at hloc; exact hloc)
  obtain ⟨es', clock', hst, hup⟩ := hrest v'
  have e2 := hup _ hb1
  rw [hrun2, set_twice] at e2
  injection e2 with _ e2
  subst e2
  exact ⟨_, hst wB hbB, hown2, grown_set hbB _⟩
section
variable {P : Program} {ops : Array Oper} {rest : List Oper} {o : Oper} {a : Act} {Q : Exit → Act → World → Prop}
theorem wpList_entry (w : World) (hg : o.guard = none) (m x : Operand) (t : TypeId) (hop : o.op = Op.mapEntry t m x) {k E e : TypeId} {q : IntKind} {base b n : Nat} {D : DataW Unit} {key : Value} {kl : Lit} (hm : a.eval m = .map (some b)) (hx : a.eval x = key) (h : w.ownsGroups P k base e q b n D) (K : Keyed P k) (ht : P.underlying t = some (.map k E)) (hz : ∀ u : World, (zeroValue E).run P u = .ok (.slice none 0 0) u) (hn : n < maxLen) (hkey : keyOf P k key = some kl)
    (hK : ∀ v zs st wA, w.grownBy wA (some b) → wA.heap.size = w.heap.size → wA.ownsInts base e q v zs → zs.length ≤ n → D.atKey kl .nil = rowDatum q v zs →
      (∀ (wB : World) (v' : Value) (zs' : List Int), wA.grownBy wB v.ownBlock → wB.ownsInts base e q v' zs' → zs'.length ≤ n + 1 → (v'.ownBlock = v.ownBlock ∨ ∃ g, v'.ownBlock = some g ∧ wA.heap.size ≤ g) →
        ∃ wC, (Instr.entryStore t (.map (some b)) (goInt st) v').run P wB = .ok () wC ∧ wC.ownsGroups P k base e q b (n + 1) (D.put kl (rowDatum q v' zs')) ∧ wB.grownBy wC (some b)) → wpList P ops Q rest (a.put o.dst (.tuple #[v, goInt st])) wA) : wpList P ops Q (o :: rest) a w := by
  refine wpList_plain hg fun K' hK' => ?_
  obtain ⟨v, zs, st, wA, hrun, h1, h2, h3, h4, h5, h6⟩ := entry_at h K ht hz hn hkey
  unfold Oper.wp
  simp [execOp, hop, hm, hx, hrun, Result.andThen]
  exact hK' _ _ (hK v zs st wA h1 h2 h3 h4 h5 h6)
theorem wpList_entryStore (w wC : World) (hg : o.guard = none) (m s x : Operand) (t : TypeId) (hop : o.op = Op.entryStore t m s x) {b : Nat} {sv v' : Value} (hm : a.eval m = .map (some b)) (hs : a.eval s = sv) (hx : a.eval x = v') (hrun : (Instr.entryStore t (.map (some b)) sv v').run P w = .ok () wC)
    (hK : wpList P ops Q rest (a.put o.dst undef) wC) : wpList P ops Q (o :: rest) a w := by
  refine wpList_plain hg fun K' hK' => ?_
  unfold Oper.wp
  simp [execOp, hop, hm, hs, hx, hrun, Result.andThen]
  exact hK' _ _ hK
end
theorem info3_ : (Try.prog.info? 3).map (fun i => (i.zero, i.size, i.bytes)) = some (some (.int .i64 0), 1, 8) := by kernel_rfl
theorem info5_ : (Try.prog.info? 5).map (fun i => (i.zero, i.size, i.bytes)) = some (some (.int .u8 0), 1, 1) := by kernel_rfl
theorem zero59 (w : World) : (zeroValue 59).run Try.prog w = .ok (.slice none 0 0) w := by kernel_rfl
def kv (x : List Int) : Value := .agg (x.map (Value.int .u8)).toArray
def kl3 (x : List Int) : Lit := .string (keyBytes (x.map (Lit.int .u8)))
theorem types152 : 152 < Try.prog.types.size := of_decide_eq_true (by kernel_rfl)
theorem law152 : WideMaps.KeyLaw Try.prog 152 := deep_law_laid (m := 200) (by kernel_rfl) (by decide) types152 (by kernel_rfl) (by kernel_rfl)
theorem keyed152 : Keyed Try.prog 152 := Keyed.of_law law152
/-- The run of three bytes from place i on. -/
def run3 (l : List Int) (i : Nat) : List Int := (l.take (i + 3)).drop i
theorem run3_length (l : List Int) (i : Nat) (h : i + 3 ≤ l.length) : (run3 l i).length = 3 := by unfold run3; rw [List.length_drop, List.length_take]; omega
theorem run3_mem {l : List Int} {i : Nat} {a : Int} (h : a ∈ run3 l i) : a ∈ l := List.mem_of_mem_take (List.mem_of_mem_drop h)
/-- The places below n where the run stands. -/
def idx3 (l : List Int) (x : List Int) (n : Nat) : List Int := ((List.range n).filter (fun i => run3 l i = x)).map (fun i : Nat => (i : Int))
def datum (zs : List Int) : DataW Unit := if zs = [] then .nil else .slice (lits .i64 zs) []
theorem idx3_hit (l x : List Int) (n : Nat) (h : run3 l n = x) : idx3 l x (n + 1) = idx3 l x n ++ [(n : Int)] := by
  unfold idx3
  rw [List.range_succ, List.filter_append, List.filter_cons, if_pos (by simp [h])]
  simp
theorem idx3_miss (l x : List Int) (n : Nat) (h : run3 l n ≠ x) : idx3 l x (n + 1) = idx3 l x n := by
  unfold idx3
  rw [List.range_succ, List.filter_append, List.filter_cons, if_neg (by simp [h])]
  simp
theorem datum_row {w : World} {base : Nat} {v : Value} {zs ys : List Int} (h : w.ownsInts base 3 .i64 v zs) (hd : datum ys = rowDatum .i64 v zs) : zs = ys := by
  unfold datum at hd
  rcases h.datum (H := Unit) with ⟨h1, rfl⟩ | h1
  · rw [h1] at hd
    split at hd
    · rename_i e; exact e.symm
    · cases hd
  · rw [h1] at hd
    split at hd
    · cases hd
    · simp only [lits, DataW.slice.injEq, and_true] at hd
      have h2 := congrArg (List.map fun d : DataW Unit => match d with | .lit (.int _ n) => n | _ => 0) hd
      have e : ∀ l : List Int, List.map (fun d : DataW Unit => match d with | .lit (.int _ n) => n | _ => 0) (l.map fun n => .lit (.int .i64 n)) = l := by
        intro l
        induction l with
        | nil => rfl
        | cons a l ih => rw [List.map_cons, List.map_cons, ih]
      rw [e, e] at h2
      exact h2.symm
theorem meas_ (n i : Nat) (h : i < n) : n - (intOf (.int .i64 ((i : Int) + 1))).toNat < n - (intOf (.int .i64 (i : Int))).toNat := by simp only [intOf]; omega
theorem kv_key (x : List Int) (h : x.length = 3) (hb : ∀ a ∈ x, 0 ≤ a ∧ a ≤ 255) : keyOf Try.prog 152 (kv x) = some (kl3 x) := by
  match x, h with
  | [a, b, c], _ =>
    have wf : ∀ z : Int, 0 ≤ z ∧ z ≤ 255 → (Lit.int .u8 z).wf = true := fun z hz => WalkArith.wf_u8 hz
    have ha := wf a (hb a (by simp))
    have hb' := wf b (hb b (by simp))
    have hc := wf c (hb c (by simp))
    have e1 : Try.prog.underlying 152 = some (.array 3 5) := by kernel_rfl
    have c1 : Try.prog.cellsOf 152 = 3 := by kernel_rfl
    have c5 : Try.prog.cellsOf 5 = 1 := by kernel_rfl
    have kt : Try.prog.keyType 152 = true := by kernel_rfl
    obtain ⟨m, hm⟩ : ∃ m, Try.prog.types.size = m + 1 := ⟨Try.prog.types.size - 1, by have := types152; omega⟩
    have hr : List.range 3 = [0, 1, 2] := rfl
    simp [keyOf, kl3, e1, kt, Value.formed, c1, kv, hm, Program.keyLits, Try.underlying5, c5, ha, hb', hc, hr, Value.cells]
theorem kl3_inj {x y : List Int} (hx : x.length = 3) (hy : y.length = 3) (bx : ∀ a ∈ x, 0 ≤ a ∧ a ≤ 255) (bY : ∀ a ∈ y, 0 ≤ a ∧ a ≤ 255) (h : kl3 x = kl3 y) : x = y := by
  have h1 := kv_key x hx bx
  have h2 := kv_key y hy bY
  rw [h] at h1
  have h3 := law152.inj h1 h2
  unfold kv at h3
  simp only [Value.agg.injEq] at h3
  have h4 := congrArg Array.toList h3
  simp only at h4
  exact (List.map_inj_right (fun a b hab => by cases hab; rfl)).1 h4
theorem three_cells {w : World} {ad : Addr} {v0 v1 v2 : Value} (h0 : w.cell? (ad.add 0) = some v0) (h1 : w.cell? (ad.add 1) = some v1) (h2 : w.cell? (ad.add 2) = some v2) : w.cell? ad = some v0 ∧ w.cell? ⟨ad.block, ad.off + 1, none⟩ = some v1 ∧ w.cell? ⟨ad.block, ad.off + 2, none⟩ = some v2 := by
  obtain ⟨g, o, sp⟩ := ad
  unfold Addr.add at h0 h1 h2
  cases sp with
  | none => simpa using And.intro h0 (And.intro h1 h2)
  | some s =>
    exfalso
    rw [if_pos rfl] at h0
    unfold World.cell? at h0
    dsimp only at h0
    split at h0
    · simp at h0
    · cases h0
theorem array_at (ad : Addr) (c : Nat) : ∀ W : World, (Instr.arrayAt 152 (.slice (some ad) 3 c)).run Try.prog W = .ok (.pointer (some ad)) W := by
  intro W
  have e1 : Try.prog.underlying 152 = some (.array 3 5) := by kernel_rfl
  simp [Instr.arrayAt, run_underlying e1, Result.andThen]
/-- What else than rows of whole numbers stood, stands. -/
def Others (w w' : World) : Prop := w.heap.size ≤ w'.heap.size ∧ ∀ k, k < w.heap.size → ∀ (cs : Array Value) (t : TypeId) (fr : Nat × Nat), w.heap[k]? = some (.cells cs t fr) → t ≠ 3 → w'.heap[k]? = w.heap[k]?
/-- The map tells, of each run, the places below n where it stands. -/
def Grp (w : World) (base b : Nat) (l : List Int) (n : Nat) : Prop := ∃ D : DataW Unit, IsMap D ∧ w.ownsGroups Try.prog 152 base 3 .i64 b n D ∧ ∀ x : List Int, x.length = 3 → (∀ a ∈ x, 0 ≤ a ∧ a ≤ 255) → D.atKey (kl3 x) .nil = datum (idx3 l x n)
theorem groups_more {w : World} {base b n : Nat} {D : DataW Unit} (h : w.ownsGroups Try.prog 152 base 3 .i64 b n D) : w.ownsGroups Try.prog 152 base 3 .i64 b (n + 1) D := by
  obtain ⟨es, clock, hb, F, hs, hD, hbb, hlen, hap⟩ := h
  exact ⟨es, clock, hb, F, Nat.le_succ_of_le hs, hD, hbb, fun x hx zs hz => Nat.le_succ_of_le (hlen x hx zs hz), hap⟩
theorem groups_map {w : World} {base b n : Nat} {D : DataW Unit} (h : w.ownsGroups Try.prog 152 base 3 .i64 b n D) : b < base ∧ ∃ es clock, w.heap[b]? = some (.map es clock) := by
  obtain ⟨es, clock, hb, F, hs, hD, hbb, hlen, hap⟩ := h
  exact ⟨hbb, es, clock, hb⟩
theorem groups_alloc {w : World} {base b n : Nat} {D : DataW Unit} (h : w.ownsGroups Try.prog 152 base 3 .i64 b n D) (o : Obj) : (w.alloc o).ownsGroups Try.prog 152 base 3 .i64 b n D :=
  h.kept (World.grownBy_alloc w o none) (by simp) (fun es clock hh x hx => by cases x.val.ownBlock <;> simp)
set_option maxRecDepth 100000 in
set_option maxHeartbeats 2000000 in
theorem finder_note.calls (A1 : Option Addr) (c1 : Nat) (l : List Int) (base b n : Nat) (w0 w : World) (hB : Below w0.heap.size w0 w) (hb0 : w0.heap.size ≤ b) (hbs : base ≤ w.heap.size) (hr1 : Kd.C (Kd.int .u8) w A1 l.length l) (hc1 : l.length ≤ c1) (hl : l.length ≤ 4096) (hby : ∀ x ∈ l, 0 ≤ x ∧ x ≤ 255) (hn : n < l.length) (hg : Grp w base b l n) :
    Calls Try.prog 50 #[.map (some b), .slice A1 l.length c1, .int .i64 (n : Int)] w fun e w' => e = .returned (.tuple #[]) ∧ Grp w' base b l (n + 1) ∧ Below w0.heap.size w0 w' ∧ Others w w' := by
  obtain ⟨i0, hi, hz0, hz1, hz2⟩ := info_parts info3_
  obtain ⟨i5, hi5, _, hsz5, _⟩ := info_parts info5_
  obtain ⟨D, hM, hown, hD⟩ := hg
  have hn4 : n ≤ 4096 := by omega
  by_cases hlt : n + 3 ≤ l.length
  · have b1_ : decide ((n : Int) + 3 ≤ (l.length : Int)) = true := decide_eq_true (by omega)
    have hx3 := run3_length l n hlt
    have hxb : ∀ a ∈ run3 l n, 0 ≤ a ∧ a ≤ 255 := fun a ha => hby a (run3_mem ha)
    have hcut := cut_mid (P := Try.prog) 30 5 .i64 .i64 Try.underlying30 hi5 1 hsz5 A1 l.length c1 (n : Int) ((n : Int) + 3) (by omega) (by omega) (by omega) hc1
    have hC := Kd.C_mid (lo := n) (hi := n + 3) (c := c1) hr1 (by omega) hlt hc1
    rw [show (((n : Int) + 3).toNat - (n : Int).toNat) = 3 by omega, show (n : Int).toNat = n by omega] at hcut
    change Kd.C _ _ _ (run3 l n).length (run3 l n) at hC
    rw [hx3] at hC
    rw [show (Kd.int .u8).sz = 1 from rfl] at hC
    generalize (if c1 = n then A1 else A1.map (·.add (n * 1))) = A9 at hcut hC
    generalize c1 - n = c9 at hcut
    have hkey := kv_key (run3 l n) hx3 hxb
    obtain ⟨x0, x1, x2, hx⟩ : ∃ x0 x1 x2, run3 l n = [x0, x1, x2] := by
      match run3 l n, hx3 with
      | [a, b, c], _ => exact ⟨a, b, c, rfl⟩
    rw [hx] at hC hkey
    obtain ⟨ad, rfl, hc0⟩ := Kd.at_int hC 0 (by omega) (by omega)
    obtain ⟨_, e1, hc1'⟩ := Kd.at_int hC 1 (by omega) (by omega)
    cases e1
    obtain ⟨_, e2, hc2'⟩ := Kd.at_int hC 2 (by omega) (by omega)
    cases e2
    have hc0 : (w.cell? (ad.add 0)) = some (.int .u8 x0) := hc0
    have hc1' : (w.cell? (ad.add 1)) = some (.int .u8 x1) := hc1'
    have hc2' : (w.cell? (ad.add 2)) = some (.int .u8 x2) := hc2'
    obtain ⟨hd0, hd1, hd2⟩ := three_cells hc0 hc1' hc2'
    have HX := Aside0.mk (And.intro hx3 (And.intro hx hxb))
    clear hC hx3 hx hxb hc0 hc1' hc2'
    have harr := array_at ad c9
    have hbb := (groups_map hown).1
    obtain ⟨W1, hW1⟩ : ∃ W, W = (w.alloc (Obj.cells #[Value.int .u8 x0, Value.int .u8 x1, Value.int .u8 x2] 152)) := ⟨_, rfl⟩
    obtain ⟨W2, hW2⟩ : ∃ W, W = W1.alloc (Obj.cells #[Value.int .i64 (n : Int)] 3) := ⟨_, rfl⟩
    have hs1 : W1.heap.size = w.heap.size + 1 := by rw [hW1]; simp
    have hs2 : W2.heap.size = w.heap.size + 2 := by rw [hW2]; simp [hs1]
    have hown2 : W2.ownsGroups Try.prog 152 base 3 .i64 b n D := by rw [hW2, hW1]; exact groups_alloc (groups_alloc hown _) _
    have hlit : ∀ j u, [Value.int .i64 (n : Int)][j]? = some u → W2.cell? ((⟨w.heap.size + 1, 0, none⟩ : Addr).add j) = some u := by
      intro j u hj
      have := cell_one_new W1 (Value.int .i64 (n : Int)) 3 j u hj
      rw [hs1] at this
      rw [hW2]
      exact this
    have hkey : keyOf Try.prog 152 (Value.agg #[Value.int .u8 x0, Value.int .u8 x1, Value.int .u8 x2]) = some (kl3 [x0, x1, x2]) := hkey
    have HLIT := Aside0.mk hlit
    have HW := Aside0.mk (And.intro hW1 (And.intro hW2 (And.intro hs1 hs2)))
    clear hlit hW1 hW2 hs1 hs2
    go_enter Try.func50, Try.ntmps50
    go_wp2_with (first
      | ((with_reducible refine gate_dst (N := 24) rfl ?_); rw [← HW.out.1, ← HW.out.2.1]; refine wpList_entry _ rfl _ _ 100 rfl rfl rfl hown2 keyed152 Try.underlying100 zero59 (by unfold maxLen; omega) hkey ?_; intro v zs st wA hgA hszA hoi hzl hat hback)
      | (at_builtin; refine wpList_append_own_at _ rfl _ _ 59 rfl base 3 i0 (.int .i64 0) 1 8 Try.underlying59 hi hz0 hz1 hz2 rfl (by decide) _ _ _ rfl hoi.1 ⟨w.heap.size + 1, 0, none⟩ 1 1 [.int .i64 n] rfl rfl (fun j u hj => hgA.cell (HLIT.out j u hj) (by rw [add_block]; simp; omega)) (ints_oneCell .i64 [(n : Int)]) (by unfold maxLen; omega) (by omega) (by have := HW.out.2.2.2; omega) ?_; intro v' w1 hown' hgrow hnil hloc)
      | (obtain ⟨wC, hrunC, hownC, hgC⟩ := hback w1 v' _ hgrow (hoi.appended hown' (WalkArith.wf_i64 (by omega))) (by simp; omega) (hloc.imp id (fun h => ⟨_, h, Nat.le_refl _⟩)); refine wpList_entryStore _ wC rfl _ _ _ 100 rfl rfl rfl rfl hrunC ?_))
    first | go_end0 | ((try simp only [Exit.inBlock, Exit.then]); refine bodyPost_ret (results_none rfl _ _ _) rfl ?_)
    have hx := HX.out.2.1
    have hxb := HX.out.2.2
    have hb2 : Below w0.heap.size w0 W2 := by rw [HW.out.2.1, HW.out.1]; exact below_alloc (below_alloc hB _) _
    have hw0 := hB.size
    have hS2 := HW.out.2.2.2
    have hbC := ((hb2.grown hgA (by omega) (fun j hj => by cases hj; exact hb0)).grown hgrow (by omega) (fun j hj => by have := (hoi.1.lt j hj).1; omega)).grown hgC (by have := hgrow.size; omega) (fun j hj => by cases hj; exact hb0)
    refine ⟨rfl, ⟨_, hM.put _ _, hownC, ?_⟩, hbC, ⟨by have := hgrow.size; have := hgC.size; omega, ?_⟩⟩
    · intro x hx3 hxb'
      have hrow := (hoi.appended hown' (WalkArith.wf_i64 (by omega))).datum_pos (H := Unit) (by simp)
      have hx3' : [x0, x1, x2].length = 3 := rfl
      by_cases he : x = [x0, x1, x2]
      · subst he
        rw [atKey_put_same hM (by exact trivial)]
        refine Eq.trans hrow ?_
        rw [idx3_hit l _ n hx, datum_row hoi ((hD _ hx3' hxb').symm.trans hat)]
        unfold datum
        rw [if_neg (by simp)]
      · rw [atKey_put_other (fun h => he (kl3_inj hx3 hx3' hxb' (by rw [← hx]; exact hxb) h)), idx3_miss l x n (fun h => he (h.symm.trans hx))]
        exact hD x hx3 hxb'
    · intro k hk cs t fr hkc ht
      obtain ⟨es, clock, hbm⟩ := (groups_map hown).2
      have hkb : some k ≠ some b := by
        intro e
        injection e with e
        rw [e, hbm] at hkc
        cases hkc
      have e2 : W2.heap[k]? = w.heap[k]? := by
        have a1 : k < W1.heap.size := by have := HW.out.2.2.1; omega
        rw [HW.out.2.1, heap_alloc_old _ _ a1, HW.out.1, heap_alloc_old _ _ hk]
      have eA : wA.heap[k]? = w.heap[k]? := (hgA.block k (by omega) hkb).trans e2
      have e1 : w1.heap[k]? = w.heap[k]? := (hgrow.block k (by omega) (fun e => by
        obtain ⟨cells, hc⟩ := own_typed hoi.1 k e.symm
        rw [eA, hkc] at hc
        simp only [Option.some.injEq, Obj.cells.injEq] at hc
        exact ht hc.2.1)).trans eA
      exact (hgC.block k (by have := hgrow.size; omega) hkb).trans e1
  · have b1_ : decide ((n : Int) + 3 ≤ (l.length : Int)) = false := decide_eq_false (by omega)
    go_enter Try.func50, Try.ntmps50
    go_wp2
    first | go_end0 | ((try simp only [Exit.inBlock, Exit.then]); refine bodyPost_ret (results_none rfl _ _ _) rfl ?_)
    refine ⟨rfl, ⟨D, hM, groups_more hown, fun x hx hxb => ?_⟩, hB, ⟨Nat.le_refl _, fun _ _ _ _ _ _ _ => rfl⟩⟩
    rw [idx3_miss l x n (fun e => by
      have h := congrArg List.length e
      rw [hx] at h
      unfold run3 at h
      rw [List.length_drop, List.length_take] at h
      omega)]
    exact hD x hx hxb
/-- The longest of the runs that stood, the nearest place first. -/
def pickB (k : Nat) (l : List Int) (n : Nat) : List Int → Int × Int → Option (Int × Int)
  | [], s => some s
  | z :: zs, s => if (n : Int) - z ≤ 255 then (lz_run.f k l z (n : Int)).bind fun m => pickB k l n zs (if m > s.2 then ((n : Int) - z, m) else s) else some s
def finder_best.f (k : Nat) (l : List Int) (n : Nat) : Option (Int × Int) := if n + 3 ≤ l.length then pickB k l n (idx3 l (run3 l n) n).reverse (0, 0) else some (0, 0)
theorem idx3_bd {l x : List Int} {n : Nat} {z : Int} (h : z ∈ idx3 l x n) : ∃ i : Nat, z = (i : Int) ∧ i < n := by
  unfold idx3 at h
  obtain ⟨i, hi, rfl⟩ := List.mem_map.1 h
  exact ⟨i, rfl, List.mem_range.1 (List.mem_filter.1 hi).1⟩
theorem tok_cell {W : World} {g : Nat} {a d m : Value} (h : W.heap[g]? = some (.cells #[a, d, m] 40 (0, 0))) : W.cell? ⟨g, 0, none⟩ = some a ∧ W.cell? ⟨g, 1, none⟩ = some d ∧ W.cell? ⟨g, 2, none⟩ = some m := ⟨(blk_cell h 0).trans rfl, (blk_cell h 1).trans rfl, (blk_cell h 2).trans rfl⟩
theorem tok_set {W : World} {g : Nat} {a d m a' d' m' : Value} (h : W.heap[g]? = some (.cells #[a, d, m] 40 (0, 0))) : (((W.setCell ⟨g, 0, none⟩ a').setCell ⟨g, 1, none⟩ d').setCell ⟨g, 2, none⟩ m').heap[g]? = some (.cells #[a', d', m'] 40 (0, 0)) := by
  have h1 : (W.setCell ⟨g, 0, none⟩ a').heap[g]? = some (.cells #[a', d, m] 40 (0, 0)) := by simpa using blk_set h 0 a'
  have h2 : ((W.setCell ⟨g, 0, none⟩ a').setCell ⟨g, 1, none⟩ d').heap[g]? = some (.cells #[a', d', m] 40 (0, 0)) := by simpa using blk_set h1 1 d'
  simpa using blk_set h2 2 m'
theorem grow_set {w W : World} {g : Nat} (h : w.grownBy W (some g)) (k : Nat) (u : Value) : w.grownBy (W.setCell ⟨g, k, none⟩ u) (some g) := by
  refine ⟨h.os, h.tape, h.output, by simpa [World.setCell] using h.size, fun i hi hg => (Below.heap_setCell W ⟨g, k, none⟩ u i (fun e => hg (by rw [e]))).trans (h.block i hi hg)⟩
theorem grow_drew {w W : World} {row : Option Nat} (h : w.grownBy W row) (m : Nat) : w.grownBy (W.drewN m) row := ⟨h.os, h.tape, h.output, h.size, h.block⟩
theorem meas2 (i : Nat) : (intOf (.int .i64 ((i : Int) - 1)) + 1).toNat < (intOf (.int .i64 (i : Int)) + 1).toNat := by simp only [intOf]; omega
theorem places_at {W : World} {base n c : Nat} {A : Option Addr} {zs : List Int} (h : W.ownsInts base 3 .i64 (.slice A n c) zs) (i : Nat) (hi : i < zs.length) : ∃ ad, A = some ad ∧ W.cell? (ad.add i) = some (.int .i64 (zs.getD i 0)) := by
  obtain ⟨h, _⟩ := h
  rcases h.2 with ⟨e, e2⟩ | ⟨g, cap, cur, e, _⟩
  · omega
  · simp only [Value.slice.injEq] at e
    obtain ⟨rfl, rfl, rfl⟩ := e
    refine ⟨_, rfl, h.cells (g := g) rfl i _ ?_⟩
    rw [List.getElem?_map, List.getD_eq_getElem?_getD, List.getElem?_eq_getElem hi]
    rfl
set_option maxRecDepth 100000 in
set_option maxHeartbeats 2000000 in
theorem finder_best.calls (k : Nat) (A1 : Option Addr) (c1 : Nat) (l : List Int) (base b n : Nat) (r : Int × Int) (w : World) (hr1 : Kd.C (Kd.int .u8) w A1 l.length l) (hc1 : l.length ≤ c1) (hl : l.length ≤ 4096) (hby : ∀ x ∈ l, 0 ≤ x ∧ x ≤ 255) (hn : n < l.length) (hg : Grp w base b l n) (h : finder_best.f k l n = some r) :
    Calls Try.prog 49 #[.map (some b), .slice A1 l.length c1, .int .i64 (n : Int)] w fun e w' => e = .returned (.agg #[.int .u8 0, .int .i64 r.1, .int .i64 r.2]) ∧ Below w.heap.size w w' := by
  obtain ⟨i5, hi5, _, hsz5, _⟩ := info_parts info5_
  obtain ⟨D, hM, hown, hD⟩ := hg
  have hn4 : n ≤ 4096 := by omega
  obtain ⟨W1, hW1⟩ : ∃ W, W = (w.alloc (Obj.cells #[Value.int .u8 0, Value.int .i64 0, Value.int .i64 0] 40)) := ⟨_, rfl⟩
  have hbW : Below w.heap.size w W1 := by rw [hW1]; exact below_alloc (Below.refl _ _) _
  have hcW : W1.heap[w.heap.size]? = some (.cells #[Value.int .u8 0, Value.int .i64 0, Value.int .i64 0] 40 (0, 0)) := by rw [hW1]; exact heap_alloc_new w _
  have hown1 : W1.ownsGroups Try.prog 152 base 3 .i64 b n D := by rw [hW1]; exact groups_alloc hown _
  by_cases hlt : n + 3 ≤ l.length
  · have b1_ : decide ((l.length : Int) < (n : Int) + 3) = false := decide_eq_false (by omega)
    unfold finder_best.f at h
    have hx3 := run3_length l n hlt
    have hxb : ∀ a ∈ run3 l n, 0 ≤ a ∧ a ≤ 255 := fun a ha => hby a (run3_mem ha)
    have hcut := cut_mid (P := Try.prog) 30 5 .i64 .i64 Try.underlying30 hi5 1 hsz5 A1 l.length c1 (n : Int) ((n : Int) + 3) (by omega) (by omega) (by omega) hc1
    have hC := Kd.C_mid (lo := n) (hi := n + 3) (c := c1) (Kd.C_below hr1 hbW) (by omega) hlt hc1
    rw [show (((n : Int) + 3).toNat - (n : Int).toNat) = 3 by omega, show (n : Int).toNat = n by omega] at hcut
    change Kd.C _ _ _ (run3 l n).length (run3 l n) at hC
    rw [hx3] at hC
    rw [show (Kd.int .u8).sz = 1 from rfl] at hC
    generalize (if c1 = n then A1 else A1.map (·.add (n * 1))) = A9 at hcut hC
    generalize c1 - n = c9 at hcut
    have hkey := kv_key (run3 l n) hx3 hxb
    have hat0 := hD (run3 l n) hx3 hxb
    obtain ⟨x0, x1, x2, hx⟩ : ∃ x0 x1 x2, run3 l n = [x0, x1, x2] := by
      match run3 l n, hx3 with
      | [a, b, c], _ => exact ⟨a, b, c, rfl⟩
    have HH := Aside0.mk h
    clear h
    have HX := Aside0.mk hat0
    clear hat0
    rw [hx] at hC hkey
    obtain ⟨ad, rfl, hc0⟩ := Kd.at_int hC 0 (by omega) (by omega)
    obtain ⟨_, e1, hc1'⟩ := Kd.at_int hC 1 (by omega) (by omega)
    cases e1
    obtain ⟨_, e2, hc2'⟩ := Kd.at_int hC 2 (by omega) (by omega)
    cases e2
    have hc0 : (W1.cell? (ad.add 0)) = some (.int .u8 x0) := hc0
    have hc1' : (W1.cell? (ad.add 1)) = some (.int .u8 x1) := hc1'
    have hc2' : (W1.cell? (ad.add 2)) = some (.int .u8 x2) := hc2'
    obtain ⟨hd0, hd1, hd2⟩ := three_cells hc0 hc1' hc2'
    have harr := array_at ad c9
    have hkey : keyOf Try.prog 152 (Value.agg #[Value.int .u8 x0, Value.int .u8 x1, Value.int .u8 x2]) = some (kl3 (run3 l n)) := by rw [hx]; exact hkey
    have HW := Aside0.mk (And.intro hW1 (And.intro hcW hbW))
    have HR1 := Aside0.mk hr1
    clear hC hx3 hx hxb hc0 hc1' hc2' hcW hr1 hD hbW
    go_enter Try.func49, Try.ntmps49
    obtain ⟨wE, hwE⟩ : ∃ x, x = w := ⟨_, rfl⟩
    go_upto_region 1 with (fail)
    rw [← hW1]; clear hW1
    go_wp2_with (first | (at_lookup; refine wpList_lookup_groups _ rfl _ _ 100 rfl 152 59 3 .i64 keyed152 Try.underlying100 (zero59 _) base b n _ rfl hown1 (by unfold maxLen; omega) _ _ rfl hkey ?_; intro v zs hat hoi hzl hback; clear hback; obtain ⟨A8, c8, rfl⟩ := own_slice hoi.1; have hz4 : zs.length ≤ 4096 := by omega))
    have hz : zs = idx3 l (run3 l n) n := datum_row hoi (HX.out.symm.trans hat)
    have HZ := Aside0.mk hz
    have hne : (Value.slice A8 zs.length c8).ownBlock ≠ some w.heap.size := by
      intro hh
      obtain ⟨cs, hcs⟩ := own_typed hoi.1 _ hh
      rw [HW.out.2.1] at hcs
      simp at hcs
    have HNE := Aside0.mk hne
    have HOI := Aside0.mk hoi
    clear hz hat hne hoi hown hown1 hM hkey
    obtain ⟨wo, hwo⟩ : ∃ x, x = w := ⟨_, rfl⟩
    have HHS : Aside0 (pickB k l n zs.reverse (0, 0) = some r) := ⟨by have := HH.out; rw [if_pos hlt] at this; rw [HZ.out]; exact this⟩
    go_loopw [8] (fun v8 wr => ∃ (j : Nat) (s : Int × Int), v8 = .int .i64 ((j : Int) - 1) ∧ Aside0 (j ≤ zs.length) ∧ Aside0 (pickB k l n (zs.take j).reverse s = some r) ∧ Aside0 (wr.heap[w.heap.size]? = some (.cells #[.int .u8 0, .int .i64 s.1, .int .i64 s.2] 40 (0, 0))) ∧ Aside0 (W1.grownBy wr (some w.heap.size)))
      (fun v8 _ => (intOf v8 + 1).toNat)
    case atStart => exact ⟨zs.length, (0, 0), rfl, ⟨Nat.le_refl _⟩, ⟨by rw [List.take_length]; exact HHS.out⟩, ⟨HW.out.2.1⟩, ⟨World.grownBy.refl _ _⟩⟩
    case round =>
      obtain ⟨j, s, rfl, HJ, HP, HC, HG⟩ := hrel
      obtain ⟨hk0, hk1, hk2⟩ := tok_cell HC.out
      have hf0 := blk_frozen HC.out 0
      have hf1 := blk_frozen HC.out 1
      have hf2 := blk_frozen HC.out 2
      have hbq : Below w.heap.size w wr := HW.out.2.2.trans ⟨HG.out.os, HG.out.tape, HG.out.output, HG.out.size, fun k_ hk_ => HG.out.block k_ (Nat.lt_of_lt_of_le hk_ HW.out.2.2.size) (by simp; omega)⟩
      have HBQ := Aside0.mk hbq
      clear hbq
      rcases Nat.eq_zero_or_pos j with rfl | hjp
      · have hp := HP.out
        obtain rfl : s = r := Option.some.inj hp
        clear hp
        have e1_ : decide ((0 : Int) ≤ ((0 : Nat) : Int) - 1) = false := rfl
        go_wp2
        (try simp only [Exit.inBlock, Exit.then])
        refine bodyPost_ret (results_cell_row rfl _ _ w.heap.size 40 #[.int .u8 0, .int .i64 s.1, .int .i64 s.2] (0, 0) _ rfl (tok_set HC.out) Try.underlying40 rfl (by kernel_rfl)) rfl ?_
        exact ⟨rfl, below_set (below_set (below_set HBQ.out (Nat.le_refl _)) (Nat.le_refl _)) (Nat.le_refl _)⟩
      · obtain ⟨i, rfl⟩ : ∃ i, j = i + 1 := ⟨j - 1, by omega⟩
        have hil : i < zs.length := by have := HJ.out; omega
        rw [show (((i + 1 : Nat) : Int) - 1) = (i : Int) by omega]
        have e1_ : decide ((0 : Int) ≤ (i : Int)) = true := decide_eq_true (by omega)
        have e2_ : (0 : Int) ≤ (i : Int) := by omega
        have e3_ : (i : Int) < (zs.length : Int) := by omega
        obtain ⟨ad8, rfl, hcell⟩ := places_at (HOI.out.kept HG.out (.inr HNE.out)) i hil
        obtain ⟨p, hpz, hpn⟩ := idx3_bd (l := l) (x := run3 l n) (n := n) (z := zs.getD i 0) (by rw [← HZ.out]; rw [List.getD_eq_getElem?_getD, List.getElem?_eq_getElem hil]; exact List.getElem_mem hil)
        rw [hpz] at hcell
        have hp := HP.out
        rw [show (zs.take (i + 1)).reverse = (p : Int) :: (zs.take i).reverse by
          rw [List.take_add_one, List.getElem?_eq_getElem hil, Option.toList_some, List.reverse_append, List.reverse_singleton, List.singleton_append]
          rw [← hpz, List.getD_eq_getElem?_getD, List.getElem?_eq_getElem hil]
          rfl, pickB] at hp
        have hi4 : i ≤ 4096 := by omega
        have hp4 : p ≤ 4096 := by omega
        by_cases h255 : (n : Int) - (p : Int) ≤ 255
        · rw [if_pos h255] at hp
          obtain ⟨m, hm, hp⟩ := Option.bind_eq_some_iff.1 hp
          have e4_ : decide ((n : Int) - (p : Int) ≤ 255) = true := decide_eq_true h255
          have HM := Aside0.mk hm
          clear hm h255
          by_cases hms : m > s.2
          · rw [if_pos hms] at hp
            have e5_ : decide (s.2 < m) = true := decide_eq_true hms
            have HP2 := Aside0.mk hp
            clear hp hms
            go_wp2_with (first | ((with_reducible refine gate_callee (f := 82) rfl ?_); refine goesL_ (some 47) rfl rfl Try.func82 (by kernel_rfl) rfl #[.slice A1 l.length c1, .int .i64 (p : Int), .int .i64 (n : Int)] rfl (by (try simp only [List.map_toArray, List.map_cons, List.map_nil]); first | done | rfl) ?_; refine (lz_run.calls k A1 c1 l _ _ _ _ (Kd.C_below HR1.out HBQ.out) hc1 HM.out).mono ?_; rintro e w' ⟨rfl, ⟨m1, rfl⟩⟩; refine ⟨_, rfl, ?_⟩))
            go_roundw
            case measure => exact meas2 i
            case rel => exact ⟨i, ((n : Int) - (p : Int), m), rfl, ⟨by omega⟩, HP2, ⟨tok_set (W := wr.drewN m1) HC.out⟩, ⟨grow_set (grow_set (grow_set (grow_drew HG.out m1) 0 _) 1 _) 2 _⟩⟩
          · rw [if_neg hms] at hp
            have e5_ : decide (s.2 < m) = false := decide_eq_false hms
            have HP2 := Aside0.mk hp
            clear hp hms
            go_wp2_with (first | ((with_reducible refine gate_callee (f := 82) rfl ?_); refine goesL_ (some 47) rfl rfl Try.func82 (by kernel_rfl) rfl #[.slice A1 l.length c1, .int .i64 (p : Int), .int .i64 (n : Int)] rfl (by (try simp only [List.map_toArray, List.map_cons, List.map_nil]); first | done | rfl) ?_; refine (lz_run.calls k A1 c1 l _ _ _ _ (Kd.C_below HR1.out HBQ.out) hc1 HM.out).mono ?_; rintro e w' ⟨rfl, ⟨m1, rfl⟩⟩; refine ⟨_, rfl, ?_⟩))
            go_roundw
            case measure => exact meas2 i
            case rel => exact ⟨i, s, rfl, ⟨by omega⟩, HP2, ⟨HC.out⟩, ⟨grow_drew HG.out m1⟩⟩
        · rw [if_neg h255] at hp
          obtain rfl : s = r := Option.some.inj hp
          have e4_ : decide ((n : Int) - (p : Int) ≤ 255) = false := decide_eq_false h255
          clear hp h255
          go_wp2
          (try simp only [Exit.inBlock, Exit.then])
          refine bodyPost_ret (results_cell_row rfl _ _ w.heap.size 40 #[.int .u8 0, .int .i64 s.1, .int .i64 s.2] (0, 0) _ rfl (tok_set HC.out) Try.underlying40 rfl (by kernel_rfl)) rfl ?_
          exact ⟨rfl, below_set (below_set (below_set HBQ.out (Nat.le_refl _)) (Nat.le_refl _)) (Nat.le_refl _)⟩
  · have b1_ : decide ((l.length : Int) < (n : Int) + 3) = true := decide_eq_true (by omega)
    unfold finder_best.f at h
    rw [if_neg hlt] at h
    obtain rfl := Option.some.inj h
    obtain ⟨hk0, hk1, hk2⟩ := tok_cell hcW
    have hf0 := blk_frozen hcW 0
    have hf1 := blk_frozen hcW 1
    have hf2 := blk_frozen hcW 2
    go_enter Try.func49, Try.ntmps49
    go_upto_region 1 with (fail)
    rw [← hW1]; clear hW1
    go_wp2
    (try simp only [Exit.inBlock, Exit.then])
    refine bodyPost_ret (results_cell_row rfl _ _ w.heap.size 40 #[.int .u8 0, .int .i64 0, .int .i64 0] (0, 0) _ rfl (tok_set hcW) Try.underlying40 rfl (by kernel_rfl)) rfl ?_
    exact ⟨rfl, below_set (below_set (below_set hbW (Nat.le_refl _)) (Nat.le_refl _)) (Nat.le_refl _)⟩
def byteB (l : List Int) : Bool := l.all fun a => decide (0 ≤ a) && decide (a ≤ 255)
theorem byteB_mem {l : List Int} (h : byteB l = true) : ∀ a ∈ l, 0 ≤ a ∧ a ≤ 255 := by
  intro a ha
  have := List.all_eq_true.1 h a ha
  simpa [Bool.and_eq_true, decide_eq_true_eq] using this
def lz_Parse.l0 : Nat → List Int → List S40 → Nat → Option (List S40 × Int)
  | 0, _, _, _ => none
  | k + 1, l, o, n =>
    if n < l.length then (finder_best.f k l n).bind fun t =>
      if 0 ≤ t.2 ∧ (n : Int) + t.2 ≤ (l.length : Int) ∧ o.length < 2097152 then
        (if t.2 = 0 then lz_Parse.l0 k l (o ++ [(⟨rd l (n : Int), t.1, 0⟩ : S40)]) (n + 1) else lz_Parse.l0 k l (o ++ [(⟨0, t.1, t.2⟩ : S40)]) (n + t.2.toNat))
      else none
    else some (o, 0)
def lz_Parse.f (k : Nat) (l : List Int) : Option (List S40 × Int) := if byteB l = true then (if (l.length : Int) > 4096 then some ([], 1) else lz_Parse.l0 k l [] 0) else none
theorem grp_below {W W' : World} {base b n : Nat} {l : List Int} (h : Grp W base b l n) (hb : Below W.heap.size W W') : Grp W' base b l n := by
  obtain ⟨D, hM, hown, hD⟩ := h
  refine ⟨D, hM, hown.kept (row := none) ⟨hb.os, hb.tape, hb.output, hb.size, fun k hk _ => hb.block k hk⟩ (by simp) (fun es clock hh x hx => by cases x.val.ownBlock <;> simp), hD⟩
set_option maxRecDepth 100000 in
theorem grp_other {W W' : World} {base b n : Nat} {l : List Int} {row : Option Nat} (h : Grp W base b l n) (hg : W.grownBy W' row) (ht : ∀ j, row = some j → j < W.heap.size → ∃ cs t fr, W.heap[j]? = some (.cells cs t fr) ∧ t ≠ 3) : Grp W' base b l n := by
  obtain ⟨D, hM, hown, hD⟩ := h
  have h2 := hown
  obtain ⟨es, clock, hb, F, hs, hDD, hbb, hlen, hap⟩ := h2
  refine ⟨D, hM, hown.kept hg ?_ ?_, hD⟩
  · intro e
    obtain ⟨cs, t, fr, hc, _⟩ := ht b e.symm (Array.getElem?_eq_some_iff.1 hb).1
    rw [hb] at hc
    cases hc
  · intro es2 clock2 hb2 x hx
    rw [hb] at hb2
    injection hb2 with hb2
    injection hb2 with hb2 hb3
    subst hb2
    obtain ⟨y, hy⟩ := F.reads x hx
    obtain ⟨z, hz, _⟩ := rd_val hy
    obtain ⟨zs, ho, _⟩ := rowElem_inv hz
    cases hv : x.val.ownBlock with
    | none => exact .inl rfl
    | some g =>
      refine .inr (fun e => ?_)
      obtain ⟨cells, hc⟩ := own_typed ho.1 g hv
      obtain ⟨cs, t, fr, hc2, ht2⟩ := ht g e.symm (own_lt ho.1 g hv)
      rw [hc] at hc2
      simp only [Option.some.injEq, Obj.cells.injEq] at hc2
      exact ht2 hc2.2.1.symm
theorem others_R {W W' : World} {base : Nat} {ok : Nat → Prop} {v : Value} {o : List S40} (h : Kd.R k40 40 W base ok v o) (ho : Others W W') : Kd.R k40 40 W' base ok v o := by
  refine Kd.R_mono (Kd.R_step (Kd.R_bound h) (fun k hk hlt => ?_)) (fun _ hk => hk.1)
  obtain ⟨_, _, _, q, hq, cells, hc⟩ := hk
  refine ho.2 k hlt cells q (0, 0) hc ?_
  have : q = 40 := by simpa [show (k40).E = [] from rfl] using hq
  rw [this]
  decide
set_option maxRecDepth 100000 in
set_option maxHeartbeats 4000000 in
theorem lz_Parse.calls (k : Nat) (A0 : Option Addr) (c0 : Nat) (l0 : List Int) (r1 : List (S40)) (r2 : Int) (w : World) (hr0 : Kd.C (Kd.int .u8) w A0 l0.length l0) (hc0 : l0.length ≤ c0) (h : lz_Parse.f k l0 = some (r1, r2)) :
    Calls Try.prog 20 #[.slice A0 l0.length c0] w fun e w' => ∃ v0_ : Value, e = .returned (.tuple #[v0_, .int .i64 r2]) ∧ Kd.R k40 40 w' w.heap.size (fun _ => True) v0_ r1 ∧ Below w.heap.size w w' := by
  unfold lz_Parse.f at h
  by_cases hbb : byteB l0 = true
  case neg => rw [if_neg hbb] at h; cases h
  rw [if_pos hbb] at h
  have hby := byteB_mem hbb
  clear hbb
  by_cases h0 : (l0.length : Int) > 4096
  · rw [if_pos h0] at h
    simp only [Option.some.injEq, Prod.mk.injEq] at h
    obtain ⟨rfl, rfl⟩ := h
    have c0_ : decide (4096 < (l0.length : Int)) = true := decide_eq_true h0
    have c1_ : decide (4096 < l0.length) = true := decide_eq_true (by omega)
    clear h0
    go_enter Try.func20, Try.ntmps20
    go_wp2
    go_ret2
    exact ⟨_, rfl, Kd.R_nil _ _ _ _ _, Below.refl _ _⟩
  · rw [if_neg h0] at h
    have c0_ : decide (4096 < (l0.length : Int)) = false := decide_eq_false h0
    have c1_ : decide (4096 < l0.length) = false := decide_eq_false (by omega)
    have H0 := Aside0.mk (show l0.length ≤ 4096 by omega)
    have HH := Aside0.mk h
    have HR0 := Aside0.mk hr0
    have HC0 := Aside0.mk hc0
    have hl4 : l0.length ≤ 4096 := by omega
    clear h0 h hr0 hc0
    have hmm := @run_makeMap Try.prog
    go_enter Try.func20, Try.ntmps20
    go_wp2
    go_loopg [5, 6] k (fun kq v5 v6 wr => ∃ (o : List S40) (n : Nat), v6 = .int .i64 (n : Int) ∧ Aside0 (lz_Parse.l0 kq l0 o n = some (r1, r2)) ∧ Aside0 (kq ≤ k) ∧ Aside0 (Kd.R k40 40 wr w.heap.size (fun _ => True) v5 o) ∧ Aside0 (Below w.heap.size w wr) ∧ Aside0 (Grp wr (w.heap.size + 1) w.heap.size l0 n) ∧ Aside0 (w.heap.size + 1 ≤ wr.heap.size))
    case atStart => exact ⟨[], 0, rfl, HH, ⟨Nat.le_refl _⟩, ⟨Kd.R_nil _ _ _ _ _⟩, ⟨(Below.refl _ _).alloc (Nat.le_refl _) _⟩, ⟨⟨.map [], isMap_empty, World.ownsGroups_made _ _ _ _ _, fun x _ _ => rfl⟩⟩, ⟨by simp⟩⟩
    case round =>
      obtain ⟨o, n, rfl, HA, HK1, HO, HB, HG, HS⟩ := hrel
      cases gk with
      | zero => exact absurd HA.out (by simp [lz_Parse.l0])
      | succ k1 =>
        have H := HA.out
        clear HA
        rw [lz_Parse.l0] at H
        by_cases c2 : n < l0.length
        · rw [if_pos c2] at H
          have c2_ : decide ((n : Int) < (l0.length : Int)) = true := decide_eq_true (by omega)
          have c3_ : decide (n < l0.length) = true := decide_eq_true c2
          have hn4 : n ≤ 4096 := by omega
          obtain ⟨t, ht, H⟩ := Option.bind_eq_some_iff.1 H
          by_cases c4 : 0 ≤ t.2 ∧ (n : Int) + t.2 ≤ (l0.length : Int) ∧ o.length < 2097152
          case neg => rw [if_neg c4] at H; cases H
          rw [if_pos c4] at H
          obtain ⟨m, hm⟩ : ∃ m : Nat, t.2 = (m : Int) := ⟨t.2.toNat, by omega⟩
          obtain ⟨t1, t2⟩ := t
          obtain rfl : t2 = (m : Int) := hm
          have HT := Aside0.mk ht
          have HN := Aside0.mk c4
          clear ht c4
          obtain ⟨wo, hwo⟩ : ∃ x, x = wr := ⟨_, rfl⟩
          subst hwo
          rcases Nat.eq_zero_or_pos m with rfl | hmp
          · dsimp only at H
            rw [if_pos (show ((0 : Nat) : Int) = 0 from rfl)] at H
            have HR := Aside0.mk H
            clear H
            go_upto_region 8 with (first
              | ((with_reducible refine gate_callee (f := 49) rfl ?_); refine goesL_ (some 19) rfl rfl Try.func49 (by kernel_rfl) rfl #[.map (some w.heap.size), .slice A0 l0.length c0, .int .i64 (n : Int)] rfl (by (try simp only [List.map_toArray, List.map_cons, List.map_nil]); first | done | rfl) ?_; refine (finder_best.calls k1 A0 c0 l0 (w.heap.size + 1) w.heap.size n _ _ (Kd.C_below HR0.out HB.out) HC0.out hl4 hby c2 HG.out HT.out).mono ?_; rintro e w1 ⟨rfl, hb1⟩; refine ⟨_, rfl, ?_⟩; have HB1 := Aside0.mk hb1; clear hb1))
            have hw1 : wo.heap.size ≤ w1.heap.size := HB1.out.size
            obtain ⟨W2, hW2⟩ : ∃ W, w1.alloc (Obj.cells #[Value.int .u8 0, Value.int .i64 t1, Value.int .i64 0] 40) = W := ⟨_, rfl⟩
            rw [hW2]
            have hct : W2.heap[w1.heap.size]? = some (.cells #[Value.int .u8 0, Value.int .i64 t1, Value.int .i64 0] 40 (0, 0)) := by rw [← hW2]; exact heap_alloc_new _ _
            have hb2 : Below wo.heap.size wo W2 := by rw [← hW2]; exact below_alloc HB1.out _
            clear hW2
            obtain ⟨hk0, hk1, hk2⟩ := tok_cell hct
            have hf0 := blk_frozen hct 0
            obtain ⟨ad1, e1, hx1⟩ := Kd.at_int (Kd.C_below HR0.out (HB.out.trans (hb2.mono HB.out.size))) (n : Int) (by omega) (by omega)
            rw [Int.toNat_natCast] at hx1
            subst e1
            have g0_ : (((0 : Nat) : Int) == 0) = true := rfl
            have hb3 : Below wo.heap.size wo (W2.setCell ⟨w1.heap.size, 0, none⟩ (.int .u8 (rd l0 (n : Int)))) := below_set hb2 hw1
            have hct3 : (W2.setCell ⟨w1.heap.size, 0, none⟩ (.int .u8 (rd l0 (n : Int)))).heap[w1.heap.size]? = some (.cells #[Value.int .u8 (rd l0 (n : Int)), Value.int .i64 t1, Value.int .i64 0] 40 (0, 0)) := by simpa using blk_set hct 0 (.int .u8 (rd l0 (n : Int)))
            go_upto_region 10 with (fail)
            obtain ⟨W3, hW3⟩ : ∃ W, W2.setCell ⟨w1.heap.size, 0, none⟩ (.int .u8 (rd l0 (n : Int))) = W := ⟨_, rfl⟩
            rw [hW3] at hb3 hct3 ⊢
            clear hW3
            obtain ⟨hq0, hq1, hq2⟩ := tok_cell hct3
            have hne5 : some w1.heap.size ≠ u5.ownBlock := fun e_ => by have := Kd.R_lt HO.out _ e_.symm; omega
            have HO3 := Aside0.mk (Kd.R_below HO.out hb3)
            have HB3 := Aside0.mk (HB.out.trans (hb3.mono HB.out.size))
            have HG3 := Aside0.mk (grp_below HG.out hb3)
            have hs3 := hb3.size
            obtain ⟨inner5, hio5⟩ := Kd.R_own HO3.out
            have HTY := Aside0.mk (fun j (hj : u5.ownBlock = some j) => own_typed hio5 j hj)
            clear hio5
            have HQ2 := Aside0.mk hq2
            go_upto_region 11 with (first | ((with_reducible refine gate_builtin (b := .append) (xs := #[.tmp 28, .tmp 30]) rfl ?_); (try (refine gate_guard (by rfl) ?_; dsimp only)); at_builtin; refine Kd.R_append k40 (w0 := w) w.heap.size rfl (.tmp 28) (.tmp 30) 36 40 (.agg #[(.int .u8 0), (.int .i64 0), (.int .i64 0)]) 24 rfl Try.underlying36 info40 rfl (by decide) (by omega) u5 o (⟨(rd l0 (n : Int)), t1, 0⟩ : S40) [.int .u8 (rd l0 (n : Int)), .int .i64 t1, .int .i64 0] (fun _ => True) (fun _ => False) rfl rfl ?aP (fun _ hk => hk.elim) ?aF ?aO ?aB ?aS ?aL ?_; (case aP => exact k40_mkM _ _ _ (⟨(rd l0 (n : Int)), t1, 0⟩ : S40)); (case aB => exact (by repeat (first | (with_reducible first | exact HB3.out | apply below_alloc | apply pw_below_drewN | apply below_drew1) | exact HB3.out))); (case aF => exact (fun _ _ => trivial)); (case aO => exact (by (with_reducible repeat (first | apply Kd.R_alloc | apply Kd.R_drewN | apply Kd.R_drew)); exact HO3.out)); (case aS => exact (below_size (by repeat (first | (with_reducible first | exact HB3.out | apply below_alloc | apply pw_below_drewN | apply below_drew1) | exact HB3.out)))); (case aL => have := HN.out.2.2; omega); intro v106 w4 ho hb hg hat; have HF2 := cell_grown hg HQ2.out hne5; have HB4 := Aside0.mk hb; have HO4 := Aside0.mk ho; have HGW := Aside0.mk hg; clear ho hb hg hat))
            have hG4 := Aside0.mk (grp_other HG3.out HGW.out (fun j hj _ => by obtain ⟨cells, hc⟩ := HTY.out j hj; exact ⟨cells, 40, (0, 0), hc, by decide⟩))
            have hs4 := HGW.out.size
            have hs0 := HS.out
            have HS4 := Aside0.mk (show w.heap.size + 1 ≤ w4.heap.size by omega)
            go_wp2
            go_loopw [6, 35] (fun v6 v35 wr => ∃ j : Nat, v6 = .int .i64 ((n + j : Nat) : Int) ∧ v35 = .int .i64 (j : Int) ∧ Aside0 (j ≤ 1) ∧ Aside0 (Kd.R k40 40 wr w.heap.size (fun _ => True) v106 (o ++ [(⟨(rd l0 (n : Int)), t1, 0⟩ : S40)])) ∧ Aside0 (Below w.heap.size w wr) ∧ Aside0 (Grp wr (w.heap.size + 1) w.heap.size l0 (n + j)) ∧ Aside0 (w.heap.size + 1 ≤ wr.heap.size))
              (fun v6 v35 _ => 1 - (intOf v35).toNat)
            case atStart => exact ⟨0, rfl, rfl, ⟨Nat.zero_le _⟩, HO4, HB4, hG4, HS4⟩
            case round =>
              obtain ⟨j, rfl, rfl, HJ, HOj, HBj, HGj, HSj⟩ := hrel
              have hnm : (n : Int) + 0 ≤ (l0.length : Int) := HN.out.2.1
              by_cases hj : j < 1
              · have e1_ : decide ((j : Int) < 1) = true := decide_eq_true (by omega)
                have hj4 : j ≤ 4096 := by omega
                have hnj : n + j ≤ 4096 := by omega
                go_wp2_with (first | ((with_reducible refine gate_callee (f := 50) rfl ?_); refine goesL_ (some 40) rfl rfl Try.func50 (by kernel_rfl) rfl #[.map (some w.heap.size), .slice (some ad1) l0.length c0, .int .i64 ((n + j : Nat) : Int)] rfl (by (try simp only [List.map_toArray, List.map_cons, List.map_nil]); first | done | rfl) ?_; refine (finder_note.calls (some ad1) c0 l0 (w.heap.size + 1) w.heap.size (n + j) w wr HBj.out (Nat.le_refl _) HSj.out (Kd.C_below HR0.out HBj.out) HC0.out hl4 hby (by omega) HGj.out).mono ?_; rintro e w5 ⟨rfl, hgn, hbn, hon⟩; refine ⟨_, rfl, ?_⟩; have HGN := Aside0.mk hgn; have HBN := Aside0.mk hbn; have HON := Aside0.mk hon; clear hgn hbn hon))
                go_roundw
                case measure => exact meas_ _ _ hj
                case rel => exact ⟨j + 1, congrArg (Value.int .i64) (by omega), rfl, ⟨by omega⟩, ⟨others_R HOj.out HON.out⟩, HBN, HGN, ⟨Nat.le_trans HSj.out HON.out.1⟩⟩
              · have e1_ : decide ((j : Int) < 1) = false := decide_eq_false (by omega)
                obtain rfl : j = 1 := by have := HJ.out; omega
                go_wp2
                go_roundg k1
                case measure => have := HK1.out; omega
                case rel => exact ⟨_, _, rfl, HR, ⟨by have := HK1.out; omega⟩, HOj, HBj, HGj, HSj⟩
          · dsimp only at H
            rw [if_neg (show ¬ ((m : Int)) = 0 by omega)] at H
            rw [Int.toNat_natCast] at H
            have HR := Aside0.mk H
            clear H
            go_upto_region 8 with (first
              | ((with_reducible refine gate_callee (f := 49) rfl ?_); refine goesL_ (some 19) rfl rfl Try.func49 (by kernel_rfl) rfl #[.map (some w.heap.size), .slice A0 l0.length c0, .int .i64 (n : Int)] rfl (by (try simp only [List.map_toArray, List.map_cons, List.map_nil]); first | done | rfl) ?_; refine (finder_best.calls k1 A0 c0 l0 (w.heap.size + 1) w.heap.size n _ _ (Kd.C_below HR0.out HB.out) HC0.out hl4 hby c2 HG.out HT.out).mono ?_; rintro e w1 ⟨rfl, hb1⟩; refine ⟨_, rfl, ?_⟩; have HB1 := Aside0.mk hb1; clear hb1))
            have hw1 : wo.heap.size ≤ w1.heap.size := HB1.out.size
            obtain ⟨W2, hW2⟩ : ∃ W, w1.alloc (Obj.cells #[Value.int .u8 0, Value.int .i64 t1, Value.int .i64 (m : Int)] 40) = W := ⟨_, rfl⟩
            rw [hW2]
            have hct : W2.heap[w1.heap.size]? = some (.cells #[Value.int .u8 0, Value.int .i64 t1, Value.int .i64 (m : Int)] 40 (0, 0)) := by rw [← hW2]; exact heap_alloc_new _ _
            have hb2 : Below wo.heap.size wo W2 := by rw [← hW2]; exact below_alloc HB1.out _
            clear hW2
            obtain ⟨hk0, hk1, hk2⟩ := tok_cell hct
            have hf0 := blk_frozen hct 0
            have g0_ : ((m : Int) == 0) = false := beq_eq_false_iff_ne.mpr (by omega)
            have hb3 := hb2
            have hct3 := hct
            obtain ⟨hq0, hq1, hq2⟩ := tok_cell hct3
            have hne5 : some w1.heap.size ≠ u5.ownBlock := fun e_ => by have := Kd.R_lt HO.out _ e_.symm; omega
            have HO3 := Aside0.mk (Kd.R_below HO.out hb3)
            have HB3 := Aside0.mk (HB.out.trans (hb3.mono HB.out.size))
            have HG3 := Aside0.mk (grp_below HG.out hb3)
            have hs3 := hb3.size
            obtain ⟨inner5, hio5⟩ := Kd.R_own HO3.out
            have HTY := Aside0.mk (fun j (hj : u5.ownBlock = some j) => own_typed hio5 j hj)
            clear hio5
            have HQ2 := Aside0.mk hq2
            go_upto_region 11 with (first | ((with_reducible refine gate_builtin (b := .append) (xs := #[.tmp 28, .tmp 30]) rfl ?_); (try (refine gate_guard (by rfl) ?_; dsimp only)); at_builtin; refine Kd.R_append k40 (w0 := w) w.heap.size rfl (.tmp 28) (.tmp 30) 36 40 (.agg #[(.int .u8 0), (.int .i64 0), (.int .i64 0)]) 24 rfl Try.underlying36 info40 rfl (by decide) (by omega) u5 o (⟨0, t1, (m : Int)⟩ : S40) [.int .u8 0, .int .i64 t1, .int .i64 (m : Int)] (fun _ => True) (fun _ => False) rfl rfl ?aP (fun _ hk => hk.elim) ?aF ?aO ?aB ?aS ?aL ?_; (case aP => exact k40_mkM _ _ _ (⟨0, t1, (m : Int)⟩ : S40)); (case aB => exact (by repeat (first | (with_reducible first | exact HB3.out | apply below_alloc | apply pw_below_drewN | apply below_drew1) | exact HB3.out))); (case aF => exact (fun _ _ => trivial)); (case aO => exact (by (with_reducible repeat (first | apply Kd.R_alloc | apply Kd.R_drewN | apply Kd.R_drew)); exact HO3.out)); (case aS => exact (below_size (by repeat (first | (with_reducible first | exact HB3.out | apply below_alloc | apply pw_below_drewN | apply below_drew1) | exact HB3.out)))); (case aL => have := HN.out.2.2; omega); intro v106 w4 ho hb hg hat; have HF2 := cell_grown hg HQ2.out hne5; have HB4 := Aside0.mk hb; have HO4 := Aside0.mk ho; have HGW := Aside0.mk hg; clear ho hb hg hat))
            have hG4 := Aside0.mk (grp_other HG3.out HGW.out (fun j hj _ => by obtain ⟨cells, hc⟩ := HTY.out j hj; exact ⟨cells, 40, (0, 0), hc, by decide⟩))
            have hs4 := HGW.out.size
            have hs0 := HS.out
            have HS4 := Aside0.mk (show w.heap.size + 1 ≤ w4.heap.size by omega)
            have hmx : max (m : Int) 1 = (m : Int) := by omega
            go_wp2
            go_loopw [6, 35] (fun v6 v35 wr => ∃ j : Nat, v6 = .int .i64 ((n + j : Nat) : Int) ∧ v35 = .int .i64 (j : Int) ∧ Aside0 (j ≤ m) ∧ Aside0 (Kd.R k40 40 wr w.heap.size (fun _ => True) v106 (o ++ [(⟨0, t1, (m : Int)⟩ : S40)])) ∧ Aside0 (Below w.heap.size w wr) ∧ Aside0 (Grp wr (w.heap.size + 1) w.heap.size l0 (n + j)) ∧ Aside0 (w.heap.size + 1 ≤ wr.heap.size))
              (fun v6 v35 _ => m - (intOf v35).toNat)
            case atStart => exact ⟨0, rfl, rfl, ⟨Nat.zero_le _⟩, HO4, HB4, hG4, HS4⟩
            case round =>
              obtain ⟨j, rfl, rfl, HJ, HOj, HBj, HGj, HSj⟩ := hrel
              have hnm : (n : Int) + (m : Int) ≤ (l0.length : Int) := HN.out.2.1
              by_cases hj : j < m
              · have e1_ : decide ((j : Int) < (m : Int)) = true := decide_eq_true (by omega)
                have hj4 : j ≤ 4096 := by omega
                have hnj : n + j ≤ 4096 := by omega
                go_wp2_with (first | ((with_reducible refine gate_callee (f := 50) rfl ?_); refine goesL_ (some 40) rfl rfl Try.func50 (by kernel_rfl) rfl #[.map (some w.heap.size), .slice A0 l0.length c0, .int .i64 ((n + j : Nat) : Int)] rfl (by (try simp only [List.map_toArray, List.map_cons, List.map_nil]); first | done | rfl) ?_; refine (finder_note.calls A0 c0 l0 (w.heap.size + 1) w.heap.size (n + j) w wr HBj.out (Nat.le_refl _) HSj.out (Kd.C_below HR0.out HBj.out) HC0.out hl4 hby (by omega) HGj.out).mono ?_; rintro e w5 ⟨rfl, hgn, hbn, hon⟩; refine ⟨_, rfl, ?_⟩; have HGN := Aside0.mk hgn; have HBN := Aside0.mk hbn; have HON := Aside0.mk hon; clear hgn hbn hon))
                go_roundw
                case measure => exact meas_ _ _ hj
                case rel => exact ⟨j + 1, congrArg (Value.int .i64) (by omega), rfl, ⟨by omega⟩, ⟨others_R HOj.out HON.out⟩, HBN, HGN, ⟨Nat.le_trans HSj.out HON.out.1⟩⟩
              · have e1_ : decide ((j : Int) < (m : Int)) = false := decide_eq_false (by omega)
                obtain rfl : j = m := by have := HJ.out; omega
                go_wp2
                go_roundg k1
                case measure => have := HK1.out; omega
                case rel => exact ⟨_, _, rfl, HR, ⟨by have := HK1.out; omega⟩, HOj, HBj, HGj, HSj⟩
        · rw [if_neg c2] at H
          simp only [Option.some.injEq, Prod.mk.injEq] at H
          obtain ⟨rfl, rfl⟩ := H
          have c2_ : decide ((n : Int) < (l0.length : Int)) = false := decide_eq_false (by omega)
          have c3_ : decide (n < l0.length) = false := decide_eq_false c2
          clear c2
          go_wp2
          go_ret2
          exact ⟨_, rfl, HO.out, HB.out⟩
theorem pickB_mono (k : Nat) (l : List Int) (n : Nat) : ∀ (zs : List Int) (s : Int × Int), LeO (pickB k l n zs s) (pickB (k + 1) l n zs s) := by
  intro zs
  induction zs with
  | nil => intro s; exact LeO.refl _
  | cons z zs ih =>
    intro s
    unfold pickB
    exact LeO.ite (LeO.bind (lz_run.mono _ _ _ _) (fun m => ih _)) (LeO.refl _)
theorem finder_best.mono (k : Nat) (l : List Int) (n : Nat) : LeO (finder_best.f k l n) (finder_best.f (k + 1) l n) := by
  unfold finder_best.f
  exact LeO.ite (pickB_mono _ _ _ _ _) (LeO.refl _)
theorem lz_Parse.mono_l : ∀ (k : Nat) (y0 : List Int) (y1 : List S40) (y2 : Nat), LeO (lz_Parse.l0 k y0 y1 y2) (lz_Parse.l0 (k + 1) y0 y1 y2) := by
  intro k
  induction k with
  | zero => intro y0 y1 y2; exact LeO.none _
  | succ k ih =>
    intro y0 y1 y2
    rw [lz_Parse.l0.eq_def (k + 1 + 1) y0 y1 y2, lz_Parse.l0.eq_def (k + 1) y0 y1 y2]
    dsimp only
    exact LeO.ite (LeO.bind (finder_best.mono _ _ _) (fun t => LeO.ite (LeO.ite (ih _ _ _) (ih _ _ _)) (LeO.none _))) (LeO.refl _)
theorem lz_Parse.mono : ∀ a0 k, LeO (lz_Parse.f k a0) (lz_Parse.f (k + 1) a0) := by
  intro a0 k
  unfold lz_Parse.f
  exact LeO.ite (LeO.ite (LeO.refl _) (lz_Parse.mono_l _ _ _ _)) (LeO.none _)
end

end Go.Proofs.Ytjhmjgcebijmiaa.HLzParses
