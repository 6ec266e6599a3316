/- Arguments that are rows of rows, and tables: proved of every program. -/
import Derived.Test.YtjcbhnlcbdmlfaaQBridge
import Derived.Deep.Matrix
import Derived.Lib.SmallJoins
import Derived.Test.YtjcbhnlcbdmlfaaQBy
set_option linter.unusedVariables false
set_option linter.unusedSimpArgs false
namespace Go.Q
open Go.ChangeShapes Go.WideShapes Go.RowKit Go.Joins

section
variable {H : Type} {enc : TypeId × Value → H} {P : Program} {W : World}

theorem weights_all {e : TypeId} {l : List (DataW H)} {d : DataW H} (hd : d ∈ l) {n : Nat} (hn : n ∈ d.weights P e) : n ∈ DataW.weightsAll P e l := by
  induction l with
  | nil => cases hd
  | cons x l ih =>
    rw [DataW.weightsAll]
    rcases List.mem_cons.1 hd with rfl | hd
    · exact List.mem_append_left _ hn
    · exact List.mem_append_right _ (ih hd)

theorem rows_of_trod {t e q : TypeId} {fuel : Nat} {cs : List Value} {d : DataW H} {ps : List MemPlace} (ht : P.underlying t = some (.slice e)) (he : P.underlying e = some (.slice q)) (hq : P.underlying q = some (.int .i64)) (ce : P.cellsOf e = 1) (cq : P.cellsOf q = 1) (be : P.bytesOf e = 24) (bq : P.bytesOf q = 8)
    (h : DataW.trod enc P W 0 (fun _ => true) true fuel t cs = some (d, ps)) (hsz : ∀ n ∈ d.weights P t, n ≤ reachBytes) : ∃ xs, relL [dRows xs] (immOf W) cs := by
  rcases Go.Deep.open_int_rows ht he hq ce cq h with ⟨rfl, _⟩ | ⟨a, len, cap, A, L, C, Z, rfl, _, h1, h2, h4, h5⟩
  · exact ⟨[], d_nil _ _ rfl, trivial⟩
  · injection h4 with h4 _
    subst h4
    have h9 : reachBytes = 140737488351232 := rfl
    have h7 := hsz ((len + (cap - len)) * P.bytesOf e) (by simp [DataW.weights, ht])
    rw [be] at h7
    have hrow : ∀ r, r < len → (dInts ((Z r).take (L r))).rel (immOf W) (.slice (A r) (L r) (C r)) := by
      intro r hr
      obtain ⟨g1, g2, g3, g4, _, g6, g7⟩ := h5 r (by omega)
      cases hA : A r with
      | none =>
        have hC := g6 hA
        have hL : L r = 0 := by omega
        rw [hL, hC]
        exact d_nil _ _ rfl
      | some a' =>
        have hw : ((Z r).length) * 8 ≤ reachBytes := by
          refine hsz _ ?_
          simp only [DataW.weights, ht, List.mem_cons, List.mem_append]
          refine .inr (.inl (weights_all (d := Go.Deep.intRow .i64 (A r) (L r) (Z r)) (List.mem_map.2 ⟨r, List.mem_range.2 hr, rfl⟩) ?_))
          rw [hA]
          have hll : (lits (H := H) .i64 ((Z r).take (L r))).length + (lits (H := H) .i64 ((Z r).drop (L r))).length = (Z r).length := by simp [lits]; omega
          simp only [Go.Deep.intRow, DataW.weights, he, List.mem_cons]
          exact .inl (by rw [hll, bq])
        obtain ⟨_, hcell⟩ := g7 a' hA
        refine ⟨some a', C r, by rw [List.length_take, g4, Nat.min_eq_left g2], by rw [List.length_take]; omega, g3, by rw [List.length_take]; unfold lenMax; omega, fun i x hx => ?_⟩
        have hi : i < L r ∧ (Z r)[i]? = some x := by
          rw [List.getElem?_take] at hx
          split at hx
          · rename_i h; exact ⟨h, hx⟩
          · cases hx
        have hs0 : a'.spot = none := (at_of_cell (d := dTop) (hcell 0 (by omega)) trivial).1
        refine ⟨rfl, a', rfl, hs0, ?_⟩
        rw [Nat.mul_one]
        refine at_of_cell (hcell i (by omega)) ?_
        show _ = _
        rw [List.getD_eq_getElem?_getD, hi.2]
        rfl
    refine ⟨(List.range len).map fun r => (Z r).take (L r), ⟨some a, cap, by simp, by simp; omega, h2, by simp; unfold lenMax; omega, fun i x hx => ?_⟩, trivial⟩
    have hi : i < len ∧ x = (Z i).take (L i) := by
      rw [List.getElem?_map] at hx
      have hlt : i < len := by
        by_cases c : i < len
        · exact c
        · rw [List.getElem?_eq_none (by simp; omega)] at hx; cases hx
      rw [List.getElem?_range hlt] at hx
      exact ⟨hlt, by simpa using hx.symm⟩
    have hs0 : a.spot = none := (at_of_cell (d := dTop) (h5 0 (by omega)).1 trivial).1
    refine ⟨rfl, a, rfl, hs0, ?_⟩
    rw [Nat.mul_one, hi.2]
    exact at_of_cell (h5 i (by omega)).1 (hrow i hi.1)

theorem arg_rows {r : Reach} {b0 : Nat} {t e q : TypeId} {v : Value} {d : DataW H} {ps : List MemPlace} (ht : P.underlying t = some (.slice e)) (he : P.underlying e = some (.slice q)) (hq : P.underlying q = some (.int .i64)) (ce : P.cellsOf e = 1) (cq : P.cellsOf q = 1) (be : P.bytesOf e = 24) (bq : P.bytesOf q = 8)
    (hval : Value.okWide P W r b0 t v) (hd : DataW.Trod enc P W 0 (fun _ => true) true t v d ps) (hsz : ∀ n ∈ d.weights P t, n ≤ reachBytes) : ∃ xs, (dRows xs).rel (immOf W) v := by
  obtain ⟨a, len, cap, rfl⟩ := okWide_slice ht hval
  obtain ⟨fuel, hf⟩ := hd
  obtain ⟨xs, h, _⟩ := rows_of_trod ht he hq ce cq be bq hf hsz
  exact ⟨xs, h⟩

/-- The rows of a table's type: a number, a struct of one number, a number, rows of rows. -/
structure TabTy (P : Program) (t e q : TypeId) (f0 f1 f2 f3 g : Field) : Prop where
  s : P.underlying t = some (.struct #[f0, f1, f2, f3])
  c : P.cellsOf t = 4
  i0 : P.underlying f0.type = some (.int .i64) ∧ f0.offset = 0 ∧ P.cellsOf f0.type = 1
  i1 : P.underlying f1.type = some (.struct #[g]) ∧ f1.offset = 1 ∧ P.cellsOf f1.type = 1
  i2 : P.underlying f2.type = some (.int .i64) ∧ f2.offset = 2 ∧ P.cellsOf f2.type = 1
  i3 : P.underlying f3.type = some (.slice e) ∧ f3.offset = 3 ∧ P.cellsOf f3.type = 1
  ig : P.underlying g.type = some (.int .i64) ∧ g.offset = 0 ∧ P.cellsOf g.type = 1
  he : P.underlying e = some (.slice q)
  hq : P.underlying q = some (.int .i64)
  ce : P.cellsOf e = 1
  cq : P.cellsOf q = 1
  be : P.bytesOf e = 24
  bq : P.bytesOf q = 8

theorem arg_tab {r : Reach} {b0 : Nat} {t e q : TypeId} {f0 f1 f2 f3 g : Field} {v : Value} {d : DataW H} {ps : List MemPlace} (ho : TabTy P t e q f0 f1 f2 f3 g)
    (hval : Value.okWide P W r b0 t v) (hd : DataW.Trod enc P W 0 (fun _ => true) true t v d ps) (hsz : ∀ n ∈ d.weights P t, n ≤ reachBytes) : ∃ x : Tab, (dTab x).rel (immOf W) v := by
  obtain ⟨cs, rfl, hc⟩ := okWide_struct ho.s hval
  obtain ⟨c0, c1, c2, c3, rfl⟩ := array4 (hc.trans ho.c)
  obtain ⟨fuel, hf⟩ := hd
  obtain ⟨y0, y1, y2, y3, n, hx, _, h0, h1, h2, h3⟩ := trod_struct4 ho.s hf
  simp only [Prod.mk.injEq] at hx
  obtain ⟨rfl, _⟩ := hx
  rw [ho.i0.2.1, ho.i0.2.2] at h0
  rw [ho.i1.2.1, ho.i1.2.2] at h1
  rw [ho.i2.2.1, ho.i2.2.2] at h2
  rw [ho.i3.2.1, ho.i3.2.2] at h3
  obtain ⟨a, ha, _⟩ := DataW.trod_int ho.i0.1 h0
  obtain ⟨w, hw, _⟩ := DataW.trod_int ho.i2.1 h2
  obtain ⟨xs, m, _, _, _, hl, hg⟩ := DataW.trod_struct ho.i1.1 h1
  have hg0 := hg 0 g rfl
  rw [ho.ig.2.1, ho.ig.2.2, List.getElem?_eq_getElem (by rw [hl]; exact Nat.one_pos)] at hg0
  obtain ⟨p, hp, _⟩ := DataW.trod_int ho.ig.1 hg0
  obtain ⟨rows, hrows⟩ := rows_of_trod (enc := enc) (d := y3.1) (ps := y3.2) ho.i3.1 ho.he ho.hq ho.ce ho.cq ho.be ho.bq h3 (fun n hn => hsz n (by
    simp only [DataW.weights, ho.s]
    exact DataW.weights_mem_each (j := 3) rfl rfl n hn))
  simp [Value.cells] at ha hw hp hrows
  refine ⟨⟨a, p, w, rows⟩, _, rfl, ?_⟩
  exact ⟨ha, hp, hw, hrows⟩

def isI (P : Program) (fd : Field) (j : Nat) : Bool := (match P.underlying fd.type with | some (.int .i64) => true | _ => false) && Nat.beq fd.offset j && Nat.beq (P.cellsOf fd.type) 1
theorem isI_ok {fd : Field} {j : Nat} (h : isI P fd j = true) : P.underlying fd.type = some (.int .i64) ∧ fd.offset = j ∧ P.cellsOf fd.type = 1 := by
  simp only [isI, Bool.and_eq_true] at h
  refine ⟨?_, Nat.eq_of_beq_eq_true h.1.2, Nat.eq_of_beq_eq_true h.2⟩
  have h1 := h.1.1
  split at h1
  · assumption
  · cases h1

def fieldsOf (P : Program) (t : TypeId) : List Field := match P.underlying t with | some (.struct fs) => fs.toList | _ => []
def elemOf (P : Program) (t : TypeId) : Option TypeId := match P.underlying t with | some (.slice e) => some e | _ => none
theorem fieldsOf_ok {t : TypeId} {f : Field} {fs : List Field} (h : fieldsOf P t = f :: fs) : P.underlying t = some (.struct (f :: fs).toArray) := by
  unfold fieldsOf at h
  split at h
  · rename_i gs hg
    rw [hg, ← h]
  · cases h
theorem elemOf_ok {t e : TypeId} (h : elemOf P t = some e) : P.underlying t = some (.slice e) := by
  unfold elemOf at h
  split at h
  · rename_i e' he; injection h with h; rw [he, h]
  · cases h

def tabOk (P : Program) (t : TypeId) : Bool :=
  match fieldsOf P t with
  | [f0, f1, f2, f3] =>
    match fieldsOf P f1.type with
    | [g] =>
      match elemOf P f3.type with
      | some e =>
        match elemOf P e with
        | some q =>
          (match P.underlying q with | some (.int .i64) => true | _ => false) && (isI P f0 0 && (isI P f2 2 && (isI P g 0 && (Nat.beq f1.offset 1 && (Nat.beq (P.cellsOf f1.type) 1 && (Nat.beq f3.offset 3 && (Nat.beq (P.cellsOf f3.type) 1 &&
            (Nat.beq (P.cellsOf t) 4 && (Nat.beq (P.cellsOf e) 1 && (Nat.beq (P.cellsOf q) 1 && (Nat.beq (P.bytesOf e) 24 && Nat.beq (P.bytesOf q) 8)))))))))))
        | none => false
      | none => false
    | _ => false
  | _ => false

theorem arg_table {r : Reach} {b0 : Nat} {t : TypeId} {v : Value} {d : DataW H} {ps : List MemPlace} (ho : tabOk P t = true)
    (hval : Value.okWide P W r b0 t v) (hd : DataW.Trod enc P W 0 (fun _ => true) true t v d ps) (hsz : ∀ n ∈ d.weights P t, n ≤ reachBytes) : ∃ x : Tab, (dTab x).rel (immOf W) v := by
  unfold tabOk at ho
  split at ho
  · rename_i f0 f1 f2 f3 h1
    split at ho
    · rename_i g h2
      split at ho
      · rename_i e h3
        split at ho
        · rename_i q h4
          simp only [Bool.and_eq_true] at ho
          obtain ⟨a1, a2, a3, a4, a5, a6, a7, a8, a9, a10, a11, a12, a13⟩ := ho
          have hq : P.underlying q = some (.int .i64) := by
            split at a1
            · assumption
            · cases a1
          have n := @Nat.eq_of_beq_eq_true
          exact arg_tab ⟨fieldsOf_ok h1, n a9, isI_ok a2, ⟨fieldsOf_ok h2, n a5, n a6⟩, isI_ok a3, ⟨elemOf_ok h3, n a7, n a8⟩, isI_ok a4, elemOf_ok h4, hq, n a10, n a11, n a12, n a13⟩ hval hd hsz
        · cases ho
      · cases ho
    · cases ho
  · cases ho

end
end Go.Q

namespace Go.Q
open Go.ChangeShapes Go.WideShapes Go.RowKit

/-- A value of the type t, however it was laid, is told by some x. -/
def ArgOk (P : Program) (t : TypeId) {α : Type} (p : α → Prop) (c : α → List D) : Prop :=
  ∀ (H : Type) (enc : TypeId × Value → H) (W : World) (fuel : Nat) (cs : List Value) (d : DataW H) (ps : List MemPlace), DataW.trod enc P W 0 (fun _ => true) true fuel t cs = some (d, ps) →
    (∀ n ∈ d.weights P t, n ≤ reachBytes) → ∃ x, p x ∧ relL (c x) (immOf W) cs

variable {P : Program} {t e : TypeId} {α β : Type}

theorem ArgOk.map {p : α → Prop} {c : α → List D} {q : β → Prop} {c' : β → List D} (h : ArgOk P t p c) (f : α → β) (hp : ∀ x, p x → q (f x)) (hc : ∀ x, c x = c' (f x)) : ArgOk P t q c' := fun H enc W fuel cs d ps ht hw =>
  let ⟨x, h1, h2⟩ := h H enc W fuel cs d ps ht hw
  ⟨f x, hp x h1, hc x ▸ h2⟩

theorem ArgOk.int {k : IntKind} (ht : P.underlying t = some (.int k)) : ArgOk P t (fun n => (Lit.int k n).wf = true) (fun n => [dInt k n]) := fun H enc W fuel cs d ps h hw => by
  obtain ⟨n, rfl, _, hn⟩ := DataW.trod_int ht h
  exact ⟨n, hn, rfl, trivial⟩

theorem ArgOk.bool (ht : P.underlying t = some .bool) : ArgOk P t (fun _ => True) (fun b : Bool => [dB (b = true)]) := fun H enc W fuel cs d ps h hw => by
  obtain ⟨b, rfl, _⟩ := DataW.trod_bool ht h
  exact ⟨b, trivial, ⟨b, rfl, Iff.rfl⟩, trivial⟩

theorem cells_of {W : World} {a : Addr} {n : Nat} {vs : List Value} (h : W.cells? 0 a n = some vs) : vs.length = n ∧ ∀ i v, vs[i]? = some v → W.cell? (a.add i) = some v := by
  unfold World.cells? at h
  rw [if_pos (Nat.zero_le _)] at h
  have h1 := mapM_some_length h
  rw [List.length_range] at h1
  refine ⟨h1, fun i v hv => ?_⟩
  have hi : i < n := by rw [← h1]; exact (List.getElem?_eq_some_iff.1 hv).1
  have := mapM_some_get h i i (by simp [hi])
  rw [← hv, ← this]

theorem add_add (a : Addr) (h : a.spot = none) (i j : Nat) : (a.add i).add j = a.add (i + j) := by
  obtain ⟨b, o, s⟩ := a
  simp only at h
  subst h
  rw [Addr.add_lit, Addr.add_lit, Addr.add_lit]
  congr 1
  omega

/-- Cells that are there, one behind the other. -/
theorem at_of_cells {w : World} {a : Addr} {ds : List D} {vs : List Value} (hs : a.spot = none) (hl : vs ≠ []) (hv : ∀ i v, vs[i]? = some v → w.cell? (a.add i) = some v) (hr : relL ds (immOf w) vs) : (immOf w).at a ds := by
  obtain ⟨b, o, s⟩ := a
  simp only at hs
  subst hs
  have hcell : ∀ i v, vs[i]? = some v → w.cell? ⟨b, o + i, none⟩ = some v := fun i v h => by have := hv i v h; rwa [Addr.add_lit] at this
  cases vs with
  | nil => exact absurd rfl hl
  | cons v0 vs =>
    have h0 := hcell 0 v0 rfl
    unfold World.cell? at h0
    simp only at h0
    split at h0
    · rename_i cs T fz hb
      refine ⟨rfl, cs, T, fz, hb, ?_⟩
      have hlen := relL_length hr
      have : (cs.toList.drop o).take ds.length = v0 :: vs := by
        apply List.ext_getElem?
        intro i
        by_cases hi : i < (v0 :: vs).length
        · have h1 := hcell i ((v0 :: vs)[i]) (List.getElem?_eq_getElem hi)
          simp only [World.cell?, hb] at h1
          rw [List.getElem?_take, if_pos (by omega), List.getElem?_drop, Array.getElem?_toList, List.getElem?_eq_getElem hi]
          simpa using h1
        · rw [List.getElem?_eq_none (by rw [List.length_take]; omega), List.getElem?_eq_none (by omega)]
      show relL ds _ ((cs.toList.drop o).take ds.length)
      rw [this]
      exact hr
    · cases h0

theorem list_choose {Q : Nat → α → Prop} {n : Nat} (h : ∀ i, i < n → ∃ x, Q i x) : ∃ xs : List α, xs.length = n ∧ ∀ i x, xs[i]? = some x → Q i x := by
  refine ⟨List.ofFn fun i : Fin n => Classical.choose (h i.1 i.2), by simp, fun i x hx => ?_⟩
  have hi : i < n := by have := (List.getElem?_eq_some_iff.1 hx).1; simpa using this
  rw [List.getElem?_ofFn, dif_pos hi] at hx
  injection hx with hx
  rw [← hx]
  exact Classical.choose_spec (h i hi)

theorem spot_add (a : Addr) (h : a.spot = none) (i : Nat) : (a.add i).spot = none := by
  obtain ⟨b, o, s⟩ := a
  simp only at h
  subst h
  rw [Addr.add_lit]

/-- A slice, whatever its elements are. -/
theorem ArgOk.slice {p : α → Prop} {c : α → List D} {n : Nat} (ht : P.underlying t = some (.slice e)) (he : ArgOk P e p c) (hn : P.cellsOf e = n) (hn0 : n ≠ 0) (hb : 8 ≤ P.bytesOf e) (hc : ∀ x, (c x).length = n) :
    ArgOk P t (fun xs : List α => ∀ x ∈ xs, p x) (fun xs => [dSl n c xs]) := fun H enc W fuel cs d ps h hw => by
  subst hn
  rcases DataW.trod_slice ht h with ⟨rfl, _⟩ | ⟨a, len, cap, elems, rest, m, _, rfl, hx, _, h1, h2, h3, h4, _, _⟩
  · exact ⟨[], (fun x hx => by cases hx), d_nil _ _ rfl, trivial⟩
  · injection hx with hx _
    subst hx
    have hlen : len ≤ lenMax := by
      have h7 := hw ((elems.length + rest.length) * P.bytesOf e) (by simp [DataW.weights, ht])
      have h9 : reachBytes = 140737488351232 := rfl
      have h10 := Nat.mul_le_mul_left (elems.length + rest.length) hb
      unfold lenMax
      omega
    have hel : ∀ i, i < len → ∃ x, p x ∧ ∃ vs, W.cells? 0 (a.add (i * P.cellsOf e)) (P.cellsOf e) = some vs ∧ relL (c x) (immOf W) vs := by
      intro i hi
      have h5 := h4 i hi
      rw [List.getElem?_eq_getElem (by omega)] at h5
      obtain ⟨vs, h6, h7⟩ := Option.bind_eq_some_iff.1 h5
      obtain ⟨x, h8, h9⟩ := he H enc W m vs _ _ h7 (fun k hk => hw k (by
        simp only [DataW.weights, ht, List.mem_cons, List.mem_append]
        exact .inr (.inl (weights_all (d := elems[i].1) (List.mem_map.2 ⟨elems[i], List.getElem_mem .., rfl⟩) hk))))
      exact ⟨x, h8, vs, h6, h9⟩
    obtain ⟨xs, hxl, hxs⟩ := list_choose hel
    subst hxl
    refine ⟨xs, fun x hx => by obtain ⟨i, hi⟩ := List.getElem?_of_mem hx; exact (hxs i x hi).1, ⟨some a, cap, rfl, h1, h2, hlen, fun i x hi => ?_⟩, trivial⟩
    obtain ⟨_, vs, g1, g2⟩ := hxs i x hi
    have hne : ∀ {vs : List Value}, vs.length = P.cellsOf e → vs ≠ [] := fun h e0 => hn0 (by rw [← h, e0]; rfl)
    have hspot : a.spot = none := by
      have h0 : 0 < xs.length := by have := (List.getElem?_eq_some_iff.1 hi).1; omega
      obtain ⟨_, us, u1, _⟩ := hxs 0 xs[0] (List.getElem?_eq_getElem h0)
      obtain ⟨u2, u3⟩ := cells_of u1
      have := hne u2
      cases us with
      | nil => exact absurd rfl this
      | cons u us =>
        have := u3 0 u rfl
        rw [Nat.zero_mul, Addr.add_zero', Addr.add_zero'] at this
        exact (at_of_cell (d := dTop) this trivial).1
    obtain ⟨g3, g4⟩ := cells_of g1
    exact ⟨hc x, a, rfl, hspot, at_of_cells (spot_add a hspot _) (hne g3) g4 g2⟩

/-- The fields of a struct: place, cells, type. -/
def structB (P : Program) (t : TypeId) (l : List (Nat × Nat × TypeId)) : Bool :=
  match P.underlying t with
  | some (.struct fs) => (fs.toList.map fun f => (f.offset, P.cellsOf f.type, f.type)) == l && Nat.beq (P.cellsOf t) (l.foldr (fun x n => x.2.1 + n) 0)
  | _ => false

inductive FieldsOk (P : Program) : List (Nat × Nat × TypeId) → Nat → {α : Type} → (α → Prop) → (α → List D) → Prop where
  | nil {off : Nat} : FieldsOk P [] off (fun _ : Unit => True) (fun _ => [])
  | cons {off n : Nat} {t : TypeId} {l : List (Nat × Nat × TypeId)} {α β : Type} {p : α → Prop} {c : α → List D} {q : β → Prop} {c' : β → List D} : ArgOk P t p c → FieldsOk P l (off + n) q c' → FieldsOk P ((off, n, t) :: l) off (fun x : α × β => p x.1 ∧ q x.2) (fun x => c x.1 ++ c' x.2)

theorem FieldsOk.run {l : List (Nat × Nat × TypeId)} {off : Nat} {α : Type} {p : α → Prop} {c : α → List D} (h : FieldsOk P l off p c) (H : Type) (enc : TypeId × Value → H) (W : World) (m : Nat) (cs : List Value) (xs : List (DataW H × List MemPlace)) (hl : xs.length = l.length)
    (hx : ∀ (i o n : Nat) (t : TypeId), l[i]? = some (o, n, t) → DataW.trod enc P W 0 (fun _ => true) true m t ((cs.drop o).take n) = xs[i]?) (hw : ∀ (i o n : Nat) (t : TypeId) (y : DataW H × List MemPlace), l[i]? = some (o, n, t) → xs[i]? = some y → ∀ k ∈ y.1.weights P t, k ≤ reachBytes)
    (hsz : cs.length = off + l.foldr (fun x n => x.2.1 + n) 0) : ∃ x, p x ∧ relL (c x) (immOf W) (cs.drop off) := by
  induction h generalizing xs with
  | nil => exact ⟨(), trivial, by rw [List.drop_eq_nil_of_le (by simp at hsz; omega)]; trivial⟩
  | @cons off n t l α β p c q c' h1 _ ih =>
    cases xs with
    | nil => simp at hl
    | cons y ys =>
      have e1 := hx 0 off n t rfl
      obtain ⟨x, g1, g2⟩ := h1 H enc W m _ y.1 y.2 e1 (hw 0 off n t y rfl rfl)
      obtain ⟨x', g3, g4⟩ := ih ys (by simpa using hl) (fun i o n t hi => by have := hx (i + 1) o n t (by simpa using hi); simpa using this) (fun i o n t y hi hy => hw (i + 1) o n t y (by simpa using hi) (by simpa using hy)) (by rw [hsz]; simp only [List.foldr_cons]; omega)
      refine ⟨(x, x'), ⟨g1, g3⟩, ?_⟩
      have : cs.drop off = (cs.drop off).take n ++ cs.drop (off + n) := by rw [← List.drop_drop, List.take_append_drop]
      rw [this]
      exact relL_append g2 g4

theorem ArgOk.struct {l : List (Nat × Nat × TypeId)} {p : α → Prop} {c : α → List D} (hs : structB P t l = true) (hf : FieldsOk P l 0 p c) : ArgOk P t p c := fun H enc W fuel cs d ps h hw => by
  unfold structB at hs
  split at hs
  · rename_i fs ht
    simp only [Bool.and_eq_true] at hs
    have hl : (fs.toList.map fun (f : Field) => (f.offset, P.cellsOf f.type, f.type)) = l := eq_of_beq hs.1
    obtain ⟨xs, m, _, hx, hcl, hxl, hget⟩ := DataW.trod_struct ht h
    injection hx with hx _
    subst hx
    have hfl : ∀ (i o n : Nat) (t' : TypeId), l[i]? = some (o, n, t') → ∃ f : Field, fs[i]? = some f ∧ f.offset = o ∧ P.cellsOf f.type = n ∧ f.type = t' := by
      intro i o n t' hi
      rw [← hl, List.getElem?_map] at hi
      cases hf' : fs.toList[i]? with
      | none => rw [hf'] at hi; cases hi
      | some f =>
        rw [hf'] at hi
        simp only [Option.map_some, Option.some.injEq, Prod.mk.injEq] at hi
        exact ⟨f, by simpa using hf', hi.1, hi.2.1, hi.2.2⟩
    have := hf.run H enc W m cs xs (by rw [hxl, ← hl]; simp) (fun i o n t' hi => by
      obtain ⟨f, f1, f2, f3, f4⟩ := hfl i o n t' hi
      have := hget i f f1
      rwa [f2, f3, f4] at this) (fun i o n t' y hi hy k hk => by
      obtain ⟨f, f1, f2, f3, f4⟩ := hfl i o n t' hi
      refine hw k ?_
      simp only [DataW.weights, ht]
      refine DataW.weights_mem_each (j := i) (t := t') (d := y.1) ?_ ?_ k hk
      · rw [List.getElem?_map]; rw [show fs.toList[i]? = some f by simpa using f1]; rw [← f4]; rfl
      · rw [List.getElem?_map, hy]; rfl) (by rw [hcl, Nat.eq_of_beq_eq_true hs.2, Nat.zero_add])
    rwa [List.drop_zero] at this
  · cases hs

/-! ### At a law's argument -/

theorem arg_one {H : Type} {enc : TypeId × Value → H} {W : World} {r : Reach} {b0 : Nat} {v : Value} {d : DataW H} {ps : List MemPlace} {p : α → Prop} {dd : α → D} (h : ArgOk P t p (fun x => [dd x])) (ht : P.underlying t = some (.slice e))
    (hval : Value.okWide P W r b0 t v) (hd : DataW.Trod enc P W 0 (fun _ => true) true t v d ps) (hsz : ∀ n ∈ d.weights P t, n ≤ reachBytes) : ∃ x, p x ∧ (dd x).rel (immOf W) v := by
  obtain ⟨a, len, cap, rfl⟩ := okWide_slice ht hval
  obtain ⟨fuel, hf⟩ := hd
  obtain ⟨x, h1, h2, _⟩ := h H enc W fuel _ d ps hf hsz
  exact ⟨x, h1, h2⟩

def isStruct (P : Program) (t : TypeId) : Bool := match P.underlying t with | some (.struct _) => true | _ => false
theorem arg_struct {H : Type} {enc : TypeId × Value → H} {W : World} {r : Reach} {b0 : Nat} {v : Value} {d : DataW H} {ps : List MemPlace} {p : α → Prop} {c : α → List D} (h : ArgOk P t p c) (ht : isStruct P t = true)
    (hval : Value.okWide P W r b0 t v) (hd : DataW.Trod enc P W 0 (fun _ => true) true t v d ps) (hsz : ∀ n ∈ d.weights P t, n ≤ reachBytes) : ∃ x, p x ∧ (dAgg (c x)).rel (immOf W) v := by
  unfold isStruct at ht
  split at ht
  · rename_i fs hfs
    obtain ⟨cs, rfl, _⟩ := okWide_struct hfs hval
    obtain ⟨fuel, hf⟩ := hd
    obtain ⟨x, h1, h2⟩ := h H enc W fuel _ d ps hf hsz
    exact ⟨x, h1, cs, rfl, h2⟩
  · cases ht

/-! ### Bytes -/

theorem arg_bytes {H : Type} {enc : TypeId × Value → H} {W : World} {r : Reach} {b0 : Nat} {v : Value} {d : DataW H} {ps : List MemPlace} (ht : P.underlying t = some (.slice e)) (he : P.underlying e = some (.int .u8)) (hn : P.cellsOf e = 1) (hb : P.bytesOf e = 1)
    (hval : Value.okWide P W r b0 t v) (hd : DataW.Trod enc P W 0 (fun _ => true) true t v d ps) (hsz : ∀ n ∈ d.weights P t, n ≤ reachBytes) : ∃ xs : List Int, (∀ x ∈ xs, 0 ≤ x ∧ x ≤ 255) ∧ (dBy xs).rel (immOf W) v := by
  obtain ⟨a0, l0, c0, rfl⟩ := okWide_slice ht hval
  obtain ⟨fuel, hf⟩ := hd
  rcases DataW.trod_slice ht hf with ⟨h0, _⟩ | ⟨a, len, cap, elems, rest, m, _, h0, hx, _, h1, h2, h3, h4, _, _⟩
  · simp only [Value.cells, List.cons.injEq, and_true] at h0
    exact ⟨[], (fun x hx => by cases hx), none, 0, h0, Nat.le_refl _, Nat.zero_le _, Nat.zero_le _, fun i x hx => by simp at hx⟩
  · simp only [Value.cells, List.cons.injEq, and_true] at h0
    injection hx with hx _
    subst hx
    have hlen : len ≤ 140737488355328 := by
      have h7 := hsz ((elems.length + rest.length) * P.bytesOf e) (by simp [DataW.weights, ht])
      have h9 : reachBytes = 140737488351232 := rfl
      rw [hb] at h7
      omega
    have hel : ∀ i, i < len → ∃ x, (0 ≤ x ∧ x ≤ 255) ∧ W.cell? ((a.add i).add 0) = some (.int .u8 x) := by
      intro i hi
      have h5 := h4 i hi
      rw [List.getElem?_eq_getElem (by omega)] at h5
      obtain ⟨vs, h6, h7⟩ := Option.bind_eq_some_iff.1 h5
      obtain ⟨n, rfl, _, hw⟩ := DataW.trod_int he h7
      rw [hn, Nat.mul_one] at h6
      exact ⟨n, wf_u8 hw, (cells_of h6).2 0 _ rfl⟩
    obtain ⟨xs, hxl, hxs⟩ := list_choose hel
    subst hxl
    refine ⟨xs, fun x hx => by obtain ⟨i, hi⟩ := List.getElem?_of_mem hx; exact (hxs i x hi).1, some a, cap, h0, h1, h2, hlen, fun i x hi => ?_⟩
    have hspot : a.spot = none := by
      have h0 : 0 < xs.length := by have := (List.getElem?_eq_some_iff.1 hi).1; omega
      have := (hxs 0 xs[0] (List.getElem?_eq_getElem h0)).2
      rw [Addr.add_zero', Addr.add_zero'] at this
      exact (at_of_cell (d := dTop) this trivial).1
    refine ⟨a, rfl, hspot, ?_⟩
    have := (hxs i x hi).2
    rw [Addr.add_zero'] at this
    rw [Nat.mul_one]
    exact at_of_cell this rfl

end Go.Q
