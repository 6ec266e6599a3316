/- Arguments that are rows of rows, and tables: proved of every program. -/
import Derived.Test.YtmapjpdgjefnoaaQBridge
import Derived.Deep.Matrix
import Derived.Lib.SmallJoins
set_option linter.unusedVariables false
set_option linter.unusedSimpArgs false
namespace Go.Q
open Go.ChangeShapes Go.WideShapes Go.RowKit Go.Joins

section
variable {H : Type} {enc : TypeId × Value → H} {P : Program} {W : World}

theorem weights_all {e : TypeId} {l : List (DataW H)} {d : DataW H} (hd : d ∈ l) {n : Nat} (hn : n ∈ d.weights P e) : n ∈ DataW.weightsAll P e l := by
  induction l with
  | nil => cases hd
  | cons x l ih =>
    rw [DataW.weightsAll]
    rcases List.mem_cons.1 hd with rfl | hd
    · exact List.mem_append_left _ hn
    · exact List.mem_append_right _ (ih hd)

theorem rows_of_trod {t e q : TypeId} {fuel : Nat} {cs : List Value} {d : DataW H} {ps : List MemPlace} (ht : P.underlying t = some (.slice e)) (he : P.underlying e = some (.slice q)) (hq : P.underlying q = some (.int .i64)) (ce : P.cellsOf e = 1) (cq : P.cellsOf q = 1) (be : P.bytesOf e = 24) (bq : P.bytesOf q = 8)
    (h : DataW.trod enc P W 0 (fun _ => true) true fuel t cs = some (d, ps)) (hsz : ∀ n ∈ d.weights P t, n ≤ reachBytes) : ∃ xs, relL [dRows xs] (immOf W) cs := by
  rcases Go.Deep.open_int_rows ht he hq ce cq h with ⟨rfl, _⟩ | ⟨a, len, cap, A, L, C, Z, rfl, _, h1, h2, h4, h5⟩
  · exact ⟨[], d_nil _ _ rfl, trivial⟩
  · injection h4 with h4 _
    subst h4
    have h9 : reachBytes = 140737488351232 := rfl
    have h7 := hsz ((len + (cap - len)) * P.bytesOf e) (by simp [DataW.weights, ht])
    rw [be] at h7
    have hrow : ∀ r, r < len → (dInts ((Z r).take (L r))).rel (immOf W) (.slice (A r) (L r) (C r)) := by
      intro r hr
      obtain ⟨g1, g2, g3, g4, _, g6, g7⟩ := h5 r (by omega)
      cases hA : A r with
      | none =>
        have hC := g6 hA
        have hL : L r = 0 := by omega
        rw [hL, hC]
        exact d_nil _ _ rfl
      | some a' =>
        have hw : ((Z r).length) * 8 ≤ reachBytes := by
          refine hsz _ ?_
          simp only [DataW.weights, ht, List.mem_cons, List.mem_append]
          refine .inr (.inl (weights_all (d := Go.Deep.intRow .i64 (A r) (L r) (Z r)) (List.mem_map.2 ⟨r, List.mem_range.2 hr, rfl⟩) ?_))
          rw [hA]
          have hll : (lits (H := H) .i64 ((Z r).take (L r))).length + (lits (H := H) .i64 ((Z r).drop (L r))).length = (Z r).length := by simp [lits]; omega
          simp only [Go.Deep.intRow, DataW.weights, he, List.mem_cons]
          exact .inl (by rw [hll, bq])
        obtain ⟨_, hcell⟩ := g7 a' hA
        refine ⟨some a', C r, by rw [List.length_take, g4, Nat.min_eq_left g2], by rw [List.length_take]; omega, g3, by rw [List.length_take]; unfold lenMax; omega, fun i x hx => ?_⟩
        have hi : i < L r ∧ (Z r)[i]? = some x := by
          rw [List.getElem?_take] at hx
          split at hx
          · rename_i h; exact ⟨h, hx⟩
          · cases hx
        have hs0 : a'.spot = none := (at_of_cell (d := dTop) (hcell 0 (by omega)) trivial).1
        refine ⟨rfl, a', rfl, hs0, ?_⟩
        rw [Nat.mul_one]
        refine at_of_cell (hcell i (by omega)) ?_
        show _ = _
        rw [List.getD_eq_getElem?_getD, hi.2]
        rfl
    refine ⟨(List.range len).map fun r => (Z r).take (L r), ⟨some a, cap, by simp, by simp; omega, h2, by simp; unfold lenMax; omega, fun i x hx => ?_⟩, trivial⟩
    have hi : i < len ∧ x = (Z i).take (L i) := by
      rw [List.getElem?_map] at hx
      have hlt : i < len := by
        by_cases c : i < len
        · exact c
        · rw [List.getElem?_eq_none (by simp; omega)] at hx; cases hx
      rw [List.getElem?_range hlt] at hx
      exact ⟨hlt, by simpa using hx.symm⟩
    have hs0 : a.spot = none := (at_of_cell (d := dTop) (h5 0 (by omega)).1 trivial).1
    refine ⟨rfl, a, rfl, hs0, ?_⟩
    rw [Nat.mul_one, hi.2]
    exact at_of_cell (h5 i (by omega)).1 (hrow i hi.1)

theorem arg_rows {r : Reach} {b0 : Nat} {t e q : TypeId} {v : Value} {d : DataW H} {ps : List MemPlace} (ht : P.underlying t = some (.slice e)) (he : P.underlying e = some (.slice q)) (hq : P.underlying q = some (.int .i64)) (ce : P.cellsOf e = 1) (cq : P.cellsOf q = 1) (be : P.bytesOf e = 24) (bq : P.bytesOf q = 8)
    (hval : Value.okWide P W r b0 t v) (hd : DataW.Trod enc P W 0 (fun _ => true) true t v d ps) (hsz : ∀ n ∈ d.weights P t, n ≤ reachBytes) : ∃ xs, (dRows xs).rel (immOf W) v := by
  obtain ⟨a, len, cap, rfl⟩ := okWide_slice ht hval
  obtain ⟨fuel, hf⟩ := hd
  obtain ⟨xs, h, _⟩ := rows_of_trod ht he hq ce cq be bq hf hsz
  exact ⟨xs, h⟩

/-- The rows of a table's type: a number, a struct of one number, a number, rows of rows. -/
structure TabTy (P : Program) (t e q : TypeId) (f0 f1 f2 f3 g : Field) : Prop where
  s : P.underlying t = some (.struct #[f0, f1, f2, f3])
  c : P.cellsOf t = 4
  i0 : P.underlying f0.type = some (.int .i64) ∧ f0.offset = 0 ∧ P.cellsOf f0.type = 1
  i1 : P.underlying f1.type = some (.struct #[g]) ∧ f1.offset = 1 ∧ P.cellsOf f1.type = 1
  i2 : P.underlying f2.type = some (.int .i64) ∧ f2.offset = 2 ∧ P.cellsOf f2.type = 1
  i3 : P.underlying f3.type = some (.slice e) ∧ f3.offset = 3 ∧ P.cellsOf f3.type = 1
  ig : P.underlying g.type = some (.int .i64) ∧ g.offset = 0 ∧ P.cellsOf g.type = 1
  he : P.underlying e = some (.slice q)
  hq : P.underlying q = some (.int .i64)
  ce : P.cellsOf e = 1
  cq : P.cellsOf q = 1
  be : P.bytesOf e = 24
  bq : P.bytesOf q = 8

theorem arg_tab {r : Reach} {b0 : Nat} {t e q : TypeId} {f0 f1 f2 f3 g : Field} {v : Value} {d : DataW H} {ps : List MemPlace} (ho : TabTy P t e q f0 f1 f2 f3 g)
    (hval : Value.okWide P W r b0 t v) (hd : DataW.Trod enc P W 0 (fun _ => true) true t v d ps) (hsz : ∀ n ∈ d.weights P t, n ≤ reachBytes) : ∃ x : Tab, (dTab x).rel (immOf W) v := by
  obtain ⟨cs, rfl, hc⟩ := okWide_struct ho.s hval
  obtain ⟨c0, c1, c2, c3, rfl⟩ := array4 (hc.trans ho.c)
  obtain ⟨fuel, hf⟩ := hd
  obtain ⟨y0, y1, y2, y3, n, hx, _, h0, h1, h2, h3⟩ := trod_struct4 ho.s hf
  simp only [Prod.mk.injEq] at hx
  obtain ⟨rfl, _⟩ := hx
  rw [ho.i0.2.1, ho.i0.2.2] at h0
  rw [ho.i1.2.1, ho.i1.2.2] at h1
  rw [ho.i2.2.1, ho.i2.2.2] at h2
  rw [ho.i3.2.1, ho.i3.2.2] at h3
  obtain ⟨a, ha, _⟩ := DataW.trod_int ho.i0.1 h0
  obtain ⟨w, hw, _⟩ := DataW.trod_int ho.i2.1 h2
  obtain ⟨xs, m, _, _, _, hl, hg⟩ := DataW.trod_struct ho.i1.1 h1
  have hg0 := hg 0 g rfl
  rw [ho.ig.2.1, ho.ig.2.2, List.getElem?_eq_getElem (by rw [hl]; exact Nat.one_pos)] at hg0
  obtain ⟨p, hp, _⟩ := DataW.trod_int ho.ig.1 hg0
  obtain ⟨rows, hrows⟩ := rows_of_trod (enc := enc) (d := y3.1) (ps := y3.2) ho.i3.1 ho.he ho.hq ho.ce ho.cq ho.be ho.bq h3 (fun n hn => hsz n (by
    simp only [DataW.weights, ho.s]
    exact DataW.weights_mem_each (j := 3) rfl rfl n hn))
  simp [Value.cells] at ha hw hp hrows
  refine ⟨⟨a, p, w, rows⟩, _, rfl, ?_⟩
  exact ⟨ha, hp, hw, hrows⟩

def isI (P : Program) (fd : Field) (j : Nat) : Bool := (match P.underlying fd.type with | some (.int .i64) => true | _ => false) && Nat.beq fd.offset j && Nat.beq (P.cellsOf fd.type) 1
theorem isI_ok {fd : Field} {j : Nat} (h : isI P fd j = true) : P.underlying fd.type = some (.int .i64) ∧ fd.offset = j ∧ P.cellsOf fd.type = 1 := by
  simp only [isI, Bool.and_eq_true] at h
  refine ⟨?_, Nat.eq_of_beq_eq_true h.1.2, Nat.eq_of_beq_eq_true h.2⟩
  have h1 := h.1.1
  split at h1
  · assumption
  · cases h1

def fieldsOf (P : Program) (t : TypeId) : List Field := match P.underlying t with | some (.struct fs) => fs.toList | _ => []
def elemOf (P : Program) (t : TypeId) : Option TypeId := match P.underlying t with | some (.slice e) => some e | _ => none
theorem fieldsOf_ok {t : TypeId} {f : Field} {fs : List Field} (h : fieldsOf P t = f :: fs) : P.underlying t = some (.struct (f :: fs).toArray) := by
  unfold fieldsOf at h
  split at h
  · rename_i gs hg
    rw [hg, ← h]
  · cases h
theorem elemOf_ok {t e : TypeId} (h : elemOf P t = some e) : P.underlying t = some (.slice e) := by
  unfold elemOf at h
  split at h
  · rename_i e' he; injection h with h; rw [he, h]
  · cases h

def tabOk (P : Program) (t : TypeId) : Bool :=
  match fieldsOf P t with
  | [f0, f1, f2, f3] =>
    match fieldsOf P f1.type with
    | [g] =>
      match elemOf P f3.type with
      | some e =>
        match elemOf P e with
        | some q =>
          (match P.underlying q with | some (.int .i64) => true | _ => false) && (isI P f0 0 && (isI P f2 2 && (isI P g 0 && (Nat.beq f1.offset 1 && (Nat.beq (P.cellsOf f1.type) 1 && (Nat.beq f3.offset 3 && (Nat.beq (P.cellsOf f3.type) 1 &&
            (Nat.beq (P.cellsOf t) 4 && (Nat.beq (P.cellsOf e) 1 && (Nat.beq (P.cellsOf q) 1 && (Nat.beq (P.bytesOf e) 24 && Nat.beq (P.bytesOf q) 8)))))))))))
        | none => false
      | none => false
    | _ => false
  | _ => false

theorem arg_table {r : Reach} {b0 : Nat} {t : TypeId} {v : Value} {d : DataW H} {ps : List MemPlace} (ho : tabOk P t = true)
    (hval : Value.okWide P W r b0 t v) (hd : DataW.Trod enc P W 0 (fun _ => true) true t v d ps) (hsz : ∀ n ∈ d.weights P t, n ≤ reachBytes) : ∃ x : Tab, (dTab x).rel (immOf W) v := by
  unfold tabOk at ho
  split at ho
  · rename_i f0 f1 f2 f3 h1
    split at ho
    · rename_i g h2
      split at ho
      · rename_i e h3
        split at ho
        · rename_i q h4
          simp only [Bool.and_eq_true] at ho
          obtain ⟨a1, a2, a3, a4, a5, a6, a7, a8, a9, a10, a11, a12, a13⟩ := ho
          have hq : P.underlying q = some (.int .i64) := by
            split at a1
            · assumption
            · cases a1
          have n := @Nat.eq_of_beq_eq_true
          exact arg_tab ⟨fieldsOf_ok h1, n a9, isI_ok a2, ⟨fieldsOf_ok h2, n a5, n a6⟩, isI_ok a3, ⟨elemOf_ok h3, n a7, n a8⟩, isI_ok a4, elemOf_ok h4, hq, n a10, n a11, n a12, n a13⟩ hval hd hsz
        · cases ho
      · cases ho
    · cases ho
  · cases ho

end
end Go.Q
