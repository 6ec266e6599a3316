/- Arguments of any type made of numbers, truth values, slices and structs: proved of every program. -/
import Derived.Test.YtmofkofgpeibiaaGreatQBridge2
import Derived.Test.YtmofkofgpeibiaaGreatQRes
set_option linter.unusedVariables false
set_option linter.unusedSimpArgs false
namespace Go.Q
open Go.ChangeShapes Go.WideShapes Go.RowKit
def ArgOk (P : Program) (t : TypeId) {α : Type} (p : α → Prop) (c : α → List D) : Prop :=
 ∀ (H : Type) (enc : TypeId × Value → H) (W : World) (fuel : Nat) (cs : List Value) (d : DataW H) (ps : List MemPlace), DataW.trod enc P W 0 (fun _ => true) true fuel t cs = some (d, ps) →
  (∀ n ∈ d.weights P t, n ≤ reachBytes) → ∃ x, p x ∧ relL (c x) (immOf W) cs
variable {P : Program} {t e : TypeId} {α β : Type}
theorem ArgOk.map {p : α → Prop} {c : α → List D} {q : β → Prop} {c' : β → List D} (h : ArgOk P t p c) (f : α → β) (hp : ∀ x, p x → q (f x)) (hc : ∀ x, c x = c' (f x)) : ArgOk P t q c' := fun H enc W fuel cs d ps ht hw =>
 let ⟨x, h1, h2⟩ := h H enc W fuel cs d ps ht hw
 ⟨f x, hp x h1, hc x ▸ h2⟩
theorem ArgOk.int {k : IntKind} (ht : P.underlying t = some (.int k)) : ArgOk P t (fun n => (Lit.int k n).wf = true) (fun n => [dInt k n]) := fun H enc W fuel cs d ps h hw => by
 obtain ⟨n, rfl, _, hn⟩ := DataW.trod_int ht h
 exact ⟨n, hn, rfl, trivial⟩
theorem ArgOk.bool (ht : P.underlying t = some .bool) : ArgOk P t (fun _ => True) (fun b : Bool => [dB (b = true)]) := fun H enc W fuel cs d ps h hw => by
 obtain ⟨b, rfl, _⟩ := DataW.trod_bool ht h
 exact ⟨b, trivial, ⟨b, rfl, Iff.rfl⟩, trivial⟩
theorem cells_of {W : World} {a : Addr} {n : Nat} {vs : List Value} (h : W.cells? 0 a n = some vs) : vs.length = n ∧ ∀ i v, vs[i]? = some v → W.cell? (a.add i) = some v := by
 unfold World.cells? at h
 rw [if_pos (Nat.zero_le _)] at h
 have h1 := mapM_some_length h
 rw [List.length_range] at h1
 refine ⟨h1, fun i v hv => ?_⟩
 have hi : i < n := by rw [← h1]; exact (List.getElem?_eq_some_iff.1 hv).1
 have := mapM_some_get h i i (by simp [hi])
 rw [← hv, ← this]
theorem at_of_cells {w : World} {a : Addr} {ds : List D} {vs : List Value} (hs : a.spot = none) (hl : vs ≠ []) (hv : ∀ i v, vs[i]? = some v → w.cell? (a.add i) = some v) (hr : relL ds (immOf w) vs) : (immOf w).at a ds := by
 obtain ⟨b, o, s⟩ := a
 simp only at hs
 subst hs
 have hcell : ∀ i v, vs[i]? = some v → w.cell? ⟨b, o + i, none⟩ = some v := fun i v h => by have := hv i v h; rwa [Addr.add_lit] at this
 cases vs with
 | nil => exact absurd rfl hl
 | cons v0 vs =>
  have h0 := hcell 0 v0 rfl
  unfold World.cell? at h0
  simp only at h0
  split at h0
  ·rename_i cs T fz hb
   refine ⟨rfl, cs, T, fz, hb, ?_⟩
   have hlen := relL_length hr
   have : (cs.toList.drop o).take ds.length = v0 :: vs := by
    apply List.ext_getElem?
    intro i
    by_cases hi : i < (v0 :: vs).length
    ·have h1 := hcell i ((v0 :: vs)[i]) (List.getElem?_eq_getElem hi)
     simp only [World.cell?, hb] at h1
     rw [List.getElem?_take, if_pos (by omega), List.getElem?_drop, Array.getElem?_toList, List.getElem?_eq_getElem hi]
     simpa using h1
    ·rw [List.getElem?_eq_none (by rw [List.length_take]; omega), List.getElem?_eq_none (by omega)]
   show relL ds _ ((cs.toList.drop o).take ds.length)
   rw [this]
   exact hr
  ·cases h0
theorem list_choose {Q : Nat → α → Prop} {n : Nat} (h : ∀ i, i < n → ∃ x, Q i x) : ∃ xs : List α, xs.length = n ∧ ∀ i x, xs[i]? = some x → Q i x := by
 refine ⟨List.ofFn fun i : Fin n => Classical.choose (h i.1 i.2), by simp, fun i x hx => ?_⟩
 have hi : i < n := by have := (List.getElem?_eq_some_iff.1 hx).1; simpa using this
 rw [List.getElem?_ofFn, dif_pos hi] at hx
 injection hx with hx
 rw [← hx]
 exact Classical.choose_spec (h i hi)
theorem spot_add (a : Addr) (h : a.spot = none) (i : Nat) : (a.add i).spot = none := by
 obtain ⟨b, o, s⟩ := a
 simp only at h
 subst h
 rw [Addr.add_lit]
theorem ArgOk.slice {p : α → Prop} {c : α → List D} {n : Nat} (ht : P.underlying t = some (.slice e)) (he : ArgOk P e p c) (hn : P.cellsOf e = n) (hn0 : n ≠ 0) (hb : 8 ≤ P.bytesOf e) (hc : ∀ x, (c x).length = n) :
  ArgOk P t (fun xs : List α => ∀ x ∈ xs, p x) (fun xs => [dSl n c xs]) := fun H enc W fuel cs d ps h hw => by
 subst hn
 rcases DataW.trod_slice ht h with ⟨rfl, _⟩ | ⟨a, len, cap, elems, rest, m, _, rfl, hx, _, h1, h2, h3, h4, _, _⟩
 ·exact ⟨[], (fun x hx => by cases hx), d_nil _ _ rfl, trivial⟩
 ·injection hx with hx _
  subst hx
  have hlen : len ≤ lenMax := by
   have h7 := hw ((elems.length + rest.length) * P.bytesOf e) (by simp [DataW.weights, ht])
   have h9 : reachBytes = 140737488351232 := rfl
   have h10 := Nat.mul_le_mul_left (elems.length + rest.length) hb
   unfold lenMax
   omega
  have hel : ∀ i, i < len → ∃ x, p x ∧ ∃ vs, W.cells? 0 (a.add (i * P.cellsOf e)) (P.cellsOf e) = some vs ∧ relL (c x) (immOf W) vs := by
   intro i hi
   have h5 := h4 i hi
   rw [List.getElem?_eq_getElem (by omega)] at h5
   obtain ⟨vs, h6, h7⟩ := Option.bind_eq_some_iff.1 h5
   obtain ⟨x, h8, h9⟩ := he H enc W m vs _ _ h7 (fun k hk => hw k (by
    simp only [DataW.weights, ht, List.mem_cons, List.mem_append]
    exact .inr (.inl (weights_all (d := elems[i].1) (List.mem_map.2 ⟨elems[i], List.getElem_mem .., rfl⟩) hk))))
   exact ⟨x, h8, vs, h6, h9⟩
  obtain ⟨xs, hxl, hxs⟩ := list_choose hel
  subst hxl
  refine ⟨xs, fun x hx => by obtain ⟨i, hi⟩ := List.getElem?_of_mem hx; exact (hxs i x hi).1, ⟨some a, cap, rfl, h1, h2, hlen, fun i x hi => ?_⟩, trivial⟩
  obtain ⟨_, vs, g1, g2⟩ := hxs i x hi
  have hne : ∀ {vs : List Value}, vs.length = P.cellsOf e → vs ≠ [] := fun h e0 => hn0 (by rw [← h, e0]; rfl)
  have hspot : a.spot = none := by
   have h0 : 0 < xs.length := by have := (List.getElem?_eq_some_iff.1 hi).1; omega
   obtain ⟨_, us, u1, _⟩ := hxs 0 xs[0] (List.getElem?_eq_getElem h0)
   obtain ⟨u2, u3⟩ := cells_of u1
   have := hne u2
   cases us with
   | nil => exact absurd rfl this
   | cons u us =>
    have := u3 0 u rfl
    rw [Nat.zero_mul, Addr.add_zero', Addr.add_zero'] at this
    exact (at_of_cell (d := dTop) this trivial).1
  obtain ⟨g3, g4⟩ := cells_of g1
  exact ⟨hc x, a, rfl, hspot, at_of_cells (spot_add a hspot _) (hne g3) g4 g2⟩
def structB (P : Program) (t : TypeId) (l : List (Nat × Nat × TypeId)) : Bool :=
 match P.underlying t with
 | some (.struct fs) => (fs.toList.map fun f => (f.offset, P.cellsOf f.type, f.type)) == l && Nat.beq (P.cellsOf t) (l.foldr (fun x n => x.2.1 + n) 0)
 | _ => false
inductive FieldsOk (P : Program) : List (Nat × Nat × TypeId) → Nat → {α : Type} → (α → Prop) → (α → List D) → Prop where
 | nil {off : Nat} : FieldsOk P [] off (fun _ : Unit => True) (fun _ => [])
 | cons {off n : Nat} {t : TypeId} {l : List (Nat × Nat × TypeId)} {α β : Type} {p : α → Prop} {c : α → List D} {q : β → Prop} {c' : β → List D} : ArgOk P t p c → FieldsOk P l (off + n) q c' → FieldsOk P ((off, n, t) :: l) off (fun x : α × β => p x.1 ∧ q x.2) (fun x => c x.1 ++ c' x.2)
theorem FieldsOk.run {l : List (Nat × Nat × TypeId)} {off : Nat} {α : Type} {p : α → Prop} {c : α → List D} (h : FieldsOk P l off p c) (H : Type) (enc : TypeId × Value → H) (W : World) (m : Nat) (cs : List Value) (xs : List (DataW H × List MemPlace)) (hl : xs.length = l.length)
  (hx : ∀ (i o n : Nat) (t : TypeId), l[i]? = some (o, n, t) → DataW.trod enc P W 0 (fun _ => true) true m t ((cs.drop o).take n) = xs[i]?) (hw : ∀ (i o n : Nat) (t : TypeId) (y : DataW H × List MemPlace), l[i]? = some (o, n, t) → xs[i]? = some y → ∀ k ∈ y.1.weights P t, k ≤ reachBytes)
  (hsz : cs.length = off + l.foldr (fun x n => x.2.1 + n) 0) : ∃ x, p x ∧ relL (c x) (immOf W) (cs.drop off) := by
 induction h generalizing xs with
 | nil => exact ⟨(), trivial, by rw [List.drop_eq_nil_of_le (by simp at hsz; omega)]; trivial⟩
 | @cons off n t l α β p c q c' h1 _ ih =>
  cases xs with
  | nil => simp at hl
  | cons y ys =>
   have e1 := hx 0 off n t rfl
   obtain ⟨x, g1, g2⟩ := h1 H enc W m _ y.1 y.2 e1 (hw 0 off n t y rfl rfl)
   obtain ⟨x', g3, g4⟩ := ih ys (by simpa using hl) (fun i o n t hi => by have := hx (i + 1) o n t (by simpa using hi); simpa using this) (fun i o n t y hi hy => hw (i + 1) o n t y (by simpa using hi) (by simpa using hy)) (by rw [hsz]; simp only [List.foldr_cons]; omega)
   refine ⟨(x, x'), ⟨g1, g3⟩, ?_⟩
   have : cs.drop off = (cs.drop off).take n ++ cs.drop (off + n) := by rw [← List.drop_drop, List.take_append_drop]
   rw [this]
   exact relL_append g2 g4
theorem ArgOk.struct {l : List (Nat × Nat × TypeId)} {p : α → Prop} {c : α → List D} (hs : structB P t l = true) (hf : FieldsOk P l 0 p c) : ArgOk P t p c := fun H enc W fuel cs d ps h hw => by
 unfold structB at hs
 split at hs
 ·rename_i fs ht
  simp only [Bool.and_eq_true] at hs
  have hl : (fs.toList.map fun (f : Field) => (f.offset, P.cellsOf f.type, f.type)) = l := eq_of_beq hs.1
  obtain ⟨xs, m, _, hx, hcl, hxl, hget⟩ := DataW.trod_struct ht h
  injection hx with hx _
  subst hx
  have hfl : ∀ (i o n : Nat) (t' : TypeId), l[i]? = some (o, n, t') → ∃ f : Field, fs[i]? = some f ∧ f.offset = o ∧ P.cellsOf f.type = n ∧ f.type = t' := by
   intro i o n t' hi
   rw [← hl, List.getElem?_map] at hi
   cases hf' : fs.toList[i]? with
   | none => rw [hf'] at hi; cases hi
   | some f =>
    rw [hf'] at hi
    simp only [Option.map_some, Option.some.injEq, Prod.mk.injEq] at hi
    exact ⟨f, by simpa using hf', hi.1, hi.2.1, hi.2.2⟩
  have := hf.run H enc W m cs xs (by rw [hxl, ← hl]; simp) (fun i o n t' hi => by
   obtain ⟨f, f1, f2, f3, f4⟩ := hfl i o n t' hi
   have := hget i f f1
   rwa [f2, f3, f4] at this) (fun i o n t' y hi hy k hk => by
   obtain ⟨f, f1, f2, f3, f4⟩ := hfl i o n t' hi
   refine hw k ?_
   simp only [DataW.weights, ht]
   refine DataW.weights_mem_each (j := i) (t := t') (d := y.1) ?_ ?_ k hk
   ·rw [List.getElem?_map]; rw [show fs.toList[i]? = some f by simpa using f1]; rw [← f4]; rfl
   ·rw [List.getElem?_map, hy]; rfl) (by rw [hcl, Nat.eq_of_beq_eq_true hs.2, Nat.zero_add])
  rwa [List.drop_zero] at this
 ·cases hs


theorem arg_bytes {H : Type} {enc : TypeId × Value → H} {W : World} {r : Reach} {b0 : Nat} {v : Value} {d : DataW H} {ps : List MemPlace} (ht : P.underlying t = some (.slice e)) (he : P.underlying e = some (.int .u8)) (hn : P.cellsOf e = 1) (hb : P.bytesOf e = 1)
  (hval : Value.okWide P W r b0 t v) (hd : DataW.Trod enc P W 0 (fun _ => true) true t v d ps) (hsz : ∀ n ∈ d.weights P t, n ≤ reachBytes) : ∃ xs : List Int, (∀ x ∈ xs, 0 ≤ x ∧ x ≤ 255) ∧ (dBy xs).rel (immOf W) v := by
 obtain ⟨a0, l0, c0, rfl⟩ := okWide_slice ht hval
 obtain ⟨fuel, hf⟩ := hd
 rcases DataW.trod_slice ht hf with ⟨h0, _⟩ | ⟨a, len, cap, elems, rest, m, _, h0, hx, _, h1, h2, h3, h4, _, _⟩
 ·simp only [Value.cells, List.cons.injEq, and_true] at h0
  exact ⟨[], (fun x hx => by cases hx), none, 0, h0, Nat.le_refl _, Nat.zero_le _, Nat.zero_le _, fun i x hx => by simp at hx⟩
 ·simp only [Value.cells, List.cons.injEq, and_true] at h0
  injection hx with hx _
  subst hx
  have hlen : len ≤ 140737488355328 := by
   have h7 := hsz ((elems.length + rest.length) * P.bytesOf e) (by simp [DataW.weights, ht])
   have h9 : reachBytes = 140737488351232 := rfl
   rw [hb] at h7
   omega
  have hel : ∀ i, i < len → ∃ x, (0 ≤ x ∧ x ≤ 255) ∧ W.cell? ((a.add i).add 0) = some (.int .u8 x) := by
   intro i hi
   have h5 := h4 i hi
   rw [List.getElem?_eq_getElem (by omega)] at h5
   obtain ⟨vs, h6, h7⟩ := Option.bind_eq_some_iff.1 h5
   obtain ⟨n, rfl, _, hw⟩ := DataW.trod_int he h7
   rw [hn, Nat.mul_one] at h6
   exact ⟨n, wf_u8 hw, (cells_of h6).2 0 _ rfl⟩
  obtain ⟨xs, hxl, hxs⟩ := list_choose hel
  subst hxl
  refine ⟨xs, fun x hx => by obtain ⟨i, hi⟩ := List.getElem?_of_mem hx; exact (hxs i x hi).1, some a, cap, h0, h1, h2, hlen, fun i x hi => ?_⟩
  have hspot : a.spot = none := by
   have h0 : 0 < xs.length := by have := (List.getElem?_eq_some_iff.1 hi).1; omega
   have := (hxs 0 xs[0] (List.getElem?_eq_getElem h0)).2
   rw [Addr.add_zero', Addr.add_zero'] at this
   exact (at_of_cell (d := dTop) this trivial).1
  refine ⟨a, rfl, hspot, ?_⟩
  have := (hxs i x hi).2
  rw [Addr.add_zero'] at this
  rw [Nat.mul_one]
  exact at_of_cell this rfl
end Go.Q
