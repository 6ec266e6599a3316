/- Closures that hold themselves; contracts whose result is let become immutable; tables as descriptors: what is proved here holds of every program. -/
import Derived.Test.YtmapjpdgjefnoaaQDraw2
import Derived.Test.YtmapjpdgjefnoaaQPlainA
set_option linter.unusedVariables false
set_option linter.unusedSimpArgs false
namespace Go.Q

variable {P : Program} {f : FuncId} {N : Nat} {I0 : Imm} {R : Ending → World → Prop} {g : G} {M : List Res} {k : List Item}

abbrev dTab (t : Tab) : D := dAgg [dInt .i64 t.number, dInt .i64 t.p, dInt .i64 t.width, dRows t.rows]
abbrev dHd (h : Hd) : D := dAgg [dInt .i64 h.number, dInt .i64 h.p, dInt .i64 h.count, dInt .i64 h.width, dInt .i64 h.root]
abbrev fI : Int → List D := fun x => [dInt .i64 x]
abbrev fR : List Int → List D := fun x => [dInts x]

/-- A pointer to a cell that holds a closure that has captured this very pointer. -/
def dKnot (fn : FuncId) : D :=
  ⟨fun I v => ∃ b cs T fz, v = ptr b 0 ∧ I.blk b = some (.cells cs T fz) ∧ cs.toList = [.func (.func fn) #[] #[ptr b 0]],
   fun h ⟨b, cs, T, fz, h1, h2, h3⟩ => ⟨b, cs, T, fz, h1, h.blk _ _ h2, h3⟩⟩

theorem knot_box {fn : FuncId} : ∀ I v, (dKnot fn).rel I v → (dBox [dClo fn [dKnot fn]]).rel I v := by
  rintro I v ⟨b, cs, T, fz, rfl, h2, h3⟩
  refine ⟨⟨b, 0, none⟩, rfl, rfl, cs, T, fz, h2, ?_⟩
  rw [h3]
  exact ⟨⟨#[ptr b 0], rfl, ⟨b, cs, T, fz, rfl, h2, h3⟩, trivial⟩, trivial⟩

theorem run_freezeKnot {s b : Nat} {T : TypeId} {fn : FuncId} {C : Res → List Res} {F : List Res} (hs : look g s = some (dVal (ptr b 0))) (hm : Sel (rCells b T [dClo fn [dVal (ptr b 0)]]) M C F) (h : Run P f N I0 R ((s, dBox [dClo fn [dKnot fn]]) :: g) F k) : Run P f N I0 R g M k := by
  refine run_turn (fun I a w hsl hi => ?_) h
  obtain ⟨o, ⟨cs, ho, hr⟩, hn, hi'⟩ := (hi.perm hm.perm.1).freeze (b := b) rfl
  injection ho with ho
  subst ho
  have hle := Imm.le_add (o := .cells cs T (0, 0)) hn
  refine ⟨_, hle, ⟨hsl.size, hsl.defers, fun j e hj => ?_⟩, hi'⟩
  rw [look_cons] at hj
  split at hj
  · rename_i e1
    subst e1
    injection hj with hj
    subst hj
    have h1 : a.tmps.getD s undef = ptr b 0 := hsl.slot _ _ hs
    rw [h1]
    apply knot_box
    have hcs : cs.toList = [.func (.func fn) #[] #[ptr b 0]] := by
      match hc : cs.toList, hr with
      | [u], hr =>
        obtain ⟨⟨cap, hu, hcap⟩, _⟩ := hr
        match hcc : cap.toList, hcap with
        | [p], hcap =>
          have hp : p = ptr b 0 := hcap.1
          have : cap = #[ptr b 0] := by apply Array.toList_inj.1; rw [hcc, hp]
          rw [hu, this]
    exact ⟨b, cs, T, (0, 0), rfl, by simp [Imm.add], hcs⟩
  · exact e.mono hle (hsl.slot _ _ hj)

/-! ### From a contract that hands over a row to one that lets it be immutable -/

theorem spec_freeze {Ds : List D} {T n : Nat} {α : Type} {f' : α → List D} {xs : List α} (h : Spec P f Ds [] (fun _ : Value => True) (fun v => dVal v) (fun v => [rRow v T n f' xs])) : SpecP P f Ds (dSl n f' xs) := by
  intro I M w vs hv hi
  refine (h I M w vs hv hi).mono ?_
  rintro e w' ⟨v, rfl, s, _, J, h1, h2, h3⟩
  obtain ⟨J', h4, h5, h6⟩ := row_freeze h3
  have hvs : v = s := h2
  subst hvs
  exact ⟨v, rfl, J', h1.trans h4, h5, h6⟩

theorem spec_freeze2 {Ds : List D} {T n : Nat} {α : Type} {f' : α → List D} {xs : List α} {d2 : D} (h : Spec P f Ds [] (fun _ : Value => True) (fun v => dTup [dVal v, d2]) (fun v => [rRow v T n f' xs])) : SpecP P f Ds (dTup [dSl n f' xs, d2]) := by
  intro I M w vs hv hi
  refine (h I M w vs hv hi).mono ?_
  rintro e w' ⟨v, rfl, s, _, J, h1, ⟨cs, h2, h7⟩, h3⟩
  obtain ⟨J', h4, h5, h6⟩ := row_freeze h3
  obtain ⟨u1, u2, hc, g1, g2⟩ := relL2 h7
  have hvs : u1 = s := g1
  subst hvs
  exact ⟨v, rfl, J', h1.trans h4, ⟨cs, h2, by rw [hc]; exact ⟨h5, d2.mono h4 g2, trivial⟩⟩, h6⟩

end Go.Q
