/- Decks as what a call owns; contracts of two results. -/
import Derived.Test.YtmapjpdgjefnoaaQKit6
import Derived.Test.YtmapjpdgjefnoaaQPlainB
set_option linter.unusedVariables false
set_option linter.unusedSimpArgs false
namespace Go.Q

variable {P : Program} {f : FuncId}

/-- A deck at a place of the heap, of the type T. -/
def rDk (T b : Nat) (d : Dk) : Res := rCells b T [dInts d.xs, dInt .i64 (d.k : Nat)]

theorem spec_freezeK {Ds : List D} {T n : Nat} {α : Type} {f' : α → List D} {xs : List α} {Min : List Res} {r : Res} (h : Spec P f Ds Min (fun _ : Value => True) (fun v => dVal v) (fun v => [rRow v T n f' xs, r])) : Spec P f Ds Min (fun _ : Unit => True) (fun _ => dSl n f' xs) (fun _ => [r]) := by
  intro I M w vs hv hi
  refine (h I M w vs hv hi).mono ?_
  rintro e w' ⟨v, rfl, s, _, J, h1, h2, h3⟩
  obtain ⟨J', h4, h5, h6⟩ := row_freeze h3
  have hvs : v = s := h2
  subst hvs
  exact ⟨v, rfl, (), trivial, J', h1.trans h4, h5, h6⟩

end Go.Q
