/- An appended row whose handle is stored at once. -/
import Derived.Test.YtmapjpdgjefnoaaQOwn3
set_option linter.unusedVariables false
set_option linter.unusedSimpArgs false
namespace Go.Q
variable {P : Program} {N : Nat} {g : G}
theorem LocM.rowV {o : Oper} {Min : List Res} {T n : Nat} {α : Type} {φ : Value → Prop} {f' : α → List D} {ys : List α} (h : LocM P o g N Min φ (fun v => dVal v) (fun v => [rRow v T n f' ys])) :
    LocM P o g N Min φ (fun v => dSlV v) (fun v => [rRow v T n f' ys]) := by
  constructor
  intro F I a w K Q hs hi hK
  refine h.go F I a w K Q hs hi fun v u w' J h0 h1 h2 h3 => hK v u w' J h0 h1 ⟨h2, ?_⟩ h3
  rw [show u = v from h2]
  exact row_slice h3
end Go.Q
