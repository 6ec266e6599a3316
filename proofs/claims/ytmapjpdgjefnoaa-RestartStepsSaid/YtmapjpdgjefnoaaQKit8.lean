/- Contracts at literal rows: what is proved here holds of every program. -/
import Derived.Test.YtmapjpdgjefnoaaQKit7
import Derived.Test.YtmapjpdgjefnoaaQPlainC
set_option linter.unusedVariables false
set_option linter.unusedSimpArgs false
namespace Go.Q

variable {P : Program} {f : FuncId} {N : Nat} {g : G} {M : List Res} {dst : Option Tmp} {ty : TypeId} {pos : String} {after : Array Edge} {gd : Option (Nat × Bool)}

theorem specP_pre {Ds Ds' : List D} {d : D} (h : SpecP P f Ds d) (hd : ∀ I vs, relL Ds' I vs → relL Ds I vs) : SpecP P f Ds' d :=
  fun I M w vs hv hi => h I M w vs (hd I vs hv) hi

theorem relL_last {a a' : D} {ds : List D} (h : ∀ I v, a'.rel I v → a.rel I v) : ∀ I vs, relL (ds ++ [a']) I vs → relL (ds ++ [a]) I vs := by
  induction ds with
  | nil => intro I vs hr; match vs, hr with | [v], hr => exact ⟨h _ _ hr.1, trivial⟩
  | cons e ds ih => intro I vs hr; match vs, hr with | v :: vs, hr => exact ⟨hr.1, ih I vs hr.2⟩

theorem opd_sub {c p : Prop} (hg : c) {d : D} : dIf (c ∧ p) d = dIf p d := by
  have : (c ∧ p) = p := propext ⟨fun h => h.2, fun h => ⟨hg, h⟩⟩
  rw [this]

theorem loc_orG {c0 : Prop} (hg : c0) {c b : Operand} {p q : Prop} (hc : opd g c = some (dB p)) (hb : opd g b = some (dIf (c0 ∧ ¬ p) (dB q))) : LocP P ⟨dst, .pick c (.const (.bool true)) b, ty, pos, after, gd⟩ g N M (dB (p ∨ q)) :=
  loc_or hc (hb.trans (congrArg some (opd_sub hg)))
theorem loc_andG {c0 : Prop} (hg : c0) {c b : Operand} {p q : Prop} (hc : opd g c = some (dB p)) (hb : opd g b = some (dIf (c0 ∧ p) (dB q))) : LocP P ⟨dst, .pick c b (.const (.bool false)), ty, pos, after, gd⟩ g N M (dB (p ∧ q)) :=
  loc_and hc (hb.trans (congrArg some (opd_sub hg)))

/-- A literal of two numbers. -/
abbrev dLit2 (a b : Int) : D := dSl 1 (fun l : List D => l) [[dInt .i64 a], [dInt .i64 b]]
theorem lit2 (a b : Int) : ∀ I v, (dLit2 a b).rel I v → (dInts [a, b]).rel I v := d_sl rfl

end Go.Q
