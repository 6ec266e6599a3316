/- Rows let become immutable in the middle of things: what is proved here holds of every program. -/
import Derived.Test.YtmapjpdgjefnoaaQKit4
set_option linter.unusedVariables false
set_option linter.unusedSimpArgs false
namespace Go.Q

variable {P : Program} {f : FuncId} {N : Nat} {I0 : Imm} {R : Ending → World → Prop} {g : G} {M : List Res} {k : List Item}

theorem slots_cast {I J : Imm} {a : Act} {s : Nat} {d d' : D} (hsl : Slots g N I a) (hle : I.le J) (hs : look g s = some d) (hd : ∀ v, d.rel I v → d'.rel J v) : Slots ((s, d') :: g) N J a := by
  refine ⟨hsl.size, hsl.defers, fun j e hj => ?_⟩
  rw [look_cons] at hj
  split at hj
  · rename_i e1
    subst e1
    injection hj with hj
    subst hj
    exact hd _ (hsl.slot _ _ hs)
  · exact e.mono hle (hsl.slot _ _ hj)

theorem runL_freezeRow {ops : Array Oper} {l : List Oper} {s : Nat} {C : Res → List Res} {F : List Res} {α : Type} {T n : Nat} {f' : α → List D} {xs : List α} {v : Value} (hs : look g s = some (dVal v)) (hm : Sel (rRow v T n f' xs) M C F)
    (h : RunL P f N I0 R ((s, dSl n f' xs) :: g) F ops l k) : RunL P f N I0 R g M ops l k := by
  constructor
  intro I a w b cs hb hk hl hsl hi
  obtain ⟨J, hle, hd, hi'⟩ := row_freeze (hi.perm hm.perm.1)
  exact h.go J a w b cs hb hk (hl.trans hle) (slots_cast hsl hle hs (fun u hu => by rw [show u = v from hu]; exact hd)) hi'

theorem relL_upgrade {I : Imm} {d' : D} {v : Value} (hd : d'.rel I v) : ∀ {ds : List D} {cs : List Value} (i : Nat), relL ds I cs → ds[i]? = some (dVal v) → relL (ds.set i d') I cs
  | d :: ds, c :: cs, 0, ⟨h1, h2⟩, h => by simp at h; subst h; rw [show c = v from h1]; exact ⟨hd, h2⟩
  | d :: ds, c :: cs, i + 1, ⟨h1, h2⟩, h => ⟨h1, relL_upgrade hd i h2 (by simpa using h)⟩
  | [], [], i, _, h => by simp at h

/-- A row whose handle lies in a cell of the call's own becomes immutable. -/
theorem run_freezeRowCell {b kk : Nat} {T' : TypeId} {ds : List D} {C C' : Res → List Res} {F F' : List Res} {α : Type} {T n : Nat} {f' : α → List D} {xs : List α} {v : Value} (hm : Sel (rRow v T n f' xs) M C F) (hc : Sel (rCells b T' ds) F C' F') (hk : ds[kk]? = some (dVal v))
    (h : Run P f N I0 R g (C' (rCells b T' (ds.set kk (dSl n f' xs)))) k) : Run P f N I0 R g M k := by
  refine run_turn (fun I a w hsl hi => ?_) h
  obtain ⟨J, hle, hd, hi'⟩ := row_freeze (hi.perm hm.perm.1)
  refine ⟨J, hle, hsl.mono hle, ?_⟩
  have h2 := hi'.perm hc.perm.1
  refine Inv.perm ?_ (hc.perm.2 _)
  refine ⟨h2.os, h2.tape, h2.output, h2.imm, fun r hr => ?_, h2.apart⟩
  rcases List.mem_cons.1 hr with rfl | hr
  · obtain ⟨h3, o, h4, cs, h5, h6⟩ := h2.own _ (List.mem_cons_self ..)
    exact ⟨h3, o, h4, cs, h5, relL_upgrade hd kk h6 hk⟩
  · exact h2.own r (List.mem_cons_of_mem _ hr)

end Go.Q
