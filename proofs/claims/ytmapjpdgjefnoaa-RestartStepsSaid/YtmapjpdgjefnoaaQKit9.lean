/- Roads that meet again; an operation under a guard that turns a resource: what is proved here holds of every program. -/
import Derived.Test.YtmapjpdgjefnoaaQKit8
set_option linter.unusedVariables false
set_option linter.unusedSimpArgs false
namespace Go.Q
open Classical

variable {P : Program} {f : FuncId} {N : Nat} {I0 : Imm} {R : Ending → World → Prop} {g : G} {M : List Res} {k : List Item}

/-- Before roads part: what holds where they meet again, and what follows there. -/
theorem run_join {c : Code} {σ : Type} (Γ : σ → G) (Mo : σ → List Res) (φ : σ → Prop) (h2 : (∀ s, φ s → Run P f N I0 R (Γ s) (Mo s) k) → Run P f N I0 R g M (.code c :: k))
    (h1 : ∀ s, φ s → Run P f N I0 R (Γ s) (Mo s) k) : Run P f N I0 R g M (.code c :: k) := h2 h1

theorem run_at {σ : Type} {Γ : σ → G} {Mo : σ → List Res} {φ : σ → Prop} (j : ∀ s, φ s → Run P f N I0 R (Γ s) (Mo s) k) (s : σ) (hφ : φ s) (hM : M = Mo s) (hg : Keep g (Γ s)) : Run P f N I0 R g M k :=
  run_keep hg (hM ▸ j s hφ)

theorem run_gopM {α : Type} (mk : α → Res) {x0 x1 : α} {C : Res → List Res} {F : List Res} {l : List Oper} {rest : List Oper} {dst gs : Tmp} {j : Nat} {want : Bool} {op : Op} {ty : TypeId} {pos : String} {after : Array Edge} {d dg : D} {c : Prop} {gt : G}
    (hj : (l[j]?).bind (·.dst) = some gs) (hg : look g gs = some dg) (hgd : guardD want dg c)
    (hd : c → LocM P ⟨some dst, op, ty, pos, after, some (j, want)⟩ gt N [mk x0] (fun _ : Unit => True) (fun _ => d) (fun _ => [mk x1])) (hN : Nat.blt dst N = true) (hsel : Sel (mk x0) M C F)
    (h : RunLG P f N I0 R c ((dst, d) :: gt) ((dst, dIf c d) :: g) (C (mk (if c then x1 else x0))) l.toArray rest k) :
    RunLG P f N I0 R c gt g M l.toArray (⟨some dst, op, ty, pos, after, some (j, want)⟩ :: rest) k := by
  constructor
  intro I a w b cs hb hk hl hs hst hi
  have hgs := hs.slot gs _ hg
  have hN' : dst < N := by simpa [Nat.blt_eq] using hN
  have hy : yielded l.toArray a.tmps j = (match a.tmps.getD gs undef with | .bool b => some b | _ => none) := by
    simp only [yielded, List.getElem?_toArray, hj, Option.bind_some, Array.getD_eq_getD_getElem?]
    cases hx : a.tmps[gs]? with
    | none => rfl
    | some u => cases u <;> rfl
  have hans := hgd I _ hgs
  by_cases hc : c
  · rw [if_pos hc] at h
    refine BigFrame.wpList_want ?_ fun K hK => ?_
    · simp only [Region.wanted, hy]
      exact beq_iff_eq.2 (hans.2 hc)
    · refine (hd hc).go F I a w K _ (hst hc) (hi.perm hsel.perm.1) fun s v w' J _ hle hv hi' => hK _ _ ?_
      exact h.go J _ w' b cs hb hk (hl.trans hle) ((hs.mono hle).put (d := dIf _ d) ⟨fun _ => hv, fun hn => absurd hc hn⟩ hN') (fun _ => ((hst hc).mono hle).put hv hN') (hi'.perm (hsel.perm.2 _))
  · rw [if_neg hc] at h
    refine wpList_skip ?_ ?_
    · simp only [Region.wanted, hy]
      have : ¬ ((match a.tmps.getD gs undef with | .bool b => some b | _ => none) = some want) := fun e => hc (hans.1 e)
      simpa using this
    · exact h.go I _ w b cs hb hk hl (hs.put (d := dIf _ d) ⟨fun hcc => absurd hcc hc, fun _ => rfl⟩ hN') (fun hcc => absurd hcc hc) ((hi.perm hsel.perm.1).perm (hsel.perm.2 _))

end Go.Q
