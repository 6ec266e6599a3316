/- A row of the call's own, lent to a function that only reads it: what is proved here holds of every program. -/
import Derived.Test.YtmapjpdgjefnoaaQKit9
set_option linter.unusedVariables false
set_option linter.unusedSimpArgs false
namespace Go.Q

variable {P : Program} {f : FuncId} {N : Nat} {I0 : Imm} {R : Ending → World → Prop} {g : G} {M : List Res} {k : List Item} {dst : Option Tmp} {ty : TypeId} {pos : String} {after : Array Edge} {gd : Option (Nat × Bool)}

/-- What is known of it does not lean on memory. -/
class Flat (d : D) : Prop where
  flat : ∀ {I J v}, d.rel I v → d.rel J v
instance (k : IntKind) (n : Int) : Flat (dInt k n) := ⟨fun h => h⟩
instance (p : Prop) : Flat (dB p) := ⟨fun h => h⟩

def whole (w : World) : Imm := ⟨fun b => w.heap[b]?, w.os, w.tape, w.output⟩
theorem whole_inv (w : World) : Inv (whole w) [] w := ⟨rfl, rfl, rfl, fun _ _ h => h, fun r hr => (by cases hr), List.nodup_nil⟩
theorem le_whole {I : Imm} {w : World} (h : Inv I M w) : I.le (whole w) := ⟨h.imm, h.os, h.tape, h.output⟩

theorem inv_kept {I J : Imm} {w w' : World} (h : Inv I M w) (hle : (whole w).le J) (hi : Inv J [] w') : Inv I M w' := by
  have hb : ∀ b o, w.heap[b]? = some o → w'.heap[b]? = some o := fun b o e => hi.imm b o (hle.blk b o e)
  refine ⟨(hi.os.trans hle.os).trans h.os, (hi.tape.trans hle.tape).trans h.tape, (hi.output.trans hle.output).trans h.output, fun b o e => hb b o (h.imm b o e), fun r hr => ?_, h.apart⟩
  have h1 := h.own r hr
  unfold Res.ok at h1 ⊢
  split
  · rename_i e; rw [e] at h1; exact h1
  · rename_i b e
    rw [e] at h1
    obtain ⟨h2, o, h3, h4⟩ := h1
    exact ⟨h2, o, hb b o h3, h4⟩

theorem row_view {I : Imm} {w : World} {α : Type} {v : Value} {T n : Nat} {f' : α → List D} {xs : List α} (h : Inv I M w) (hm : rRow v T n f' xs ∈ M) : (dSl n f' xs).rel (whole w) v := by
  obtain ⟨s, t, rfl⟩ := List.append_of_mem hm
  obtain ⟨J, _, h2, h3⟩ := row_freeze (h.perm List.perm_middle)
  exact (dSl n f' xs).mono (le_whole h3) h2

/-- The handle of a row that is not empty. -/
theorem run_rowForm {α : Type} {v : Value} {T n : Nat} {f' : α → List D} {xs : List α} (hm : In (rRow v T n f' xs) M) (hx : 0 < xs.length) (h : ∀ b cap, v = .slice (some ⟨b, 0, none⟩) xs.length cap → Run P f N I0 R g M k) : Run P f N I0 R g M k := by
  constructor
  intro I a w b cs hb hk hl hs hi
  obtain ⟨s, t, e⟩ := List.append_of_mem hm.mem
  have hi' := hi
  rw [e] at hi'
  rcases row_cases (hi'.perm List.perm_middle) with ⟨_, h2⟩ | ⟨b', cap, cs', h2, _⟩
  · rw [h2] at hx; cases hx
  · exact (h b' cap h2).go I a w b cs hb hk hl hs hi

/-- Arguments, of which some are rows of the call's own. -/
inductive Bor (M : List Res) : List D → List D → Prop where
  | nil : Bor M [] []
  | same {d : D} {ds es : List D} : Bor M ds es → Bor M (d :: ds) (d :: es)
  | row {v : Value} {T n : Nat} {α : Type} {f' : α → List D} {xs : List α} {ds es : List D} : In (rRow v T n f' xs) M → Bor M ds es → Bor M (dVal v :: ds) (dSl n f' xs :: es)

theorem Bor.rel {I : Imm} {w : World} (h : Inv I M w) : ∀ {ds es : List D} {vs : List Value}, Bor M ds es → relL ds I vs → relL es (whole w) vs := by
  intro ds es vs hb
  induction hb generalizing vs with
  | nil => intro hr; cases vs with | nil => trivial | cons => cases hr
  | same _ ih => intro hr; cases vs with | nil => cases hr | cons => exact ⟨D.mono _ (le_whole h) hr.1, ih hr.2⟩
  | row hm _ ih =>
    intro hr
    cases vs with
    | nil => cases hr
    | cons =>
      refine ⟨?_, ih hr.2⟩
      rw [show _ = _ from hr.1]
      exact row_view h hm.mem

theorem loc_callB {f : FuncId} [hf : TyFn P f] {xs : List Operand} {ats : Array TypeId} {Ds Es : List D} {d : D} [hd : Flat d] (hs : SpecP P f Es d) (hx : opds g xs = some Ds) (hb : Bor M Ds Es) :
    LocP P ⟨dst, .call ⟨.value (.func f), xs.toArray, ats⟩, ty, pos, after, gd⟩ g N M d := by
  constructor
  intro I a w K Q hsl hi hK
  unfold Oper.wp
  rw [execOp_call_slot (c := .func f) (f := f) (cap := #[]) rfl, Array.append_empty, run_callFunc hf]
  refine Calls.mono (hs (whole w) [] w _ (hb.rel hi (opds_sound hsl hx)) (whole_inv w)) ?_
  rintro e w' ⟨v, rfl, J, h1, h2, h3⟩
  exact hK v w' I I.le_refl (hd.flat h2) (inv_kept hi h1 h3)

end Go.Q
