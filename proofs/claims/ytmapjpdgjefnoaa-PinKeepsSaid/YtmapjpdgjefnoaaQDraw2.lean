/- The pass over a drawn region, with what each operation leans on laid out: what is proved here holds of every program. -/
import Derived.Test.YtmapjpdgjefnoaaQKit3
set_option linter.unusedVariables false
set_option linter.unusedSimpArgs false
namespace Go.Q

section
variable {P : Program} {N : Nat} {g : G} {σ : Type} {l : List Oper} {us : List Info} {φ : σ → Prop} {x : Nat}
variable {fs : List (Nat × (σ → D) × (σ → D))} {vs : List (List (σ → Res))} {os : List (Nat × (σ → D))} {i : Nat} {M : List Res} {I0 : Imm} {f : FuncId} {R : Ending → World → Prop} {k : List Item}
variable {id : Nat} {rest : List Oper} {urest : List Info} {dst : Tmp} {op : Op} {ty : TypeId} {pos : String} {after : Array Edge} {need : List (Nat × Option (Nat × Bool))} {anc : List Nat} {d : σ → D} {c : σ → G}

inductive CtxR (g : G) (fs : List (Nat × (σ → D) × (σ → D))) (s : σ) : List (Nat × Option (Nat × Bool)) → G → Prop where
  | nil : CtxR g fs s [] []
  | op {t j : Nat} {d u : σ → D} {need : List (Nat × Option (Nat × Bool))} {c : G} : lk fs j = some (d, u) → CtxR g fs s need c → CtxR g fs s ((t, some (j, false)) :: need) ((t, d s) :: c)
  | opU {t j : Nat} {d u : σ → D} {need : List (Nat × Option (Nat × Bool))} {c : G} : lk fs j = some (d, u) → CtxR g fs s need c → CtxR g fs s ((t, some (j, true)) :: need) ((t, u s) :: c)
  | g {t : Nat} {d : D} {need : List (Nat × Option (Nat × Bool))} {c : G} : look g t = some d → CtxR g fs s need c → CtxR g fs s ((t, none) :: need) ((t, d) :: c)

theorem CtxR.eq {s : σ} {c : G} (h : CtxR g fs s need c) : ctx g (lkF fs) (lkU fs) need s = c := by
  induction h with
  | nil => rfl
  | op h _ ih => simp only [ctx, List.map_cons, lkF, h, Option.map_some, Option.getD_some] at ih ⊢; rw [ih]
  | opU h _ ih => simp only [ctx, List.map_cons, lkU, h, Option.map_some, Option.getD_some] at ih ⊢; rw [ih]
  | g h _ ih => simp only [ctx, List.map_cons, h, Option.getD_some] at ih ⊢; rw [ih]

theorem dq_pure (hix : Nat.beq i x = false) (hcx : ∀ s, CtxR g fs s need (c s))
    (h : ∀ s, (nElem anc x = true → φ s) → ∀ M, LocP P ⟨some dst, op, ty, pos, after, none⟩ (c s) N M (d s)) (hc : (∀ s s', d s = d s') ∨ nElem anc x = true)
    (next : DR P f N I0 R g M l us φ x id k ((i, d, d) :: fs) vs ((dst, d) :: os) (i + 1) rest urest) :
    DR P f N I0 R g M l us φ x id k fs vs os i (⟨some dst, op, ty, pos, after, none⟩ :: rest) (⟨need, anc, none⟩ :: urest) :=
  dr_pure hix hc (fun s hs M => by rw [(hcx s).eq]; exact h s hs M) next

theorem dq_read {r p : Nat} {v : σ → Res} {old : List (σ → Res)} (hix : Nat.beq i x = false) (hcx : ∀ s, CtxR g fs s need (c s)) (hv : vs[r]? = some (v :: old)) (hp : old.length = p)
    (h : ∀ s, (nElem anc x = true → φ s) → ∀ M, In (v s) M → LocP P ⟨some dst, op, ty, pos, after, none⟩ (c s) N M (d s)) (hc : (∀ s s', d s = d s') ∨ nElem anc x = true)
    (next : DR P f N I0 R g M l us φ x id k ((i, d, d) :: fs) vs ((dst, d) :: os) (i + 1) rest urest) :
    DR P f N I0 R g M l us φ x id k fs vs os i (⟨some dst, op, ty, pos, after, none⟩ :: rest) (⟨need, anc, some (r, p, false)⟩ :: urest) :=
  dr_read hix hv hp hc (fun s hs M hm => by rw [(hcx s).eq]; exact h s hs M hm) next

theorem dq_write {r p : Nat} {v v' : σ → Res} {old : List (σ → Res)} (hix : Nat.beq i x = false) (hcx : ∀ s, CtxR g fs s need (c s)) (hv : vs[r]? = some (v :: old)) (hp : old.length = p)
    (h : ∀ s, (nElem anc x = true → φ s) → LocM P ⟨some dst, op, ty, pos, after, none⟩ (c s) N [v s] (fun _ : Unit => True) (fun _ => d s) (fun _ => [v' s])) (hc : (∀ s s', d s = d s' ∧ v' s = v' s') ∨ nElem anc x = true)
    (next : DR P f N I0 R g M l us φ x id k ((i, d, d) :: fs) (vs.set r (v' :: v :: old)) ((dst, d) :: os) (i + 1) rest urest) :
    DR P f N I0 R g M l us φ x id k fs vs os i (⟨some dst, op, ty, pos, after, none⟩ :: rest) (⟨need, anc, some (r, p, true)⟩ :: urest) :=
  dr_write hix hv hp hc (fun s hs => by rw [(hcx s).eq]; exact h s hs) next

theorem dq_write0 {r p : Nat} {v v' : σ → Res} {old : List (σ → Res)} (hix : Nat.beq i x = false) (hcx : ∀ s, CtxR g fs s need (c s)) (hv : vs[r]? = some (v :: old)) (hp : old.length = p)
    (h : ∀ s, (nElem anc x = true → φ s) → LocM P ⟨none, op, ty, pos, after, none⟩ (c s) N [v s] (fun _ : Unit => True) (fun _ => dTop) (fun _ => [v' s])) (hc : (∀ s s', v' s = v' s') ∨ nElem anc x = true)
    (next : DR P f N I0 R g M l us φ x id k ((i, (fun _ => dTop), (fun _ => dTop)) :: fs) (vs.set r (v' :: v :: old)) os (i + 1) rest urest) :
    DR P f N I0 R g M l us φ x id k fs vs os i (⟨none, op, ty, pos, after, none⟩ :: rest) (⟨need, anc, some (r, p, true)⟩ :: urest) :=
  dr_write0 hix hv hp hc (fun s hs => by rw [(hcx s).eq]; exact h s hs) next

theorem dq_choose {r p : Nat} {v v' : σ → Res} {old : List (σ → Res)} (hix : Nat.beq i x = true) (hcx : ∀ s, CtxR g fs s need (c s)) (hv : vs[r]? = some (v :: old)) (hp : old.length = p)
    (h : ∀ s, LocM P ⟨some dst, op, ty, pos, after, none⟩ (c s) N [v s] φ (fun s' => d s') (fun s' => [v' s']))
    (next : DR P f N I0 R g M l us φ x id k ((i, d, d) :: fs) (vs.set r (v' :: v :: old)) ((dst, d) :: os) (i + 1) rest urest) :
    DR P f N I0 R g M l us φ x id k fs vs os i (⟨some dst, op, ty, pos, after, none⟩ :: rest) (⟨need, anc, some (r, p, true)⟩ :: urest) :=
  dr_choose hix hv hp (fun s => by rw [(hcx s).eq]; exact h s) next

theorem dq_gpure {j : Nat} {want : Bool} {dg : σ → D} {cc : σ → Prop} (hix : Nat.beq i x = false) (hcx : ∀ s, CtxR g fs s need (c s)) (hg : (lk fs j).map (·.1) = some dg) (hgd : ∀ s, guardD want (dg s) (cc s))
    (h : ∀ s, (nElem anc x = true → φ s) → cc s → ∀ M, LocP P ⟨some dst, op, ty, pos, after, some (j, want)⟩ (c s) N M (d s)) (hc : (∀ s s', dIf (cc s) (d s) = dIf (cc s') (d s')) ∨ nElem anc x = true)
    (next : DR P f N I0 R g M l us φ x id k ((i, (fun s => dIf (cc s) (d s)), d) :: fs) vs ((dst, (fun s => dIf (cc s) (d s))) :: os) (i + 1) rest urest) :
    DR P f N I0 R g M l us φ x id k fs vs os i (⟨some dst, op, ty, pos, after, some (j, want)⟩ :: rest) (⟨need, anc, none⟩ :: urest) :=
  dr_gpure hix hg hgd hc (fun s hs hcs M => by rw [(hcx s).eq]; exact h s hs hcs M) next

theorem dq_gread {r p : Nat} {v : σ → Res} {old : List (σ → Res)} {j : Nat} {want : Bool} {dg : σ → D} {cc : σ → Prop} (hix : Nat.beq i x = false) (hcx : ∀ s, CtxR g fs s need (c s)) (hv : vs[r]? = some (v :: old)) (hp : old.length = p) (hg : (lk fs j).map (·.1) = some dg) (hgd : ∀ s, guardD want (dg s) (cc s))
    (h : ∀ s, (nElem anc x = true → φ s) → cc s → ∀ M, In (v s) M → LocP P ⟨some dst, op, ty, pos, after, some (j, want)⟩ (c s) N M (d s)) (hc : (∀ s s', dIf (cc s) (d s) = dIf (cc s') (d s')) ∨ nElem anc x = true)
    (next : DR P f N I0 R g M l us φ x id k ((i, (fun s => dIf (cc s) (d s)), d) :: fs) vs ((dst, (fun s => dIf (cc s) (d s))) :: os) (i + 1) rest urest) :
    DR P f N I0 R g M l us φ x id k fs vs os i (⟨some dst, op, ty, pos, after, some (j, want)⟩ :: rest) (⟨need, anc, some (r, p, false)⟩ :: urest) :=
  dr_gread hix hv hp hg hgd hc (fun s hs hcs M hm => by rw [(hcx s).eq]; exact h s hs hcs M hm) next


def outG (s : σ) : List (Nat × (σ → D)) → G → G
  | [], g => g
  | (t, d) :: os, g => (t, d s) :: outG s os g
def outM (s : σ) : List (List (σ → Res)) → List Res → List Res
  | [], M => M
  | (v :: _) :: vs, M => v s :: outM s vs M
  | [] :: vs, M => rNone :: outM s vs M

theorem outG_eq (s : σ) (g : G) : ∀ os : List (Nat × (σ → D)), os.map (fun p => (p.1, p.2 s)) ++ g = outG s os g
  | [] => rfl
  | (t, d) :: os => by simp only [List.map_cons, List.cons_append, outG, outG_eq s g os]
theorem outM_eq (s : σ) (M : List Res) : ∀ vs : List (List (σ → Res)), vs.map (fun hs => lastV hs s) ++ M = outM s vs M
  | [] => rfl
  | [] :: vs => congrArg (rNone :: ·) (outM_eq s M vs)
  | (v :: _) :: vs => congrArg (v s :: ·) (outM_eq s M vs)

theorem dq_end [hmix : TyMix P] {M0 rs : List Res} (s0 : σ) (hM : M = rs ++ M0) (hfirst : ∀ s : σ, vs.map (fun hs => (hs.reverse.headD fun _ => rNone) s) = rs) (hxn : l.length ≤ x → ∀ s, φ s)
    (hchk : (allLt l.length fun i => chkPred l i && chkRes us vs.length i) = true)
    (h : ∀ s, φ s → Run P f N I0 R (outG s os g) (outM s vs M0) k) :
    DR P f N I0 R g M l us φ x id k fs vs os i [] [] :=
  dr_end s0 hM hfirst hxn hchk fun s hs => by rw [outG_eq, outM_eq]; exact h s hs

end
end Go.Q
