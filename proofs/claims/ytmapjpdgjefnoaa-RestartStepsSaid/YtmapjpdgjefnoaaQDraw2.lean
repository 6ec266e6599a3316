/- The pass over a drawn region, with what each operation leans on laid out: what is proved here holds of every program. -/
import Derived.Test.YtmapjpdgjefnoaaQKit3
set_option linter.unusedVariables false
set_option linter.unusedSimpArgs false
namespace Go.Q

section
variable {P : Program} {N : Nat} {g : G} {σ : Type} {l : List Oper} {us : List Info} {C : Ch σ}
variable {fs : List (Nat × (σ → D) × (σ → D))} {vs : List (List (σ → Res))} {os : List (Nat × (σ → D))} {i : Nat} {M : List Res} {I0 : Imm} {f : FuncId} {R : Ending → World → Prop} {k : List Item}
variable {id : Nat} {rest : List Oper} {urest : List Info} {dst : Tmp} {op : Op} {ty : TypeId} {pos : String} {after : Array Edge} {need : List (Nat × Option (Nat × Bool))} {anc : List Nat} {d : σ → D} {c : σ → G}

inductive CtxR (g : G) (fs : List (Nat × (σ → D) × (σ → D))) (s : σ) : List (Nat × Option (Nat × Bool)) → G → Prop where
  | nil : CtxR g fs s [] []
  | op {t j : Nat} {d u : σ → D} {need : List (Nat × Option (Nat × Bool))} {c : G} : lk fs j = some (d, u) → CtxR g fs s need c → CtxR g fs s ((t, some (j, false)) :: need) ((t, d s) :: c)
  | opU {t j : Nat} {d u : σ → D} {need : List (Nat × Option (Nat × Bool))} {c : G} : lk fs j = some (d, u) → CtxR g fs s need c → CtxR g fs s ((t, some (j, true)) :: need) ((t, u s) :: c)
  | g {t : Nat} {d : D} {need : List (Nat × Option (Nat × Bool))} {c : G} : look g t = some d → CtxR g fs s need c → CtxR g fs s ((t, none) :: need) ((t, d) :: c)

theorem CtxR.eq {s : σ} {c : G} (h : CtxR g fs s need c) : ctx g (lkF fs) (lkU fs) need s = c := by
  induction h with
  | nil => rfl
  | op h _ ih => simp only [ctx, List.map_cons, lkF, h, Option.map_some, Option.getD_some] at ih ⊢; rw [ih]
  | opU h _ ih => simp only [ctx, List.map_cons, lkU, h, Option.map_some, Option.getD_some] at ih ⊢; rw [ih]
  | g h _ ih => simp only [ctx, List.map_cons, h, Option.getD_some] at ih ⊢; rw [ih]

theorem dq_pure (hix : nElem C.X i = false) (hcx : ∀ s, CtxR g fs s need (c s))
    (h : ∀ s, C.good anc s → ∀ M, LocP P ⟨some dst, op, ty, pos, after, none⟩ (c s) N M (d s)) (hc : AllX C.X fun x => nElem anc x = true ∨ ∀ s s', C.E x s s' → d s = d s')
    (next : DR P f N I0 R g M l us C id k ((i, d, d) :: fs) vs ((dst, d) :: os) (i + 1) rest urest) :
    DR P f N I0 R g M l us C id k fs vs os i (⟨some dst, op, ty, pos, after, none⟩ :: rest) (⟨need, anc, none⟩ :: urest) :=
  dr_pure hix hc (fun s hs M => by rw [(hcx s).eq]; exact h s hs M) next

theorem dq_read {r p : Nat} {v : σ → Res} {old : List (σ → Res)} (hix : nElem C.X i = false) (hcx : ∀ s, CtxR g fs s need (c s)) (hv : vs[r]? = some (v :: old)) (hp : old.length = p)
    (h : ∀ s, C.good anc s → ∀ M, In (v s) M → LocP P ⟨some dst, op, ty, pos, after, none⟩ (c s) N M (d s)) (hc : AllX C.X fun x => nElem anc x = true ∨ ∀ s s', C.E x s s' → d s = d s')
    (next : DR P f N I0 R g M l us C id k ((i, d, d) :: fs) vs ((dst, d) :: os) (i + 1) rest urest) :
    DR P f N I0 R g M l us C id k fs vs os i (⟨some dst, op, ty, pos, after, none⟩ :: rest) (⟨need, anc, some (r, p, false)⟩ :: urest) :=
  dr_read hix hv hp hc (fun s hs M hm => by rw [(hcx s).eq]; exact h s hs M hm) next

theorem dq_write {r p : Nat} {v v' : σ → Res} {old : List (σ → Res)} (hix : nElem C.X i = false) (hcx : ∀ s, CtxR g fs s need (c s)) (hv : vs[r]? = some (v :: old)) (hp : old.length = p)
    (h : ∀ s, C.good anc s → LocM P ⟨some dst, op, ty, pos, after, none⟩ (c s) N [v s] (fun _ : Unit => True) (fun _ => d s) (fun _ => [v' s])) (hc : AllX C.X fun x => nElem anc x = true ∨ ∀ s s', C.E x s s' → d s = d s' ∧ v' s = v' s')
    (next : DR P f N I0 R g M l us C id k ((i, d, d) :: fs) (vs.set r (v' :: v :: old)) ((dst, d) :: os) (i + 1) rest urest) :
    DR P f N I0 R g M l us C id k fs vs os i (⟨some dst, op, ty, pos, after, none⟩ :: rest) (⟨need, anc, some (r, p, true)⟩ :: urest) :=
  dr_write hix hv hp hc (fun s hs => by rw [(hcx s).eq]; exact h s hs) next

theorem dq_write0 {r p : Nat} {v v' : σ → Res} {old : List (σ → Res)} (hix : nElem C.X i = false) (hcx : ∀ s, CtxR g fs s need (c s)) (hv : vs[r]? = some (v :: old)) (hp : old.length = p)
    (h : ∀ s, C.good anc s → LocM P ⟨none, op, ty, pos, after, none⟩ (c s) N [v s] (fun _ : Unit => True) (fun _ => dTop) (fun _ => [v' s])) (hc : AllX C.X fun x => nElem anc x = true ∨ ∀ s s', C.E x s s' → v' s = v' s')
    (next : DR P f N I0 R g M l us C id k ((i, (fun _ => dTop), (fun _ => dTop)) :: fs) (vs.set r (v' :: v :: old)) os (i + 1) rest urest) :
    DR P f N I0 R g M l us C id k fs vs os i (⟨none, op, ty, pos, after, none⟩ :: rest) (⟨need, anc, some (r, p, true)⟩ :: urest) :=
  dr_write0 hix hv hp hc (fun s hs => by rw [(hcx s).eq]; exact h s hs) next

theorem LocM.map {o : Oper} {c : G} {Min : List Res} {τ : Type} {ψ : τ → Prop} {d : τ → D} {Mo : τ → List Res} {φ : σ → Prop} {d' : σ → D} {Mo' : σ → List Res} (up : τ → σ) (h : LocM P o c N Min ψ d Mo) (hφ : ∀ t, ψ t → φ (up t)) (hd : ∀ t, d' (up t) = d t) (hm : ∀ t, Mo' (up t) = Mo t) :
    LocM P o c N Min φ d' Mo' :=
  ⟨fun F I a w K Q hs hi hK => h.go F I a w K Q hs hi fun t v w' J ht hle hv hi' => hK (up t) v w' J (hφ t ht) hle (by rw [hd]; exact hv) (by rw [hm]; exact hi')⟩

def Ch.none : Ch Unit := ⟨[], fun _ _ => True, fun _ _ _ => True, fun _ _ _ _ h => absurd h (by simp)⟩
def Ch.one (x : Nat) (φ : σ → Prop) : Ch σ := ⟨[x], fun _ => φ, fun _ _ _ => True, fun a b _ _ h1 h2 h3 => absurd (by simp at h1 h2; rw [h1, h2]) h3⟩
def Ch.two {τ1 τ2 : Type} (x1 x2 : Nat) (φ1 : τ1 → Prop) (φ2 : τ2 → Prop) : Ch (τ1 × τ2) :=
  ⟨[x1, x2], fun i s => cond (Nat.beq i x1) (φ1 s.1) (φ2 s.2), fun i s s' => cond (Nat.beq i x1) (s'.2 = s.2) (s'.1 = s.1), fun a b s s' h1 h2 h3 he hp => by
    cases h4 : Nat.beq a x1 <;> cases h5 : Nat.beq b x1 <;> rw [h4] at he <;> rw [h5] at hp <;> simp only [cond_true, cond_false, h5] at he hp ⊢
    · simp at h1 h2
      have e4 := Nat.ne_of_beq_eq_false h4
      have e5 := Nat.ne_of_beq_eq_false h5
      exact absurd (by rw [h1.resolve_left e4, h2.resolve_left e5]) h3
    · rw [he]; exact hp
    · rw [he]; exact hp
    · exact absurd (by rw [Nat.eq_of_beq_eq_true h4, Nat.eq_of_beq_eq_true h5]) h3⟩

theorem dq_choose {τ : Type} (pr : σ → τ) (up : σ → τ → σ) {φ : τ → Prop} {r p : Nat} {v : σ → Res} {v' : τ → Res} {d : τ → D} {old : List (σ → Res)} (hix : nElem C.X i = true) (hup : ∀ s t, pr (up s t) = t ∧ (φ t → C.Φ i (up s t)) ∧ C.E i s (up s t))
    (hcx : ∀ s, CtxR g fs s need (c s)) (hv : vs[r]? = some (v :: old)) (hp : old.length = p)
    (h : ∀ s, C.good anc s → LocM P ⟨some dst, op, ty, pos, after, none⟩ (c s) N [v s] φ (fun t => d t) (fun t => [v' t]))
    (hc : AllX C.X fun x => x = i ∨ nElem anc x = true ∨ ∀ s s', C.E x s s' → pr s = pr s')
    (next : DR P f N I0 R g M l us C id k ((i, (fun s => d (pr s)), (fun s => d (pr s))) :: fs) (vs.set r ((fun s => v' (pr s)) :: v :: old)) ((dst, (fun s => d (pr s))) :: os) (i + 1) rest urest) :
    DR P f N I0 R g M l us C id k fs vs os i (⟨some dst, op, ty, pos, after, none⟩ :: rest) (⟨need, anc, some (r, p, true)⟩ :: urest) :=
  dr_choose hix hv hp (hc.imp fun x hx => hx.imp (fun e => e) (Or.imp (fun e => e) fun h s s' he => by rw [h s s' he]; exact ⟨rfl, rfl⟩))
    (fun s hs => by
      rw [(hcx s).eq]
      exact (h s hs).map (up s) (fun t ht => ⟨(hup s t).2.1 ht, (hup s t).2.2⟩) (fun t => by rw [(hup s t).1]) (fun t => by rw [(hup s t).1])) next

theorem dq_gpure {j : Nat} {want : Bool} {dg : σ → D} {cc : σ → Prop} (hix : nElem C.X i = false) (hcx : ∀ s, CtxR g fs s need (c s)) (hg : (lk fs j).map (·.1) = some dg) (hgd : ∀ s, guardD want (dg s) (cc s))
    (h : ∀ s, C.good anc s → cc s → ∀ M, LocP P ⟨some dst, op, ty, pos, after, some (j, want)⟩ (c s) N M (d s)) (hc : AllX C.X fun x => nElem anc x = true ∨ ∀ s s', C.E x s s' → dIf (cc s) (d s) = dIf (cc s') (d s'))
    (next : DR P f N I0 R g M l us C id k ((i, (fun s => dIf (cc s) (d s)), d) :: fs) vs ((dst, (fun s => dIf (cc s) (d s))) :: os) (i + 1) rest urest) :
    DR P f N I0 R g M l us C id k fs vs os i (⟨some dst, op, ty, pos, after, some (j, want)⟩ :: rest) (⟨need, anc, none⟩ :: urest) :=
  dr_gpure hix hg hgd hc (fun s hs hcs M => by rw [(hcx s).eq]; exact h s hs hcs M) next

theorem dq_gread {r p : Nat} {v : σ → Res} {old : List (σ → Res)} {j : Nat} {want : Bool} {dg : σ → D} {cc : σ → Prop} (hix : nElem C.X i = false) (hcx : ∀ s, CtxR g fs s need (c s)) (hv : vs[r]? = some (v :: old)) (hp : old.length = p) (hg : (lk fs j).map (·.1) = some dg) (hgd : ∀ s, guardD want (dg s) (cc s))
    (h : ∀ s, C.good anc s → cc s → ∀ M, In (v s) M → LocP P ⟨some dst, op, ty, pos, after, some (j, want)⟩ (c s) N M (d s)) (hc : AllX C.X fun x => nElem anc x = true ∨ ∀ s s', C.E x s s' → dIf (cc s) (d s) = dIf (cc s') (d s'))
    (next : DR P f N I0 R g M l us C id k ((i, (fun s => dIf (cc s) (d s)), d) :: fs) vs ((dst, (fun s => dIf (cc s) (d s))) :: os) (i + 1) rest urest) :
    DR P f N I0 R g M l us C id k fs vs os i (⟨some dst, op, ty, pos, after, some (j, want)⟩ :: rest) (⟨need, anc, some (r, p, false)⟩ :: urest) :=
  dr_gread hix hv hp hg hgd hc (fun s hs hcs M hm => by rw [(hcx s).eq]; exact h s hs hcs M hm) next


def outG (s : σ) : List (Nat × (σ → D)) → G → G
  | [], g => g
  | (t, d) :: os, g => (t, d s) :: outG s os g
def outM (s : σ) : List (List (σ → Res)) → List Res → List Res
  | [], M => M
  | (v :: _) :: vs, M => v s :: outM s vs M
  | [] :: vs, M => rNone :: outM s vs M

theorem outG_eq (s : σ) (g : G) : ∀ os : List (Nat × (σ → D)), os.map (fun p => (p.1, p.2 s)) ++ g = outG s os g
  | [] => rfl
  | (t, d) :: os => by simp only [List.map_cons, List.cons_append, outG, outG_eq s g os]
theorem outM_eq (s : σ) (M : List Res) : ∀ vs : List (List (σ → Res)), vs.map (fun hs => lastV hs s) ++ M = outM s vs M
  | [] => rfl
  | [] :: vs => congrArg (rNone :: ·) (outM_eq s M vs)
  | (v :: _) :: vs => congrArg (v s :: ·) (outM_eq s M vs)

theorem dq_end [hmix : TyMix P] {M0 rs : List Res} (s0 : σ) (hM : M = rs ++ M0) (hfirst : ∀ s : σ, vs.map (fun hs => (hs.reverse.headD fun _ => rNone) s) = rs) (hxn : AllX C.X fun x => Nat.blt x l.length = true)
    (hchk : (allLt l.length fun i => chkPred l i && chkRes us vs.length i) = true)
    (h : ∀ s, (∀ x ∈ C.X, C.Φ x s) → Run P f N I0 R (outG s os g) (outM s vs M0) k) :
    DR P f N I0 R g M l us C id k fs vs os i [] [] :=
  dr_end s0 hM hfirst (fun x hx => by have := hxn.all x hx; rwa [Nat.blt_eq] at this) hchk fun s hs => by rw [outG_eq, outM_eq]; exact h s hs

theorem Ch.one_good {x : Nat} {φ : σ → Prop} {s : σ} (h : ∀ y ∈ (Ch.one x φ).X, (Ch.one x φ).Φ y s) : φ s := h x (List.mem_singleton.2 rfl)
theorem Ch.two_good {τ1 τ2 : Type} {x1 x2 : Nat} {φ1 : τ1 → Prop} {φ2 : τ2 → Prop} {s : τ1 × τ2} (hne : Nat.beq x2 x1 = false) (h : ∀ y ∈ (Ch.two x1 x2 φ1 φ2).X, (Ch.two x1 x2 φ1 φ2).Φ y s) : φ1 s.1 ∧ φ2 s.2 := by
  have h1 := h x1 (by show x1 ∈ [x1, x2]; simp)
  have h2 := h x2 (by show x2 ∈ [x1, x2]; simp)
  simp only [Ch.two, hne, show Nat.beq x1 x1 = true from Nat.beq_refl x1, cond_true, cond_false] at h1 h2
  exact ⟨h1, h2⟩

end
end Go.Q
