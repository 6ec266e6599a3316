/- Loops and joins at which most slots stay as they are: what is proved here holds of every program. -/
import Derived.Test.YtmapjpdgjefnoaaQApi
set_option linter.unusedVariables false
set_option linter.unusedSimpArgs false
namespace Go.Q

variable {P : Program} {f : FuncId} {N : Nat} {I0 : Imm} {R : Ending → World → Prop} {g : G} {M : List Res} {k : List Item}

/-- Some slots of many. -/
inductive Restr (g : G) : List Nat → G → Prop where
  | nil : Restr g [] []
  | cons {s : Nat} {d : D} {ks : List Nat} {g0 : G} : look g s = some d → Restr g ks g0 → Restr g (s :: ks) ((s, d) :: g0)

@[reducible] def app : G → G → G
  | [], h => h
  | x :: e, h => x :: app e h

theorem Restr.keep {g g0 : G} {ks : List Nat} (h : Restr g ks g0) : Keep g g0 := by
  induction h with
  | nil => exact .nil
  | cons h1 _ ih => exact .cons h1 (fun _ _ x => x) ih

theorem Keep.app {g e g0 : G} (h1 : Keep g e) (h2 : Keep g g0) : Keep g (app e g0) := by
  induction h1 with
  | nil => exact h2
  | cons a b _ ih => exact .cons a b ih

/-- A loop: 'E' says the slots that it turns, 'g0' those that stay. -/
theorem run_loopE {c : Code} {σ : Type} {ks : List Nat} {g0 : G} (hr : Restr g ks g0) (E : σ → G) (Mo : σ → List Res) (φ : σ → Prop) (μ : σ → Nat) (s0 : σ) (h0 : φ s0) (hg : Keep g (E s0)) (hM : M = Mo s0)
    (round : ∀ s, φ s → (∀ s', φ s' → μ s' < μ s → Run P f N I0 R (app (E s') g0) (Mo s') (.inLoop c :: k)) → Run P f N I0 R (app (E s) g0) (Mo s) (.code c :: .inLoop c :: k)) :
    Run P f N I0 R g M (.code (.loop c) :: k) :=
  run_loop' (fun s => app (E s) g0) Mo φ μ s0 h0 (hg.app hr.keep) hM round

/-- .. and what is owned stays, too. -/
theorem run_loopC {c : Code} {σ : Type} {ks : List Nat} {g0 : G} (hr : Restr g ks g0) (E : σ → G) (φ : σ → Prop) (μ : σ → Nat) (s0 : σ) (h0 : φ s0) (hg : Keep g (E s0))
    (round : ∀ s, φ s → (∀ s', φ s' → μ s' < μ s → Run P f N I0 R (app (E s') g0) M (.inLoop c :: k)) → Run P f N I0 R (app (E s) g0) M (.code c :: .inLoop c :: k)) :
    Run P f N I0 R g M (.code (.loop c) :: k) :=
  run_loop' (fun s => app (E s) g0) (fun _ => M) φ μ s0 h0 (hg.app hr.keep) rfl round

theorem run_againE {c : Code} {σ : Type} {E : σ → G} {g0 : G} {Mo : σ → List Res} {φ : σ → Prop} {μ : σ → Nat} {m : Nat}
    (ih : ∀ s', φ s' → μ s' < m → Run P f N I0 R (app (E s') g0) (Mo s') (.inLoop c :: k)) (s' : σ) (hφ : φ s') (hμ : μ s' < m) (hg : Keep g (E s')) (h0 : Keep g g0) (hM : M = Mo s') : Run P f N I0 R g M (.inLoop c :: k) :=
  run_keep (hg.app h0) (hM ▸ ih s' hφ hμ)

theorem run_againC {c : Code} {σ : Type} {E : σ → G} {g0 : G} {φ : σ → Prop} {μ : σ → Nat} {m : Nat}
    (ih : ∀ s', φ s' → μ s' < m → Run P f N I0 R (app (E s') g0) M (.inLoop c :: k)) (s' : σ) (hφ : φ s') (hμ : μ s' < m) (hg : Keep g (E s')) (h0 : Keep g g0) : Run P f N I0 R g M (.inLoop c :: k) :=
  run_keep (hg.app h0) (ih s' hφ hμ)

/-- Before roads part: 'E' says the slots that they turn. -/
theorem run_joinE {c : Code} {σ : Type} {ks : List Nat} {g0 : G} (hr : Restr g ks g0) (E : σ → G) (Mo : σ → List Res) (φ : σ → Prop)
    (h2 : (∀ s, φ s → Run P f N I0 R (app (E s) g0) (Mo s) k) → Run P f N I0 R g M (.code c :: k)) (h1 : ∀ s, φ s → Run P f N I0 R (app (E s) g0) (Mo s) k) : Run P f N I0 R g M (.code c :: k) := h2 h1
theorem run_joinC {c : Code} {σ : Type} {ks : List Nat} {g0 : G} (hr : Restr g ks g0) (E : σ → G) (φ : σ → Prop)
    (h2 : (∀ s, φ s → Run P f N I0 R (app (E s) g0) M k) → Run P f N I0 R g M (.code c :: k)) (h1 : ∀ s, φ s → Run P f N I0 R (app (E s) g0) M k) : Run P f N I0 R g M (.code c :: k) := h2 h1

theorem run_atE {σ : Type} {E : σ → G} {g0 : G} {Mo : σ → List Res} {φ : σ → Prop} (j : ∀ s, φ s → Run P f N I0 R (app (E s) g0) (Mo s) k) (s : σ) (hφ : φ s) (hM : M = Mo s) (hg : Keep g (E s)) (h0 : Keep g g0) : Run P f N I0 R g M k :=
  run_keep (hg.app h0) (hM ▸ j s hφ)
theorem run_atC {σ : Type} {E : σ → G} {g0 : G} {φ : σ → Prop} (j : ∀ s, φ s → Run P f N I0 R (app (E s) g0) M k) (s : σ) (hφ : φ s) (hg : Keep g (E s)) (h0 : Keep g g0) : Run P f N I0 R g M k :=
  run_keep (hg.app h0) (j s hφ)

@[reducible] def appR : List Res → List Res → List Res
  | [], F => F
  | r :: A, F => r :: appR A F

/-- A resource to the front. -/
theorem run_front {r : Res} {C : Res → List Res} {F : List Res} (hm : Sel r M C F) (h : Run P f N I0 R g (r :: F) k) : Run P f N I0 R g M k :=
  run_weaken (fun _ _ _ hs hi => ⟨hs, hi.perm hm.perm.1⟩) h
theorem runL_front {ops : Array Oper} {l : List Oper} {r : Res} {C : Res → List Res} {F : List Res} (hm : Sel r M C F) (h : RunL P f N I0 R g (r :: F) ops l k) : RunL P f N I0 R g M ops l k :=
  ⟨fun I a w b cs hb hk hl hs hi => h.go I a w b cs hb hk hl hs (hi.perm hm.perm.1)⟩

/-- A loop that turns what stands first among what is owned. -/
theorem run_loopF {c : Code} {σ : Type} {ks : List Nat} {g0 : G} {F : List Res} (hr : Restr g ks g0) (E : σ → G) (A : σ → List Res) (φ : σ → Prop) (μ : σ → Nat) (s0 : σ) (h0 : φ s0) (hg : Keep g (E s0)) (hM : M = appR (A s0) F)
    (round : ∀ s, φ s → (∀ s', φ s' → μ s' < μ s → Run P f N I0 R (app (E s') g0) (appR (A s') F) (.inLoop c :: k)) → Run P f N I0 R (app (E s) g0) (appR (A s) F) (.code c :: .inLoop c :: k)) :
    Run P f N I0 R g M (.code (.loop c) :: k) :=
  run_loop' (fun s => app (E s) g0) (fun s => appR (A s) F) φ μ s0 h0 (hg.app hr.keep) hM round
theorem run_againF {c : Code} {σ : Type} {E : σ → G} {g0 : G} {A : σ → List Res} {F : List Res} {φ : σ → Prop} {μ : σ → Nat} {m : Nat}
    (ih : ∀ s', φ s' → μ s' < m → Run P f N I0 R (app (E s') g0) (appR (A s') F) (.inLoop c :: k)) (s' : σ) (hφ : φ s') (hμ : μ s' < m) (hg : Keep g (E s')) (h0 : Keep g g0) (hM : M = appR (A s') F) : Run P f N I0 R g M (.inLoop c :: k) :=
  run_keep (hg.app h0) (hM ▸ ih s' hφ hμ)
theorem run_joinF {c : Code} {σ : Type} {ks : List Nat} {g0 : G} (F : List Res) (hr : Restr g ks g0) (E : σ → G) (A : σ → List Res) (φ : σ → Prop)
    (hF : ∃ A0, M = appR A0 F) (h2 : (∀ s, φ s → Run P f N I0 R (app (E s) g0) (appR (A s) F) k) → Run P f N I0 R g M (.code c :: k)) (h1 : ∀ s, φ s → Run P f N I0 R (app (E s) g0) (appR (A s) F) k) : Run P f N I0 R g M (.code c :: k) := h2 h1
theorem run_atF {σ : Type} {E : σ → G} {g0 : G} {A : σ → List Res} {F : List Res} {φ : σ → Prop} (j : ∀ s, φ s → Run P f N I0 R (app (E s) g0) (appR (A s) F) k) (s : σ) (hφ : φ s) (hM : M = appR (A s) F) (hg : Keep g (E s)) (h0 : Keep g g0) : Run P f N I0 R g M k :=
  run_keep (hg.app h0) (hM ▸ j s hφ)

/-- What is known of each cell, told otherwise. -/
inductive Ups : List D → List D → Prop where
  | nil : Ups [] []
  | cons {d e : D} {ds es : List D} : (∀ I v, d.rel I v → e.rel I v) → Ups ds es → Ups (d :: ds) (e :: es)

theorem Ups.rel {ds es : List D} (h : Ups ds es) : ∀ {I : Imm} {vs : List Value}, relL ds I vs → relL es I vs := by
  induction h with
  | nil => intro I vs h; exact h
  | cons h1 _ ih =>
    intro I vs h
    cases vs with
    | nil => cases h
    | cons v vs => exact ⟨h1 _ _ h.1, ih h.2⟩

theorem d_aggU {ds es : List D} (h : Ups ds es) : ∀ I v, (dAgg ds).rel I v → (dAgg es).rel I v := fun _ _ ⟨cs, e, r⟩ => ⟨cs, e, h.rel r⟩
theorem d_tupU {ds es : List D} (h : Ups ds es) : ∀ I v, (dTup ds).rel I v → (dTup es).rel I v := fun _ _ ⟨cs, e, r⟩ => ⟨cs, e, h.rel r⟩
theorem d_id {d : D} : ∀ I v, d.rel I v → d.rel I v := fun _ _ h => h

end Go.Q
