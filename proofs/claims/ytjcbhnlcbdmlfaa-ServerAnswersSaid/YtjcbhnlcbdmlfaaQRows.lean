/- Rows that the call itself makes and lets grow; new slices; what is owned, picked out of a list: what is proved here holds of every program. -/
import Derived.Test.YtjcbhnlcbdmlfaaQOps2
set_option linter.unusedVariables false
set_option linter.unusedSimpArgs false
namespace Go.Q

variable {P : Program} {f : FuncId} {N : Nat} {I0 : Imm} {R : Goal} {g : G} {M : List Res} {k : List Item}
variable {dst : Option Tmp} {ty : TypeId} {pos : String} {after : Array Edge} {gd : Option (Nat × Bool)}

/-! ### Picking a resource -/

inductive Sel : Res → List Res → (Res → List Res) → List Res → Prop where
  | here {r : Res} {M : List Res} : Sel r (r :: M) (fun x => x :: M) M
  | there {r s : Res} {M F : List Res} {C : Res → List Res} : Sel r M C F → Sel r (s :: M) (fun x => s :: C x) (s :: F)

theorem Sel.perm {r : Res} {M F : List Res} {C : Res → List Res} (h : Sel r M C F) : M.Perm (r :: F) ∧ ∀ x, (x :: F).Perm (C x) := by
  induction h with
  | here => exact ⟨List.Perm.refl _, fun _ => List.Perm.refl _⟩
  | there _ ih => exact ⟨(ih.1.cons _).trans (List.Perm.swap ..), fun x => (List.Perm.swap ..).trans ((ih.2 x).cons _)⟩

/-- An operation that turns one resource, wherever it stands. -/
theorem run_upd {ops : Array Oper} {rest : List Oper} {dst : Tmp} {op : Op} {r : Res} {σ : Type} {φ : σ → Prop} {d : σ → D} {r' : σ → Res} {C : Res → List Res} {F : List Res}
    (hd : LocM P ⟨some dst, op, ty, pos, after, none⟩ g N [r] φ d (fun s => [r' s])) (hN : Nat.blt dst N = true) (hs : Sel r M C F) (h : ∀ s, φ s → RunL P f N I0 R ((dst, d s) :: g) (C (r' s)) ops rest k) :
    RunL P f N I0 R g M ops (⟨some dst, op, ty, pos, after, none⟩ :: rest) k := by
  constructor
  intro I a w b cs hb hk hl hsl hi
  refine wpl_plain hsl.defers rfl fun K hK => ?_
  refine hd.go F I a w K _ hsl (hi.perm hs.perm.1) fun s v w' J hφ hle hv hi' => hK _ _ ?_
  exact (h s hφ).go J _ w' b cs hb hk (hl.trans hle) ((hsl.mono hle).put hv (by simpa [Nat.blt_eq] using hN)) (hi'.perm (hs.perm.2 _))

theorem run_upd0 {ops : Array Oper} {rest : List Oper} {op : Op} {r : Res} {σ : Type} {φ : σ → Prop} {d : σ → D} {r' : σ → Res} {C : Res → List Res} {F : List Res}
    (hd : LocM P ⟨none, op, ty, pos, after, none⟩ g N [r] φ d (fun s => [r' s])) (hs : Sel r M C F) (h : ∀ s, φ s → RunL P f N I0 R g (C (r' s)) ops rest k) :
    RunL P f N I0 R g M ops (⟨none, op, ty, pos, after, none⟩ :: rest) k := by
  constructor
  intro I a w b cs hb hk hl hsl hi
  refine wpl_plain hsl.defers rfl fun K hK => ?_
  refine hd.go F I a w K _ hsl (hi.perm hs.perm.1) fun s v w' J hφ hle hv hi' => hK _ _ ?_
  exact (h s hφ).go J _ w' b cs hb hk (hl.trans hle) ((hsl.mono hle).none v) (hi'.perm (hs.perm.2 _))

/-- An operation that makes one resource. -/
theorem run_new {ops : Array Oper} {rest : List Oper} {dst : Tmp} {op : Op} {σ : Type} {φ : σ → Prop} {d : σ → D} {r' : σ → Res}
    (hd : LocM P ⟨some dst, op, ty, pos, after, none⟩ g N [] φ d (fun s => [r' s])) (hN : Nat.blt dst N = true) (h : ∀ s, φ s → RunL P f N I0 R ((dst, d s) :: g) (r' s :: M) ops rest k) :
    RunL P f N I0 R g M ops (⟨some dst, op, ty, pos, after, none⟩ :: rest) k := by
  constructor
  intro I a w b cs hb hk hl hsl hi
  refine wpl_plain hsl.defers rfl fun K hK => ?_
  refine hd.go M I a w K _ hsl hi fun s v w' J hφ hle hv hi' => hK _ _ ?_
  exact (h s hφ).go J _ w' b cs hb hk (hl.trans hle) ((hsl.mono hle).put hv (by simpa [Nat.blt_eq] using hN)) hi'

/-- An operation with a result of which something is known, nothing owned. -/
theorem run_ex {ops : Array Oper} {rest : List Oper} {dst : Tmp} {op : Op} {σ : Type} {φ : σ → Prop} {d : σ → D}
    (hd : LocM P ⟨some dst, op, ty, pos, after, none⟩ g N [] φ d (fun _ => [])) (hN : Nat.blt dst N = true) (h : ∀ s, φ s → RunL P f N I0 R ((dst, d s) :: g) M ops rest k) :
    RunL P f N I0 R g M ops (⟨some dst, op, ty, pos, after, none⟩ :: rest) k := by
  constructor
  intro I a w b cs hb hk hl hsl hi
  refine wpl_plain hsl.defers rfl fun K hK => ?_
  refine hd.go M I a w K _ hsl hi fun s v w' J hφ hle hv hi' => hK _ _ ?_
  exact (h s hφ).go J _ w' b cs hb hk (hl.trans hle) ((hsl.mono hle).put hv (by simpa [Nat.blt_eq] using hN)) hi'

/-- What a slot's descriptor says, asL a fact. -/
theorem run_fact {s : Nat} {d : D} {p : Prop} (hs : look g s = some d) (hp : ∀ I v, d.rel I v → p) (h : p → Run P f N I0 R g M k) : Run P f N I0 R g M k := by
  constructor
  intro I a w b cs hb hk hl hsl hi
  exact (h (hp _ _ (hsl.slot s d hs))).go I a w b cs hb hk hl hsl hi

/-- A slot, described otherwise. -/
theorem run_recast {s : Nat} {d d' : D} (hs : look g s = some d) (hd : ∀ I v, d.rel I v → d'.rel I v) (h : Run P f N I0 R ((s, d') :: g) M k) : Run P f N I0 R g M k := by
  refine run_weaken (fun I a w hsl hi => ⟨⟨hsl.size, hsl.defers, fun j e hj => ?_⟩, hi⟩) h
  rw [look_cons] at hj
  split at hj
  · rename_i e1
    subst e1
    injection hj with hj
    subst hj
    exact hd _ _ (hsl.slot _ _ hs)
  · exact hsl.slot _ _ hj

theorem runL_recast {ops : Array Oper} {l : List Oper} {s : Nat} {d d' : D} (hs : look g s = some d) (hd : ∀ I v, d.rel I v → d'.rel I v) (h : RunL P f N I0 R ((s, d') :: g) M ops l k) : RunL P f N I0 R g M ops l k := by
  constructor
  intro I a w b cs hb hk hl hsl hi
  refine h.go I a w b cs hb hk hl ⟨hsl.size, hsl.defers, fun j e hj => ?_⟩ hi
  rw [look_cons] at hj
  split at hj
  · rename_i e1
    subst e1
    injection hj with hj
    subst hj
    exact hd _ _ (hsl.slot _ _ hs)
  · exact hsl.slot _ _ hj

/-- Slots to keep, each asL it is or described otherwise. -/
inductive Keep (g : G) : G → Prop where
  | nil : Keep g []
  | cons {s : Nat} {d d' : D} {g' : G} : look g s = some d → (∀ I v, d.rel I v → d'.rel I v) → Keep g g' → Keep g ((s, d') :: g')

theorem Keep.slots {g g' : G} (h : Keep g g') {N : Nat} {I : Imm} {a : Act} (hs : Slots g N I a) : Slots g' N I a := by
  induction h with
  | nil => exact ⟨hs.size, hs.defers, fun k d hk => by simp [look] at hk⟩
  | cons h1 h2 _ ih =>
    refine ⟨hs.size, hs.defers, fun j e hj => ?_⟩
    rw [look_cons] at hj
    split at hj
    · rename_i e1
      subst e1
      injection hj with hj
      subst hj
      exact h2 _ _ (hs.slot _ _ h1)
    · exact ih.slot _ _ hj

theorem keep_same {g : G} {s : Nat} {d : D} {g' : G} (h : look g s = some d) (h' : Keep g g') : Keep g ((s, d) :: g') := .cons h (fun _ _ x => x) h'

theorem run_keep {g' : G} (hk : Keep g g') (h : Run P f N I0 R g' M k) : Run P f N I0 R g M k :=
  run_weaken (fun _ _ _ hs hi => ⟨hk.slots hs, hi⟩) h

/-- What is owned, in another order, or less of it. -/
theorem run_drop {M' : List Res} (hs : M'.Sublist M) (h : Run P f N I0 R g M' k) : Run P f N I0 R g M k :=
  run_weaken (fun _ _ _ hsl hi => ⟨hsl, hi.sub hs⟩) h
theorem run_perm {M' : List Res} (hs : M.Perm M') (h : Run P f N I0 R g M' k) : Run P f N I0 R g M k :=
  run_weaken (fun _ _ _ hsl hi => ⟨hsl, hi.perm hs⟩) h

/-- A loop: the slots and resources at its head, for each state. -/
theorem run_loop' {c : Code} {σ : Type} (Γ : σ → G) (Mo : σ → List Res) (φ : σ → Prop) (μ : σ → Nat) (s0 : σ) (h0 : φ s0) (hg : Keep g (Γ s0)) (hM : M = Mo s0)
    (round : ∀ s, φ s → (∀ s', φ s' → μ s' < μ s → Run P f N I0 R (Γ s') (Mo s') (.inLoop c :: k)) → Run P f N I0 R (Γ s) (Mo s) (.code c :: .inLoop c :: k)) :
    Run P f N I0 R g M (.code (.loop c) :: k) :=
  run_loop Γ Mo φ μ ⟨s0, h0, fun _ _ _ hs hi => ⟨hg.slots hs, hM ▸ hi⟩⟩ round

/-- The end of a round. -/
theorem run_again {c : Code} {σ : Type} {Γ : σ → G} {Mo : σ → List Res} {φ : σ → Prop} {μ : σ → Nat} {m : Nat}
    (ih : ∀ s', φ s' → μ s' < m → Run P f N I0 R (Γ s') (Mo s') (.inLoop c :: k)) (s' : σ) (hφ : φ s') (hμ : μ s' < m) (hg : Keep g (Γ s')) (hM : M = Mo s') : Run P f N I0 R g M (.inLoop c :: k) :=
  run_keep hg (hM ▸ ih s' hφ hμ)

/-! ### Cells become immutable -/

theorem run_freezeCells {s b : Nat} {T : TypeId} {ds : List D} {C : Res → List Res} {F : List Res} (hs : look g s = some (dVal (ptr b 0))) (hm : Sel (rCells b T ds) M C F) (h : Run P f N I0 R ((s, dBox ds) :: g) F k) : Run P f N I0 R g M k := by
  refine run_turn (fun I a w hsl hi => ?_) h
  obtain ⟨o, ⟨cs, ho, hr⟩, hn, hi'⟩ := (hi.perm hm.perm.1).freeze (b := b) rfl
  injection ho with ho
  subst ho
  have hle := Imm.le_add (o := .cells cs T (0, 0)) hn
  refine ⟨_, hle, ⟨hsl.size, hsl.defers, fun j e hj => ?_⟩, hi'⟩
  rw [look_cons] at hj
  split at hj
  · rename_i e1
    subst e1
    injection hj with hj
    subst hj
    have h1 := hsl.slot _ _ hs
    exact ⟨⟨b, 0, none⟩, h1, add_at hn hr⟩
  · exact e.mono hle (hsl.slot _ _ hj)

/-! ### Rows -/

/-- A row of the call's own that may grow: nil, or at the head of a block of its own. -/
def rRow {α : Type} (v : Value) (T : TypeId) (n : Nat) (f : α → List D) (xs : List α) : Res :=
  ⟨match v with | .slice (some a) _ _ => some a.block | _ => none,
   fun I o => match o with
     | none => v = .slice none 0 0 ∧ xs = []
     | some ob => ∃ b cap cs, v = .slice (some ⟨b, 0, none⟩) xs.length cap ∧ ob = .cells cs T (0, 0) ∧ cs.size = cap * n ∧ xs.length ≤ cap ∧ cap ≤ maxLen ∧ xs.length ≤ lenMax ∧
         (∀ x ∈ xs, (f x).length = n) ∧ relL (xs.flatMap f) I (cs.toList.take (xs.length * n)),
   fun {I J o} h hs => by
     cases o with
     | none => exact hs
     | some ob =>
       obtain ⟨b, cap, cs, h1, h2, h3, h4, h5, h6, h7, h8⟩ := hs
       exact ⟨b, cap, cs, h1, h2, h3, h4, h5, h6, h7, relL_mono h h8⟩⟩

theorem row_cases {α : Type} {v : Value} {T : TypeId} {n : Nat} {f : α → List D} {xs : List α} {I : Imm} {M : List Res} {w : World} (h : Inv I (rRow v T n f xs :: M) w) :
    (v = .slice none 0 0 ∧ xs = []) ∨ ∃ b cap cs, v = .slice (some ⟨b, 0, none⟩) xs.length cap ∧ w.heap[b]? = some (.cells cs T (0, 0)) ∧ cs.size = cap * n ∧ xs.length ≤ cap ∧ cap ≤ maxLen ∧ xs.length ≤ lenMax ∧
         (∀ x ∈ xs, (f x).length = n) ∧ relL (xs.flatMap f) I (cs.toList.take (xs.length * n)) := by
  have h1 := h.own _ (List.mem_cons_self ..)
  unfold Res.ok at h1
  split at h1
  · exact .inl h1
  · rename_i b hb
    obtain ⟨_, o, h3, b', cap, cs, h4, h5, h6⟩ := h1
    subst h4
    subst h5
    simp only [rRow, Option.some.injEq] at hb
    subst hb
    exact .inr ⟨b', cap, cs, rfl, h3, h6⟩

theorem flatMap_length {α : Type} {f : α → List D} {n : Nat} : ∀ {xs : List α}, (∀ x ∈ xs, (f x).length = n) → (xs.flatMap f).length = xs.length * n
  | [], _ => by simp
  | x :: xs, h => by
    simp only [List.flatMap_cons, List.length_append, List.length_cons, Nat.add_mul, Nat.one_mul]
    rw [h x (List.mem_cons_self ..), flatMap_length fun y hy => h y (List.mem_cons_of_mem _ hy)]
    omega

/-- One element's cells out of the cells of all. -/
theorem relL_elem {α : Type} {f : α → List D} {n : Nat} {I : Imm} : ∀ {xs : List α} {cs : List Value}, (∀ x ∈ xs, (f x).length = n) → relL (xs.flatMap f) I cs → ∀ i x, xs[i]? = some x → relL (f x) I ((cs.drop (i * n)).take n)
  | y :: xs, cs, hn, h, 0, x, hx => by
    simp at hx
    subst hx
    have h1 := relL_take n h
    have h2 : ((y :: xs).flatMap f).take n = f y := by
      rw [List.flatMap_cons, ← hn y (List.mem_cons_self ..)]
      exact List.take_left
    rw [h2] at h1
    simpa using h1
  | y :: xs, cs, hn, h, i + 1, x, hx => by
    have h1 := relL_drop n h
    have h2 : ((y :: xs).flatMap f).drop n = xs.flatMap f := by
      rw [List.flatMap_cons, ← hn y (List.mem_cons_self ..)]
      exact List.drop_left
    rw [h2] at h1
    have h3 := relL_elem (fun z hz => hn z (List.mem_cons_of_mem _ hz)) h1 i x (by simpa using hx)
    rw [List.drop_drop] at h3
    have e : n + i * n = (i + 1) * n := by rw [Nat.add_mul]; omega
    rwa [e] at h3

/-- All elements' cells are of one cell each. -/
class OneAll (ds : List D) : Prop where
  all : ∀ {I vs}, relL ds I vs → ∀ u ∈ vs, u.oneCell' = true
instance : OneAll [] := ⟨fun {I vs} h u hu => by cases vs with | nil => cases hu | cons => cases h⟩
instance (d : D) (ds : List D) [h1 : One d] [h2 : OneAll ds] : OneAll (d :: ds) := ⟨fun {I vs} h u hu => by
  cases vs with
  | nil => cases h
  | cons v vs =>
    rcases List.mem_cons.1 hu with rfl | hu
    · exact (h1.one h.1).2
    · exact h2.all h.2 u hu⟩

theorem oneAll_flat {α : Type} {f : α → List D} (h : ∀ x, OneAll (f x)) {I : Imm} : ∀ {xs : List α} {vs : List Value}, relL (xs.flatMap f) I vs → ∀ u ∈ vs, u.oneCell' = true
  | [], [], _, u, hu => by cases hu
  | x :: xs, vs, hr, u, hu => by
    have h1 := relL_take (f x).length hr
    have h2 := relL_drop (f x).length hr
    rw [List.flatMap_cons, List.take_left] at h1
    rw [List.flatMap_cons, List.drop_left] at h2
    rw [← List.take_append_drop (f x).length vs] at hu
    rcases List.mem_append.1 hu with hu | hu
    · exact (h x).all h1 u hu
    · exact oneAll_flat h h2 u hu

/-- What a slice of immutable elements holds, cell by cell. -/
theorem dSl_cells {α : Type} {n : Nat} {f : α → List D} {I : Imm} {M : List Res} {w : World} (hi : Inv I M w) {a : Option Addr} : ∀ {xs : List α} (i0 : Nat),
    (∀ i x, xs[i]? = some x → (f x).length = n ∧ ∃ p, a = some p ∧ p.spot = none ∧ I.at (p.add ((i0 + i) * n)) (f x)) →
    ∃ vs : List Value, vs.length = xs.length * n ∧ relL (xs.flatMap f) I vs ∧ ∀ p, a = some p → ∀ j u, vs[j]? = some u → w.cell? (p.add (i0 * n + j)) = some u
  | [], i0, _ => ⟨[], by simp, trivial, fun _ _ j u h => by cases h⟩
  | x :: xs, i0, h => by
    obtain ⟨hn, p, rfl, hsp, hat⟩ := h 0 x rfl
    obtain ⟨vs, h1, h2, h3⟩ := dSl_cells hi (xs := xs) (i0 + 1) (fun i y hy => by
      have := h (i + 1) y (by simpa using hy)
      have e : i0 + 1 + i = i0 + (i + 1) := by omega
      rwa [e])
    have hlen : ∀ j, j < n → ∃ v, w.cell? (p.add (i0 * n + j)) = some v ∧ ∀ d, (f x)[j]? = some d → d.rel I v := by
      intro j hj
      obtain ⟨v, hv, hd⟩ := at_cell hi hat j ((f x)[j]'(by omega)) (by simp)
      have e : (p.add ((i0 + 0) * n)).add j = p.add (i0 * n + j) := by
        obtain ⟨b, o, s⟩ := p
        simp only at hsp
        subst hsp
        rw [Addr.add_lit, Addr.add_lit, Addr.add_lit, Nat.add_zero, Nat.add_assoc]
      rw [e] at hv
      refine ⟨v, hv, fun d hd' => ?_⟩
      have : (f x)[j]'(by omega) = d := by simpa [List.getElem?_eq_some_iff, hn, hj] using hd'
      exact this ▸ hd
    have hch : ∃ us : List Value, us.length = n ∧ (∀ j u, us[j]? = some u → w.cell? (p.add (i0 * n + j)) = some u) ∧ relL (f x) I us := by
      have key : ∀ (ds : List D) (j0 : Nat), j0 + ds.length = n → (∀ j d, ds[j]? = some d → (f x)[j0 + j]? = some d) → ∃ us : List Value, us.length = ds.length ∧ (∀ j u, us[j]? = some u → w.cell? (p.add (i0 * n + (j0 + j))) = some u) ∧ relL ds I us := by
        intro ds
        induction ds with
        | nil => intro j0 _ _; exact ⟨[], rfl, (fun j u h => by cases h), trivial⟩
        | cons d ds ih =>
          intro j0 hj0 hds
          simp only [List.length_cons] at hj0
          obtain ⟨v, hv, hd⟩ := hlen j0 (by omega)
          obtain ⟨us, e1, e2, e3⟩ := ih (j0 + 1) (by omega) (fun j d' hd' => by
            have := hds (j + 1) d' (by simpa using hd')
            have e : j0 + 1 + j = j0 + (j + 1) := by omega
            rwa [e])
          refine ⟨v :: us, by simp [e1], fun j u hu => ?_, hd d (by simpa using hds 0 d rfl), e3⟩
          cases j with
          | zero => simp at hu; subst hu; exact hv
          | succ j =>
            have := e2 j u (by simpa using hu)
            have e : j0 + 1 + j = j0 + (j + 1) := by omega
            rwa [e] at this
      obtain ⟨us, e1, e2, e3⟩ := key (f x) 0 (by omega) (fun j d hd => by simpa using hd)
      exact ⟨us, by rw [e1, hn], fun j u hu => by simpa using e2 j u hu, e3⟩
    obtain ⟨us, e1, e2, e3⟩ := hch
    refine ⟨us ++ vs, by rw [List.length_append, e1, h1, List.length_cons, Nat.add_mul]; omega, ?_, fun q hq j u hu => ?_⟩
    · rw [List.flatMap_cons]
      exact relL_append e3 h2
    · injection hq with hq
      subst hq
      by_cases hj : j < us.length
      · rw [List.getElem?_append_left hj] at hu
        exact e2 j u hu
      · rw [List.getElem?_append_right (by omega)] at hu
        have := h3 p rfl _ u hu
        have e : (i0 + 1) * n + (j - us.length) = i0 * n + j := by rw [Nat.add_mul]; omega
        rwa [e] at this


/-! ### append onto a row of the call's own -/

theorem info_of_z {t : TypeId} {bytes n : Nat} {z : Value} {agg : Bool} (hz : TyZ P t bytes z) (hv : TyV P t agg n) : ∃ i, P.info? t = some i ∧ i.zero = some z ∧ i.size = n ∧ i.bytes = bytes := by
  have h1 := hz.eq
  have h2 := hv.size_eq
  cases hu : P.info? t with
  | none => simp [hu] at h1
  | some i =>
    simp only [hu, Option.map_some, Option.some.injEq, Prod.mk.injEq] at h1 h2
    exact ⟨i, rfl, h1.2, h2, h1.1⟩

theorem row_append {α : Type} {v : Value} {T : TypeId} {n : Nat} {f : α → List D} {xs ys : List α} {I : Imm} {F : List Res} {w : World} {t e : TypeId} {bytes : Nat} {z : Value} {agg : Bool}
    [ht : TySl P t e] [hz : TyZ P e bytes z] [hv : TyV P e agg n] [h1 : ∀ x, OneAll (f x)] (hT : T = e) (hzn : z.cells.size = n)
    (hi : Inv I (rRow v T n f xs :: F) w) {a : Option Addr} {m c : Nat} (hm : m = ys.length) (hc : m ≤ c)
    (hel : ∀ i x, ys[i]? = some x → (f x).length = n ∧ ∃ p, a = some p ∧ p.spot = none ∧ I.at (p.add (i * n)) (f x))
    (hnil : a = none → ys = [])
    (hb : (xs.length + ys.length) * bytes ≤ 140737488355328) (hlm : xs.length + ys.length ≤ lenMax) (ty : TypeId) :
    ∃ v' w', (Builtin.append_ #[t, t] ty #[v, .slice a m c]).run P w = .ok v' w' ∧ Inv I (rRow v' T n f (xs ++ ys) :: F) w' := by
  subst hm hT
  obtain ⟨i, hin, hiz, his, hib⟩ := info_of_z hz hv
  subst his hib
  obtain ⟨vs, hvl, hvr, hvc⟩ := dSl_cells hi (a := a) (xs := ys) 0 (by simpa using hel)
  have hone : ∀ u ∈ vs, u.oneCell' = true := oneAll_flat h1 hvr
  have hlen : ∀ x ∈ xs ++ ys, (f x).length = i.size := by
    intro x hx
    rcases List.mem_append.1 hx with hx | hx
    · rcases row_cases hi with ⟨_, hxs⟩ | ⟨_, _, _, _, _, _, _, _, _, h7, _⟩
      · subst hxs; cases hx
      · exact h7 x hx
    · obtain ⟨j, hj⟩ := List.getElem?_of_mem hx
      exact (hel j x hj).1
  have hfr : ∀ (w : World) (b : Nat), w.heap.size ≤ b → True := fun _ _ _ => trivial
  cases a with
  | none =>
    have hys := hnil rfl
    subst hys
    -- nothing is appended
    simp only [List.append_nil]
    refine ⟨v, w, ?_, hi⟩
    rcases row_cases hi with ⟨rfl, _⟩ | ⟨b, cap, cs, rfl, h3, h4, h5, _⟩
    · simp [Builtin.append_, run_underlying ht.eq, sizeOf, typeInfo, hin, Builtin.lenOf, Builtin.firstCells]
    · simp [Builtin.append_, run_underlying ht.eq, sizeOf, typeInfo, hin, Builtin.lenOf, Builtin.firstCells, h5, storeCells]
  | some p =>
    have hvc' : ∀ j u, vs[j]? = some u → w.cell? (p.add j) = some u := by simpa using hvc p rfl
    rcases row_cases hi with ⟨rfl, hxs⟩ | ⟨b, cap, cs, rfl, h3, h4, h5, h6, h7, h8, h9⟩
    · subst hxs
      by_cases hm0 : ys = []
      · subst hm0
        refine ⟨.slice none 0 0, w, ?_, by simpa using hi⟩
        simp [Builtin.append_, run_underlying ht.eq, sizeOf, typeInfo, hin, Builtin.lenOf, Builtin.firstCells, loadCells, loadCellsFrom]
      · have hpos : 0 < ys.length := by cases ys with | nil => exact absurd rfl hm0 | cons => simp
        simp only [List.length_nil, Nat.zero_add] at hb hlm
        have hr := run_append_nil (P := P) w t ty T i z ht.eq hin hiz p ys.length c vs hvl hvc' hpos (by unfold lenMax at hlm; omega) (by omega)
        refine ⟨_, _, hr, ?_⟩
        refine hi.move (b := w.heap.size) rfl (Nat.le_refl _) rfl rfl rfl (fun c hc _ => Go.RowKit.Below.heap_alloc w.drew _ c hc) (o := _) (heap_alloc_new w.drew _) ?_
        have hge := grownCap_ge w ys.length 0 T
        have hcm := grownCap_le_maxLen w ys.length 0 T (by unfold lenMax at hlm; simp only [maxLen]; omega)
        refine ⟨w.heap.size, grownCap w ys.length 0 T, _, rfl, rfl, ?_, by simpa using hge, hcm, by simpa using hlm, hlen, ?_⟩
        · simp only [Array.size_append, List.size_toArray, size_zeroCells, hzn, hvl, ← Nat.add_mul]
          congr 1
          omega
        · simp only [Array.toList_append, List.nil_append]
          rw [← hvl, List.take_left]
          exact hvr
    · have hxl : (xs.flatMap f).length = xs.length * i.size := flatMap_length h8
      have htl : (cs.toList.take (xs.length * i.size)).length = xs.length * i.size := by rw [← relL_length h9, hxl]
      by_cases hroom : xs.length + ys.length ≤ cap
      · have hfit : xs.length * i.size + vs.length ≤ cs.size := by rw [hvl, h4, ← Nat.add_mul]; exact Nat.mul_le_mul_right _ hroom
        have hr := run_append_room (P := P) w t ty T i ht.eq hin b xs.length cap cs h3 p ys.length c vs hvl hvc' hone hroom hfit
        refine ⟨_, _, hr, hi.write (b := b) rfl rfl rfl rfl rfl (fun k hk _ => setRow_other w b k _ hk) (setRow_heap w b cs _ T _ h3) ?_⟩
        refine ⟨b, cap, _, by simp, rfl, ?_, by simpa using hroom, h6, by simpa using hlm, hlen, ?_⟩
        · simp only [List.size_toArray, List.length_append, List.length_drop, Array.length_toList, htl]
          omega
        · rw [List.flatMap_append, List.length_append, Nat.add_mul, ← hvl]
          have e : (cs.toList.take (xs.length * i.size) ++ vs ++ cs.toList.drop (xs.length * i.size + vs.length)).take (xs.length * i.size + vs.length) = cs.toList.take (xs.length * i.size) ++ vs := by
            have e2 : xs.length * i.size + vs.length = (cs.toList.take (xs.length * i.size) ++ vs).length := by rw [List.length_append, htl]
            rw [e2]
            exact List.take_left
          rw [e]
          exact relL_append h9 hvr
      · have holds : ∀ j u, (cs.toList.take (xs.length * i.size))[j]? = some u → w.cell? ((⟨b, 0, none⟩ : Addr).add j) = some u := by
          intro j u hj
          rw [Addr.add_lit, Nat.zero_add]
          rw [List.getElem?_take] at hj
          split at hj
          · rw [Array.getElem?_toList] at hj
            simp [World.cell?, h3, hj]
          · cases hj
        have hr := run_append_grow (P := P) w t ty T i z ht.eq hin hiz ⟨b, 0, none⟩ xs.length cap _ htl holds p ys.length c vs hvl hvc' (by omega) (by unfold lenMax at hlm; omega) (growslice_fits (by omega) hb)
        refine ⟨_, _, hr, ?_⟩
        refine hi.move (b := w.heap.size) (by simp [rRow]) (Nat.le_refl _) rfl rfl rfl (fun k hk _ => Go.RowKit.Below.heap_alloc w.drew _ k hk) (o := _) (heap_alloc_new w.drew _) ?_
        have hge := grownCap_ge w (xs.length + ys.length) cap T
        have hcm := grownCap_le_maxLen w (xs.length + ys.length) cap T (by unfold lenMax at hlm; simp only [maxLen]; omega)
        refine ⟨w.heap.size, grownCap w (xs.length + ys.length) cap T, _, by simp, rfl, ?_, by simpa using hge, hcm, by simpa using hlm, hlen, ?_⟩
        · simp only [Array.size_append, List.size_toArray, size_zeroCells, hzn, htl, hvl, ← Nat.add_mul]
          congr 1
          omega
        · rw [List.flatMap_append, List.length_append, Nat.add_mul]
          simp only [Array.toList_append]
          have e2 : xs.length * i.size + ys.length * i.size = (cs.toList.take (xs.length * i.size) ++ vs).length := by rw [List.length_append, htl, hvl]
          rw [e2, List.take_left]
          exact relL_append h9 hvr

end Go.Q
