/- Slots, descriptors of values, and the rules of control: what is proved here holds of every program. -/
import Derived.Test.YtmapjpdgjefnoaaQCore
set_option linter.unusedVariables false
set_option linter.unusedSimpArgs false
namespace Go.Q

/-! ### Descriptors -/

def dTop : D := ⟨fun _ _ => True, fun _ h => h⟩
def dVal (u : Value) : D := ⟨fun _ v => v = u, fun _ h => h⟩
def dInt (k : IntKind) (n : Int) : D := ⟨fun _ v => v = .int k n, fun _ h => h⟩
/-- A bool that says a proposition. -/
def dB (p : Prop) : D := ⟨fun _ v => ∃ b : Bool, v = .bool b ∧ (b = true ↔ p), fun _ h => h⟩
def dStr (s : ByteArray) : D := ⟨fun _ v => v = .string s, fun _ h => h⟩
/-- Known under a condition; undefined without it. -/
def dIf (c : Prop) (d : D) : D := ⟨fun I v => (c → d.rel I v) ∧ (¬ c → v = undef), fun h hv => ⟨fun hc => d.mono h (hv.1 hc), hv.2⟩⟩

def relL : List D → Imm → List Value → Prop
  | [], _, [] => True
  | d :: ds, I, v :: vs => d.rel I v ∧ relL ds I vs
  | _, _, _ => False

theorem relL_mono {I J : Imm} (h : I.le J) : ∀ {ds : List D} {vs : List Value}, relL ds I vs → relL ds J vs
  | [], [], _ => trivial
  | _ :: _, _ :: _, ⟨h1, h2⟩ => ⟨D.mono _ h h1, relL_mono h h2⟩

theorem relL_length {I : Imm} : ∀ {ds : List D} {vs : List Value}, relL ds I vs → ds.length = vs.length
  | [], [], _ => rfl
  | _ :: _, _ :: _, ⟨_, h2⟩ => congrArg (· + 1) (relL_length h2)

theorem relL_get {I : Imm} : ∀ {ds : List D} {vs : List Value}, relL ds I vs → ∀ (i : Nat) (d : D), ds[i]? = some d → ∃ v, vs[i]? = some v ∧ d.rel I v
  | d :: ds, v :: vs, ⟨h1, h2⟩, 0, d', h => by simp at h; subst h; exact ⟨v, rfl, h1⟩
  | d :: ds, v :: vs, ⟨h1, h2⟩, i + 1, d', h => by simpa using relL_get h2 i d' (by simpa using h)

theorem relL_take {I : Imm} : ∀ {ds : List D} {vs : List Value} (n : Nat), relL ds I vs → relL (ds.take n) I (vs.take n)
  | [], [], n, _ => by simp [relL]
  | d :: ds, v :: vs, 0, _ => by simp [relL]
  | d :: ds, v :: vs, n + 1, ⟨h1, h2⟩ => ⟨h1, relL_take n h2⟩

theorem relL_drop {I : Imm} : ∀ {ds : List D} {vs : List Value} (n : Nat), relL ds I vs → relL (ds.drop n) I (vs.drop n)
  | [], [], n, _ => by simp [relL]
  | d :: ds, v :: vs, 0, h => h
  | d :: ds, v :: vs, n + 1, ⟨h1, h2⟩ => relL_drop n h2

theorem relL_append {I : Imm} : ∀ {ds es : List D} {vs us : List Value}, relL ds I vs → relL es I us → relL (ds ++ es) I (vs ++ us)
  | [], _, [], _, _, h => h
  | _ :: _, _, _ :: _, _, ⟨h1, h2⟩, h => ⟨h1, relL_append h2 h⟩

theorem relL_set {I : Imm} {d : D} {v : Value} (hd : d.rel I v) : ∀ {ds : List D} {vs : List Value} (i : Nat), relL ds I vs → relL (ds.set i d) I (vs.set i v)
  | [], [], _, _ => trivial
  | _ :: _, _ :: _, 0, ⟨_, h2⟩ => ⟨hd, h2⟩
  | _ :: _, _ :: _, i + 1, ⟨h1, h2⟩ => ⟨h1, relL_set hd i h2⟩

/-- A struct or an array, cell by cell. -/
def dAgg (ds : List D) : D := ⟨fun I v => ∃ cs : Array Value, v = .agg cs ∧ relL ds I cs.toList, fun h ⟨cs, e, r⟩ => ⟨cs, e, relL_mono h r⟩⟩
def dTup (ds : List D) : D := ⟨fun I v => ∃ cs : Array Value, v = .tuple cs ∧ relL ds I cs.toList, fun h ⟨cs, e, r⟩ => ⟨cs, e, relL_mono h r⟩⟩

/-- Immutable cells at a place. -/
def Imm.at (I : Imm) (a : Addr) (ds : List D) : Prop :=
  a.spot = none ∧ ∃ cs T fz, I.blk a.block = some (.cells cs T fz) ∧ relL ds I ((cs.toList.drop a.off).take ds.length)

theorem Imm.at_mono {I J : Imm} (h : I.le J) {a : Addr} {ds : List D} (hh : I.at a ds) : J.at a ds := by
  obtain ⟨h0, cs, T, fz, h1, h2⟩ := hh
  exact ⟨h0, cs, T, fz, h.blk _ _ h1, relL_mono h h2⟩

/-- A pointer to immutable cells. -/
def dBox (ds : List D) : D := ⟨fun I v => ∃ a, v = .pointer (some a) ∧ I.at a ds, fun h ⟨a, e, r⟩ => ⟨a, e, Imm.at_mono h r⟩⟩

/-- The most elements that a slice is let to have. -/
def lenMax : Nat := 17592186044416

/-- A slice of immutable elements, of 'n' cells each. -/
def dSl {α : Type} (n : Nat) (f : α → List D) (xs : List α) : D :=
  ⟨fun I v => ∃ a cap, v = .slice a xs.length cap ∧ xs.length ≤ cap ∧ cap ≤ maxLen ∧ xs.length ≤ lenMax ∧
      (∀ i x, xs[i]? = some x → (f x).length = n ∧ ∃ p, a = some p ∧ p.spot = none ∧ I.at (p.add (i * n)) (f x)),
   fun h ⟨a, cap, e, h1, h2, h3, h4⟩ => ⟨a, cap, e, h1, h2, h3, fun i x hx => let ⟨h5, p, h6, h7, h8⟩ := h4 i x hx; ⟨h5, p, h6, h7, Imm.at_mono h h8⟩⟩⟩

abbrev dInts (xs : List Int) : D := dSl 1 (fun x => [dInt .i64 x]) xs
abbrev dRows (xs : List (List Int)) : D := dSl 1 (fun x => [dInts x]) xs

/-! ### Slots -/

abbrev G := List (Nat × D)

def look : G → Nat → Option D
  | [], _ => none
  | (i, d) :: g, k => bif Nat.beq i k then some d else look g k

def opd (g : G) : Operand → Option D
  | .tmp t => look g t
  | .const (.int k n) => some (dInt k n)
  | .const (.bool true) => some (dB True)
  | .const (.bool false) => some (dB False)
  | .const (.string s) => some (dStr s)
  | .const v => some (dVal v)
  | .global g => some (dVal (.pointer (some ⟨g, 0, none⟩)))
  | .func f => some (dVal (.func (.func f) #[] #[]))

structure Slots (g : G) (N : Nat) (I : Imm) (a : Act) : Prop where
  size : a.tmps.size = N
  defers : a.defers = []
  slot : ∀ k d, look g k = some d → d.rel I (a.tmps.getD k undef)

theorem Slots.mono {g : G} {N : Nat} {I J : Imm} {a : Act} (h : Slots g N I a) (hl : I.le J) : Slots g N J a :=
  ⟨h.size, h.defers, fun k d e => d.mono hl (h.slot k d e)⟩

theorem look_cons (g : G) (i k : Nat) (d : D) : look ((i, d) :: g) k = if i = k then some d else look g k := by
  simp only [look]
  by_cases h : i = k
  · subst h; simp
  · have : Nat.beq i k = false := by cases hb : Nat.beq i k with | false => rfl | true => exact absurd (Nat.eq_of_beq_eq_true hb) h
    simp [h, this]

theorem Slots.put {g : G} {N : Nat} {I : Imm} {a : Act} (h : Slots g N I a) {k : Nat} {d : D} {v : Value} (hd : d.rel I v) (hk : k < N) :
    Slots ((k, d) :: g) N I (a.put (some k) v) := by
  refine ⟨by simp [Act.put, h.size], h.defers, fun j e hj => ?_⟩
  rw [look_cons] at hj
  simp only [Act.put]
  by_cases hjk : k = j
  · subst hjk
    rw [if_pos rfl] at hj
    injection hj with hj
    subst hj
    have : k < a.tmps.size := by rw [h.size]; exact hk
    simpa [Array.getD_eq_getD_getElem?, Array.getElem?_setIfInBounds, this] using hd
  · rw [if_neg hjk] at hj
    have := h.slot j e hj
    simpa [Array.getD_eq_getD_getElem?, Array.getElem?_setIfInBounds_ne hjk] using this

theorem Slots.none {g : G} {N : Nat} {I : Imm} {a : Act} (h : Slots g N I a) (v : Value) : Slots g N I (a.put none v) := h

/-- What is written is forgotten. -/
theorem Slots.forget {g : G} {N : Nat} {I : Imm} {a : Act} (h : Slots g N I a) {k : Nat} (v : Value) (hk : k < N) : Slots ((k, dTop) :: g) N I (a.put (some k) v) :=
  h.put trivial hk

theorem opd_sound {g : G} {N : Nat} {I : Imm} {a : Act} (h : Slots g N I a) {x : Operand} {d : D} (hx : opd g x = some d) : d.rel I (a.eval x) := by
  cases x with
  | tmp t => exact h.slot t d hx
  | const v =>
    cases v with
    | bool b => cases b <;> (simp only [opd, Option.some.injEq] at hx; subst hx; exact ⟨_, rfl, by simp⟩)
    | _ => simp only [opd, Option.some.injEq] at hx; subst hx; exact rfl
  | global n => simp only [opd, Option.some.injEq] at hx; subst hx; exact rfl
  | func f => simp only [opd, Option.some.injEq] at hx; subst hx; exact rfl

def opds (g : G) : List Operand → Option (List D)
  | [] => some []
  | x :: xs => (opd g x).bind fun d => (opds g xs).map (d :: ·)

theorem opds_sound {g : G} {N : Nat} {I : Imm} {a : Act} (h : Slots g N I a) : ∀ {xs : List Operand} {ds : List D}, opds g xs = some ds → relL ds I (xs.map a.eval)
  | [], ds, hx => by simp [opds] at hx; subst hx; trivial
  | x :: xs, ds, hx => by
    simp only [opds] at hx
    cases h1 : opd g x with
    | none => simp [h1] at hx
    | some d =>
      cases h2 : opds g xs with
      | none => simp [h1, h2] at hx
      | some es =>
        simp [h1, h2] at hx
        subst hx
        exact ⟨opd_sound h h1, opds_sound h h2⟩

/-! ### One operation -/

/-- An operation that leaves what is owned alone. -/
structure LocP (P : Program) (o : Oper) (g : G) (N : Nat) (M : List Res) (d : D) : Prop where
  go : ∀ (I : Imm) (a : Act) (w : World) (K : Act → World → Prop) (Q : Exit → Act → World → Prop), Slots g N I a → Inv I M w →
    (∀ v w' J, I.le J → d.rel J v → Inv J M w' → K (a.put o.dst v) w') → o.wp P a w K Q

/-- An operation that may turn what is owned: 'Min' becomes 'Mout s', for some s of which φ holds. -/
structure LocM (P : Program) (o : Oper) (g : G) (N : Nat) (Min : List Res) {σ : Type} (φ : σ → Prop) (d : σ → D) (Mout : σ → List Res) : Prop where
  go : ∀ (F : List Res) (I : Imm) (a : Act) (w : World) (K : Act → World → Prop) (Q : Exit → Act → World → Prop), Slots g N I a → Inv I (Min ++ F) w →
    (∀ s v w' J, φ s → I.le J → (d s).rel J v → Inv J (Mout s ++ F) w' → K (a.put o.dst v) w') → o.wp P a w K Q

theorem locP_of_run {P : Program} {o : Oper} {g : G} {N : Nat} {M : List Res} {d : D}
    (h : ∀ I a w, Slots g N I a → Inv I M w → ∃ v, (execOp a.eval o).run P w = .ok (.value v) w ∧ d.rel I v) : LocP P o g N M d := by
  constructor
  intro I a w K Q hs hi hK
  obtain ⟨v, hr, hd⟩ := h I a w hs hi
  unfold Oper.wp
  rw [hr]
  exact hK v w I I.le_refl hd hi

/-! ### Running -/

/-- From here the call returns. -/
def Goes (P : Program) (f : FuncId) (R : Ending → World → Prop) (fr : Frame) (cs : List Frame) (w : World) : Prop :=
  ∃ e w' fr', R e w' ∧ Comes P (lone fr cs w) (lone fr' cs w') e ∧ fr'.fn = f ∧ fr'.leaving P w' e

/-- From every state with these slots and resources, what is still to do brings the call to its end. -/
structure Run (P : Program) (f : FuncId) (N : Nat) (I0 : Imm) (R : Ending → World → Prop) (g : G) (M : List Res) (todo : List Item) : Prop where
  go : ∀ (I : Imm) (a : Act) (w : World) (b : Frame) (cs : List Frame), b.fn = f → b.kind = .normal → I0.le I → Slots g N I a → Inv I M w → Goes P f R (b.at a todo) cs w

/-- The same in the middle of a region. -/
structure RunL (P : Program) (f : FuncId) (N : Nat) (I0 : Imm) (R : Ending → World → Prop) (g : G) (M : List Res) (ops : Array Oper) (l : List Oper) (todo : List Item) : Prop where
  go : ∀ (I : Imm) (a : Act) (w : World) (b : Frame) (cs : List Frame), b.fn = f → b.kind = .normal → I0.le I → Slots g N I a → Inv I M w →
    wpList P ops (fun e a' w' => e = .normal ∧ Goes P f R (b.at a' todo) cs w') l a w

section
variable {P : Program} {f : FuncId} {N : Nat} {I0 : Imm} {R : Ending → World → Prop} {g : G} {M : List Res} {k : List Item}

theorem Goes.step {fr fr' : Frame} {cs : List Frame} {w w' : World} (h : Steps P (lone fr cs w) (lone fr' cs w')) (h' : Goes P f R fr' cs w') : Goes P f R fr cs w := by
  obtain ⟨e, w2, fr2, hR, hc, hf, hl⟩ := h'
  exact ⟨e, w2, fr2, hR, Comes.of_steps h hc, hf, hl⟩

theorem run_skip (h : Run P f N I0 R g M k) : Run P f N I0 R g M (.code .skip :: k) :=
  ⟨fun I a w b cs hb hk hl hs hi => .step (.one step_skip) (h.go I a w b cs hb hk hl hs hi)⟩
theorem run_label {l : Nat} (h : Run P f N I0 R g M k) : Run P f N I0 R g M (.code (.label l) :: k) :=
  ⟨fun I a w b cs hb hk hl hs hi => .step (.one step_label) (h.go I a w b cs hb hk hl hs hi)⟩
theorem run_inBlock {id : Nat} (h : Run P f N I0 R g M k) : Run P f N I0 R g M (.inBlock id :: k) :=
  ⟨fun I a w b cs hb hk hl hs hi => .step (.one step_inBlock) (h.go I a w b cs hb hk hl hs hi)⟩
theorem run_seq {x y : Code} (h : Run P f N I0 R g M (.code x :: .code y :: k)) : Run P f N I0 R g M (.code (.seq x y) :: k) :=
  ⟨fun I a w b cs hb hk hl hs hi => .step (.one step_seq) (h.go I a w b cs hb hk hl hs hi)⟩
theorem run_block {id : Nat} {x : Code} (h : Run P f N I0 R g M (.code x :: .inBlock id :: k)) : Run P f N I0 R g M (.code (.block id x) :: k) :=
  ⟨fun I a w b cs hb hk hl hs hi => .step (.one step_block) (h.go I a w b cs hb hk hl hs hi)⟩
theorem run_exit {id : Nat} {k' : List Item} (he : exitTo id k = some k') (h : Run P f N I0 R g M k') : Run P f N I0 R g M (.code (.exit id) :: k) :=
  ⟨fun I a w b cs hb hk hl hs hi => .step (.one (step_exit he)) (h.go I a w b cs hb hk hl hs hi)⟩

theorem run_cond {c : Operand} {x y : Code} {p : Prop} (hc : opd g c = some (dB p)) (ht : p → Run P f N I0 R g M (.code x :: k)) (hf : ¬ p → Run P f N I0 R g M (.code y :: k)) :
    Run P f N I0 R g M (.code (.cond c x y) :: k) := by
  constructor
  intro I a w b cs hb hk hl hs hi
  obtain ⟨t, ht', hp⟩ := opd_sound hs hc
  cases t with
  | true => exact .step (.one (step_cond ht')) ((ht (hp.1 rfl)).go I a w b cs hb hk hl hs hi)
  | false => exact .step (.one (step_cond ht')) ((hf (fun h => by simpa using hp.2 h)).go I a w b cs hb hk hl hs hi)

/-- A loop by an invariant: what holds at the head of each round, and a number that each round lowers. -/
theorem run_loop {c : Code} {σ : Type} (Γ : σ → G) (Mo : σ → List Res) (φ : σ → Prop) (μ : σ → Nat)
    (start : ∃ s, φ s ∧ ∀ I a w, Slots g N I a → Inv I M w → Slots (Γ s) N I a ∧ Inv I (Mo s) w)
    (round : ∀ s, φ s → (∀ s', φ s' → μ s' < μ s → Run P f N I0 R (Γ s') (Mo s') (.inLoop c :: k)) → Run P f N I0 R (Γ s) (Mo s) (.code c :: .inLoop c :: k)) :
    Run P f N I0 R g M (.code (.loop c) :: k) := by
  have key : ∀ n s, μ s = n → φ s → Run P f N I0 R (Γ s) (Mo s) (.code c :: .inLoop c :: k) := by
    intro n
    induction n using Nat.strongRecOn with
    | _ n ih =>
      intro s hn hφ
      refine round s hφ fun s' hφ' hlt => ?_
      constructor
      intro I a w b cs hb hk hl hs hi
      exact .step (.one step_inLoop) ((ih (μ s') (hn ▸ hlt) s' rfl hφ').go I a w b cs hb hk hl hs hi)
  obtain ⟨s, hφ, hst⟩ := start
  constructor
  intro I a w b cs hb hk hl hs hi
  obtain ⟨hs', hi'⟩ := hst I a w hs hi
  exact .step (.one step_loop) ((key _ s rfl hφ).go I a w b cs hb hk hl hs' hi')

/-- Less is known. -/
theorem run_weaken {g' : G} {M' : List Res} (hw : ∀ I a w, Slots g N I a → Inv I M w → Slots g' N I a ∧ Inv I M' w) (h : Run P f N I0 R g' M' k) : Run P f N I0 R g M k :=
  ⟨fun I a w b cs hb hk hl hs hi => h.go I a w b cs hb hk hl (hw I a w hs hi).1 (hw I a w hs hi).2⟩

/-- More is immutable, other resources. -/
theorem run_turn {g' : G} {M' : List Res} (hw : ∀ I a w, Slots g N I a → Inv I M w → ∃ J, I.le J ∧ Slots g' N J a ∧ Inv J M' w) (h : Run P f N I0 R g' M' k) : Run P f N I0 R g M k := by
  constructor
  intro I a w b cs hb hk hl hs hi
  obtain ⟨J, h1, h2, h3⟩ := hw I a w hs hi
  exact h.go J a w b cs hb hk (hl.trans h1) h2 h3

theorem run_region {id : Nat} {l : List Oper} (h : RunL P f N I0 R g M l.toArray l k) : Run P f N I0 R g M (.code (.region id l.toArray false) :: k) := by
  constructor
  intro I a w b cs hb hk hl hs hi
  obtain ⟨e, a', w', ⟨rfl, hg⟩, harr⟩ := wp_region_lit (id := id) (h.go I a w b cs hb hk hl hs hi) b k cs
  exact .step harr hg

theorem run_nil {ops : Array Oper} (h : Run P f N I0 R g M k) : RunL P f N I0 R g M ops [] k :=
  ⟨fun I a w b cs hb hk hl hs hi => wpList_nil ⟨rfl, h.go I a w b cs hb hk hl hs hi⟩⟩

/-- One operation of the text's order. -/
theorem run_op {ops : Array Oper} {rest : List Oper} {dst : Tmp} {op : Op} {ty : TypeId} {pos : String} {after : Array Edge} {d : D}
    (hd : LocP P ⟨some dst, op, ty, pos, after, none⟩ g N M d) (hN : Nat.blt dst N = true) (h : RunL P f N I0 R ((dst, d) :: g) M ops rest k) :
    RunL P f N I0 R g M ops (⟨some dst, op, ty, pos, after, none⟩ :: rest) k := by
  constructor
  intro I a w b cs hb hk hl hs hi
  refine wpList_plain rfl fun K hK => ?_
  refine hd.go I a w K _ hs hi fun v w' J hle hv hi' => hK _ _ ?_
  exact h.go J _ w' b cs hb hk (hl.trans hle) ((hs.mono hle).put hv (by simpa [Nat.blt_eq] using hN)) hi'

theorem run_opM {ops : Array Oper} {rest : List Oper} {dst : Tmp} {op : Op} {ty : TypeId} {pos : String} {after : Array Edge} {Min F : List Res} {σ : Type} {φ : σ → Prop} {d : σ → D} {Mout : σ → List Res}
    (hd : LocM P ⟨some dst, op, ty, pos, after, none⟩ g N Min φ d Mout) (hN : Nat.blt dst N = true) (h : ∀ s, φ s → RunL P f N I0 R ((dst, d s) :: g) (Mout s ++ F) ops rest k) :
    RunL P f N I0 R g (Min ++ F) ops (⟨some dst, op, ty, pos, after, none⟩ :: rest) k := by
  constructor
  intro I a w b cs hb hk hl hs hi
  refine wpList_plain rfl fun K hK => ?_
  refine hd.go F I a w K _ hs hi fun s v w' J hφ hle hv hi' => hK _ _ ?_
  exact (h s hφ).go J _ w' b cs hb hk (hl.trans hle) ((hs.mono hle).put hv (by simpa [Nat.blt_eq] using hN)) hi'

theorem run_opM0 {ops : Array Oper} {rest : List Oper} {op : Op} {ty : TypeId} {pos : String} {after : Array Edge} {Min F : List Res} {σ : Type} {φ : σ → Prop} {d : σ → D} {Mout : σ → List Res}
    (hd : LocM P ⟨none, op, ty, pos, after, none⟩ g N Min φ d Mout) (h : ∀ s, φ s → RunL P f N I0 R g (Mout s ++ F) ops rest k) :
    RunL P f N I0 R g (Min ++ F) ops (⟨none, op, ty, pos, after, none⟩ :: rest) k := by
  constructor
  intro I a w b cs hb hk hl hs hi
  refine wpList_plain rfl fun K hK => ?_
  refine hd.go F I a w K _ hs hi fun s v w' J hφ hle hv hi' => hK _ _ ?_
  exact (h s hφ).go J _ w' b cs hb hk (hl.trans hle) ((hs.mono hle).none v) hi'

/-- Under a guard: 'gt' is what is known where the guard says yes. -/
structure RunLG (P : Program) (f : FuncId) (N : Nat) (I0 : Imm) (R : Ending → World → Prop) (c : Prop) (gt g : G) (M : List Res) (ops : Array Oper) (l : List Oper) (todo : List Item) : Prop where
  go : ∀ (I : Imm) (a : Act) (w : World) (b : Frame) (cs : List Frame), b.fn = f → b.kind = .normal → I0.le I → Slots g N I a → (c → Slots gt N I a) → Inv I M w →
    wpList P ops (fun e a' w' => e = .normal ∧ Goes P f R (b.at a' todo) cs w') l a w

theorem run_gleave {c : Prop} {gt : G} {ops : Array Oper} {l : List Oper} (h : RunL P f N I0 R g M ops l k) : RunLG P f N I0 R c gt g M ops l k :=
  ⟨fun I a w b cs hb hk hl hs _ hi => h.go I a w b cs hb hk hl hs hi⟩

theorem run_genter {ops : Array Oper} {l : List Oper} (c : Prop) (h : RunLG P f N I0 R c g g M ops l k) : RunL P f N I0 R g M ops l k :=
  ⟨fun I a w b cs hb hk hl hs hi => h.go I a w b cs hb hk hl hs (fun _ => hs) hi⟩

/-- The guard's answer. -/
def guardD (want : Bool) (d : D) (c : Prop) : Prop := ∀ I v, d.rel I v → ((match v with | .bool b => some b | _ => none) = some want ↔ c)

theorem guard_true (p : Prop) : guardD true (dB p) p := by
  rintro I v ⟨b, rfl, hp⟩
  rw [← hp]
  simp

theorem guard_false (p : Prop) : guardD false (dB p) (¬ p) := by
  rintro I v ⟨b, rfl, hp⟩
  rw [← hp]
  simp

theorem guard_if {want : Bool} {d : D} {c p : Prop} (h : guardD want d p) : guardD want (dIf c d) (c ∧ p) := by
  intro I v hv
  by_cases hc : c
  · rw [h I v (hv.1 hc)]
    exact ⟨fun hp => ⟨hc, hp⟩, fun hp => hp.2⟩
  · rw [hv.2 hc]
    simp [undef, hc]

theorem run_gop {l : List Oper} {rest : List Oper} {dst gs : Tmp} {j : Nat} {want : Bool} {op : Op} {ty : TypeId} {pos : String} {after : Array Edge} {d dg : D} {c : Prop} {gt : G}
    (hj : (l[j]?).bind (·.dst) = some gs) (hg : look g gs = some dg) (hgd : guardD want dg c)
    (hd : c → LocP P ⟨some dst, op, ty, pos, after, some (j, want)⟩ gt N M d) (hN : Nat.blt dst N = true)
    (h : RunLG P f N I0 R c ((dst, d) :: gt) ((dst, dIf c d) :: g) M l.toArray rest k) :
    RunLG P f N I0 R c gt g M l.toArray (⟨some dst, op, ty, pos, after, some (j, want)⟩ :: rest) k := by
  constructor
  intro I a w b cs hb hk hl hs hst hi
  have hgs := hs.slot gs _ hg
  have hN' : dst < N := by simpa [Nat.blt_eq] using hN
  have hy : yielded l.toArray a.tmps j = (match a.tmps.getD gs undef with | .bool b => some b | _ => none) := by
    simp only [yielded, List.getElem?_toArray, hj, Option.bind_some, Array.getD_eq_getD_getElem?]
    cases hx : a.tmps[gs]? with
    | none => rfl
    | some u => cases u <;> rfl
  have hans := hgd I _ hgs
  by_cases hc : c
  · refine BigFrame.wpList_want ?_ fun K hK => ?_
    · simp only [Region.wanted, hy]
      rw [hans.2 hc]
      simp
    · refine (hd hc).go I a w K _ (hst hc) hi fun v w' J hle hv hi' => hK _ _ ?_
      exact h.go J _ w' b cs hb hk (hl.trans hle) ((hs.mono hle).put (d := dIf _ d) ⟨fun _ => hv, fun hn => absurd hc hn⟩ hN') (fun _ => ((hst hc).mono hle).put hv hN') hi'
  · refine wpList_skip ?_ ?_
    · simp only [Region.wanted, hy]
      have : ¬ ((match a.tmps.getD gs undef with | .bool b => some b | _ => none) = some want) := fun e => hc (hans.1 e)
      simpa using this
    · exact h.go I _ w b cs hb hk hl (hs.put (d := dIf _ d) ⟨fun hcc => absurd hcc hc, fun _ => rfl⟩ hN') (fun hcc => absurd hcc hc) hi

theorem run_gfirst {l : List Oper} {rest : List Oper} {dst gs : Tmp} {j : Nat} {want : Bool} {op : Op} {ty : TypeId} {pos : String} {after : Array Edge} {d dg : D} {c : Prop}
    (hj : (l[j]?).bind (·.dst) = some gs) (hg : look g gs = some dg) (hgd : guardD want dg c)
    (hd : c → LocP P ⟨some dst, op, ty, pos, after, some (j, want)⟩ g N M d) (hN : Nat.blt dst N = true)
    (h : RunLG P f N I0 R c ((dst, d) :: g) ((dst, dIf c d) :: g) M l.toArray rest k) :
    RunL P f N I0 R g M l.toArray (⟨some dst, op, ty, pos, after, some (j, want)⟩ :: rest) k :=
  run_genter c (run_gop hj hg hgd hd hN h)

end

/-! ### Contracts -/

/-- A function that turns 'Min' into 'Mout s'. -/
def Spec (P : Program) (f : FuncId) (Ds : List D) (Min : List Res) {σ : Type} (φ : σ → Prop) (d : σ → D) (Mout : σ → List Res) : Prop :=
  ∀ (I : Imm) (F : List Res) (w : World) (vs : List Value), relL Ds I vs → Inv I (Min ++ F) w →
    Calls P f vs.toArray w fun e w' => ∃ v, e = .returned v ∧ ∃ s, φ s ∧ ∃ J, I.le J ∧ (d s).rel J v ∧ Inv J (Mout s ++ F) w'

/-- A function that only computes. -/
def SpecP (P : Program) (f : FuncId) (Ds : List D) (d : D) : Prop :=
  ∀ (I : Imm) (M : List Res) (w : World) (vs : List Value), relL Ds I vs → Inv I M w →
    Calls P f vs.toArray w fun e w' => ∃ v, e = .returned v ∧ ∃ J, I.le J ∧ d.rel J v ∧ Inv J M w'

/-- The slots at the start: the parameters. -/
def start : Nat → List D → G
  | _, [] => []
  | i, d :: ds => (i, d) :: start (i + 1) ds

theorem look_start {I : Imm} : ∀ {ds : List D} {vs : List Value} (i k : Nat) (d : D), relL ds I vs → look (start i ds) k = some d → i ≤ k ∧ ∃ v, vs[k - i]? = some v ∧ d.rel I v
  | [], _, i, k, d, _, h => by simp [start, look] at h
  | e :: ds, v :: vs, i, k, d, ⟨h1, h2⟩, h => by
    rw [start, look_cons] at h
    split at h
    · rename_i hik
      subst hik
      injection h with h
      subst h
      exact ⟨Nat.le_refl _, v, by simp, h1⟩
    · obtain ⟨h3, u, h4, h5⟩ := look_start (i + 1) k d h2 h
      refine ⟨by omega, u, ?_, h5⟩
      have : k - i = (k - (i + 1)) + 1 := by omega
      rw [this]
      simpa using h4

theorem slots_start {I : Imm} {ds : List D} {vs : List Value} {N : Nat} (h : relL ds I vs) (hN : vs.length ≤ N) :
    Slots (start 0 ds) N I { tmps := vs.toArray ++ Array.replicate (N - vs.toArray.size) undef, defers := [] } := by
  refine ⟨by simp; omega, rfl, fun k d hk => ?_⟩
  obtain ⟨_, v, h2, h3⟩ := look_start 0 k d h hk
  have hlt : k < vs.length := by
    have := (List.getElem?_eq_some_iff.1 h2).1
    simpa using this
  have : (vs.toArray ++ Array.replicate (N - vs.toArray.size) undef).getD k undef = v := by
    rw [Array.getD_eq_getD_getElem?, Array.getElem?_append_left (by simpa using hlt)]
    simp at h2
    simp [h2]
  rw [this]
  exact h3

/-- What a body must do for its contract. -/
def Post (I : Imm) {σ : Type} (φ : σ → Prop) (d : σ → D) (Mout : σ → List Res) (F : List Res) (e : Ending) (w' : World) : Prop :=
  ∃ v, e = .returned v ∧ ∃ s, φ s ∧ ∃ J, I.le J ∧ (d s).rel J v ∧ Inv J (Mout s ++ F) w'

section
variable {P : Program} {f : FuncId}

theorem goes_enter {fn : Func} {c : Code} {vs : List Value} {w : World} {R : Ending → World → Prop} {I : Imm} {M : List Res} {ds : List D}
    (hf : P.funcs[f]? = some fn) (hb : fn.body = some c) (hN : vs.length ≤ fn.ntmps) (hv : relL ds I vs) (hi : Inv I M w)
    (h : Run P f fn.ntmps I R (start 0 ds) M [.code c]) : Calls P f vs.toArray w R := by
  intro cs
  let b : Frame := { (default : Frame) with fn := f, kind := .normal }
  have henter : Frame.enter P f vs.toArray .normal = b.at { tmps := vs.toArray ++ Array.replicate (fn.ntmps - vs.toArray.size) undef, defers := [] } [.code c] := by
    simp [Frame.enter, Frame.at, hf, hb, b]
  rw [henter]
  exact h.go I _ w b cs rfl rfl I.le_refl (slots_start hv hN) hi

theorem spec_of_body {fn : Func} {c : Code} {Ds : List D} {Min : List Res} {σ : Type} {φ : σ → Prop} {d : σ → D} {Mout : σ → List Res}
    (hf : P.funcs[f]? = some fn) (hb : fn.body = some c) (hN : Nat.ble Ds.length fn.ntmps = true)
    (h : ∀ I F, Run P f fn.ntmps I (Post I φ d Mout F) (start 0 Ds) (Min ++ F) [.code c]) : Spec P f Ds Min φ d Mout :=
  fun I F w vs hv hi => goes_enter hf hb (by rw [← relL_length hv]; exact Nat.le_of_ble_eq_true hN) hv hi (h I F)

def PostP (I : Imm) (d : D) (M : List Res) (e : Ending) (w' : World) : Prop :=
  ∃ v, e = .returned v ∧ ∃ J, I.le J ∧ d.rel J v ∧ Inv J M w'

theorem specP_of_body {fn : Func} {c : Code} {Ds : List D} {d : D}
    (hf : P.funcs[f]? = some fn) (hb : fn.body = some c) (hN : Nat.ble Ds.length fn.ntmps = true)
    (h : ∀ I M, Run P f fn.ntmps I (PostP I d M) (start 0 Ds) M [.code c]) : SpecP P f Ds d :=
  fun I M w vs hv hi => goes_enter hf hb (by rw [← relL_length hv]; exact Nat.le_of_ble_eq_true hN) hv hi (h I M)

variable {N : Nat} {I0 : Imm} {R : Ending → World → Prop} {g : G} {M : List Res} {k : List Item} {fn : Func}

theorem goes_ret {a : Act} {b : Frame} {cs : List Frame} {w : World} {v : Value} (hf : P.funcs[f]? = some fn) (hb : b.fn = f) (hk : b.kind = .normal) (hd : a.defers = []) (hr : (results fn a.tmps).run P w = .ok v w)
    (hR : R (.returned v) w) : Goes P f R (b.at a (.code .ret :: k)) cs w :=
  ⟨.returned v, w, { b.at a (.code .ret :: k) with mode := .returning }, hR, .one step_ret, hb, rfl, hd, hk, fn, by simpa [Frame.at, hb] using hf, hr⟩

theorem goes_end {a : Act} {b : Frame} {cs : List Frame} {w : World} {v : Value} (hf : P.funcs[f]? = some fn) (hb : b.fn = f) (hk : b.kind = .normal) (hd : a.defers = []) (hr : (results fn a.tmps).run P w = .ok v w)
    (hR : R (.returned v) w) : Goes P f R (b.at a []) cs w :=
  ⟨.returned v, w, { b.at a [] with mode := .returning }, hR, .one step_end, hb, rfl, hd, hk, fn, by simpa [Frame.at, hb] using hf, hr⟩

/-- The call ends with one result, in a slot. -/
theorem run_ret {t : Tmp} {σ : Type} {φ : σ → Prop} {d : σ → D} {Mout : σ → List Res} {F : List Res} (s : σ) (hf : P.funcs[f]? = some fn) (hr : fn.results = #[.tmp t]) {d' : D} (hd : look g t = some d')
    (hle : ∀ I v, d'.rel I v → (d s).rel I v) (hφ : φ s) (hM : ∀ I w, Inv I M w → Inv I (Mout s ++ F) w) : Run P f N I0 (Post I0 φ d Mout F) g M (.code .ret :: k) :=
  ⟨fun _ a w _ _ hb hk hl hs hi => goes_ret hf hb hk hs.defers (results_tmp hr a.tmps P w) ⟨_, rfl, s, hφ, _, hl, hle _ _ (hs.slot t d' hd), hM _ _ hi⟩⟩

theorem run_ret2 {t u : Tmp} {σ : Type} {φ : σ → Prop} {d : σ → D} {Mout : σ → List Res} {F : List Res} (s : σ) (hf : P.funcs[f]? = some fn) (hr : fn.results = #[.tmp t, .tmp u]) {d1 d2 : D} (hd1 : look g t = some d1) (hd2 : look g u = some d2)
    (hle : ∀ I v, (dTup [d1, d2]).rel I v → (d s).rel I v) (hφ : φ s) (hM : ∀ I w, Inv I M w → Inv I (Mout s ++ F) w) : Run P f N I0 (Post I0 φ d Mout F) g M (.code .ret :: k) :=
  ⟨fun _ a w _ _ hb hk hl hs hi => goes_ret hf hb hk hs.defers (results_tmp2 hr a.tmps P w) ⟨_, rfl, s, hφ, _, hl, hle _ _ ⟨_, rfl, hs.slot t d1 hd1, hs.slot u d2 hd2, trivial⟩, hM _ _ hi⟩⟩

theorem run_retP {t : Tmp} {d : D} (hf : P.funcs[f]? = some fn) (hr : fn.results = #[.tmp t]) {d' : D} (hd : look g t = some d') (hle : ∀ I v, d'.rel I v → d.rel I v) : Run P f N I0 (PostP I0 d M) g M (.code .ret :: k) :=
  ⟨fun _ a w _ _ hb hk hl hs hi => goes_ret hf hb hk hs.defers (results_tmp hr a.tmps P w) ⟨_, rfl, _, hl, hle _ _ (hs.slot t d' hd), hi⟩⟩

theorem run_ret2P {t u : Tmp} {d : D} (hf : P.funcs[f]? = some fn) (hr : fn.results = #[.tmp t, .tmp u]) {d1 d2 : D} (hd1 : look g t = some d1) (hd2 : look g u = some d2) (hle : ∀ I v, (dTup [d1, d2]).rel I v → d.rel I v) :
    Run P f N I0 (PostP I0 d M) g M (.code .ret :: k) :=
  ⟨fun _ a w _ _ hb hk hl hs hi => goes_ret hf hb hk hs.defers (results_tmp2 hr a.tmps P w) ⟨_, rfl, _, hl, hle _ _ ⟨_, rfl, hs.slot t d1 hd1, hs.slot u d2 hd2, trivial⟩, hi⟩⟩
end
end Go.Q
