/- A small logic of slots, immutable data and owned blocks over the model's machine: each rule is proved of every program. -/
import Derived.WalkKit
import Derived.Orders
import Derived.RangeFuncRecord
set_option linter.unusedVariables false
set_option linter.unusedSimpArgs false
namespace Go.Q

/-- What no longer changes: blocks of the heap, and the streams. -/
structure Imm where
  blk : Nat → Option Obj
  os : Os
  tape : Tape
  output : Array (Nat × ByteArray)

structure Imm.le (I J : Imm) : Prop where
  blk : ∀ b o, I.blk b = some o → J.blk b = some o
  os : J.os = I.os
  tape : J.tape = I.tape
  output : J.output = I.output

theorem Imm.le_refl (I : Imm) : I.le I := ⟨fun _ _ h => h, rfl, rfl, rfl⟩
theorem Imm.le.trans {I J K : Imm} (h : I.le J) (h' : J.le K) : I.le K :=
  ⟨fun b o e => h'.blk b o (h.blk b o e), h'.os.trans h.os, h'.tape.trans h.tape, h'.output.trans h.output⟩

/-- What is known of a value: stays true asL more becomes immutable. -/
structure D where
  rel : Imm → Value → Prop
  mono : ∀ {I J : Imm} {v : Value}, I.le J → rel I v → rel J v

/-- An owned resource: at most one block. -/
structure Res where
  key : Option Nat
  sat : Imm → Option Obj → Prop
  mono : ∀ {I J : Imm} {o : Option Obj}, I.le J → sat I o → sat J o

def Res.ok (r : Res) (I : Imm) (w : World) : Prop :=
  match r.key with
  | none => r.sat I none
  | some b => I.blk b = none ∧ ∃ o, w.heap[b]? = some o ∧ r.sat I (some o)

def keys (M : List Res) : List Nat := M.filterMap Res.key

structure Inv (I : Imm) (M : List Res) (w : World) : Prop where
  os : w.os = I.os
  tape : w.tape = I.tape
  output : w.output = I.output
  imm : ∀ b o, I.blk b = some o → w.heap[b]? = some o
  own : ∀ r ∈ M, r.ok I w
  apart : (keys M).Nodup

theorem Inv.perm {I : Imm} {M M' : List Res} {w : World} (h : Inv I M w) (hp : M.Perm M') : Inv I M' w :=
  ⟨h.os, h.tape, h.output, h.imm, fun r hr => h.own r (hp.mem_iff.2 hr), (hp.filterMap Res.key).nodup_iff.1 h.apart⟩

theorem Inv.sub {I : Imm} {M M' : List Res} {w : World} (h : Inv I M w) (hs : M'.Sublist M) : Inv I M' w :=
  ⟨h.os, h.tape, h.output, h.imm, fun r hr => h.own r (hs.subset hr), (hs.filterMap Res.key).nodup h.apart⟩

theorem Inv.drew {I : Imm} {M : List Res} {w : World} (h : Inv I M w) : Inv I M { w with drawn := w.drawn + 1 } :=
  ⟨h.os, h.tape, h.output, h.imm, h.own, h.apart⟩

/-- The same heap and streams. -/
theorem Inv.of_eq {I : Imm} {M : List Res} {w w' : World} (h : Inv I M w) (hh : w'.heap = w.heap) (ho : w'.os = w.os) (ht : w'.tape = w.tape) (hu : w'.output = w.output) : Inv I M w' :=
  ⟨ho.trans h.os, ht.trans h.tape, hu.trans h.output, fun b o e => by rw [hh]; exact h.imm b o e,
    fun r hr => by
      have := h.own r hr
      unfold Res.ok at *
      split <;> simp_all, h.apart⟩

/-- A new owned block. -/
theorem Inv.allocOwn {I : Imm} {M : List Res} {w : World} (h : Inv I M w) (o : Obj) (r : Res) (hk : r.key = some w.heap.size) (hs : r.sat I (some o)) : Inv I (r :: M) (w.alloc o) := by
  have hnone : I.blk w.heap.size = none := by
    cases hb : I.blk w.heap.size with
    | none => rfl
    | some o' => have := h.imm _ _ hb; simp at this
  refine ⟨h.os, h.tape, h.output, fun b o' e => ?_, fun r' hr' => ?_, ?_⟩
  · have hh := h.imm b o' e
    have hlt := (Array.getElem?_eq_some_iff.1 hh).1
    rw [Go.RowKit.Below.heap_alloc w o b hlt]; exact hh
  · rcases List.mem_cons.1 hr' with rfl | hr'
    · unfold Res.ok
      rw [hk]
      exact ⟨hnone, o, heap_alloc_new w o, hs⟩
    · have h1 := h.own r' hr'
      unfold Res.ok at *
      split
      · rename_i e; rw [e] at h1; exact h1
      · rename_i b e
        rw [e] at h1
        obtain ⟨h2, o2, h3, h4⟩ := h1
        have hlt := (Array.getElem?_eq_some_iff.1 h3).1
        exact ⟨h2, o2, by rw [Go.RowKit.Below.heap_alloc w o b hlt]; exact h3, h4⟩
  · have : keys (r :: M) = w.heap.size :: keys M := by simp [keys, hk]
    rw [this, List.nodup_cons]
    refine ⟨fun hm => ?_, h.apart⟩
    obtain ⟨r', hr', hkr⟩ := List.mem_filterMap.1 hm
    have h1 := h.own r' hr'
    unfold Res.ok at h1
    rw [hkr] at h1
    obtain ⟨_, o2, h3, _⟩ := h1
    have hlt := (Array.getElem?_eq_some_iff.1 h3).1
    omega

/-- The immutable part with one block more. -/
def Imm.add (I : Imm) (b : Nat) (o : Obj) : Imm := { I with blk := fun c => if c = b then some o else I.blk c }

theorem Imm.le_add {I : Imm} {b : Nat} {o : Obj} (h : I.blk b = none) : I.le (I.add b o) :=
  ⟨fun c o' e => by
    simp only [Imm.add]
    split
    · rename_i hc; subst hc; rw [h] at e; cases e
    · exact e, rfl, rfl, rfl⟩

/-- An owned block becomes immutable. -/
theorem Inv.freeze {I : Imm} {r : Res} {M : List Res} {w : World} (h : Inv I (r :: M) w) {b : Nat} (hk : r.key = some b) :
    ∃ o, r.sat I (some o) ∧ I.blk b = none ∧ Inv (I.add b o) M w := by
  have h1 := h.own r (List.mem_cons_self ..)
  unfold Res.ok at h1
  rw [hk] at h1
  obtain ⟨h2, o, h3, h4⟩ := h1
  refine ⟨o, h4, h2, h.os, h.tape, h.output, fun c o' e => ?_, fun r' hr' => ?_, ?_⟩
  · simp only [Imm.add] at e
    split at e
    · rename_i hc; subst hc; rw [← e]; exact h3
    · exact h.imm c o' e
  · have hle := Imm.le_add (o := o) h2
    have h5 := h.own r' (List.mem_cons_of_mem _ hr')
    have hne : ∀ c, r'.key = some c → c ≠ b := by
      intro c hc hcb
      have hn := h.apart
      have : keys (r :: M) = b :: keys M := by simp [keys, hk]
      rw [this, List.nodup_cons] at hn
      exact hn.1 (List.mem_filterMap.2 ⟨r', hr', by rw [hc, hcb]⟩)
    unfold Res.ok at *
    split
    · rename_i e; rw [e] at h5; exact r'.mono hle h5
    · rename_i c e
      rw [e] at h5
      obtain ⟨h6, o6, h7, h8⟩ := h5
      exact ⟨by simp [Imm.add, hne c e, h6], o6, h7, r'.mono hle h8⟩
  · have hn := h.apart
    have : keys (r :: M) = b :: keys M := by simp [keys, hk]
    rw [this, List.nodup_cons] at hn
    exact hn.2

/-- A new immutable block. -/
theorem Inv.allocImm {I : Imm} {M : List Res} {w : World} (h : Inv I M w) (o : Obj) : I.le (I.add w.heap.size o) ∧ Inv (I.add w.heap.size o) M (w.alloc o) := by
  have h1 := h.allocOwn o ⟨some w.heap.size, fun _ o' => o' = some o, fun _ h => h⟩ rfl rfl
  obtain ⟨o', ho, hn, hi⟩ := h1.freeze rfl
  injection ho with ho
  subst ho
  exact ⟨Imm.le_add hn, hi⟩

/-- An owned block is written. -/
theorem Inv.write {I : Imm} {r r' : Res} {M : List Res} {w w' : World} (h : Inv I (r :: M) w) {b : Nat} (hk : r.key = some b) (hk' : r'.key = some b)
    (hos : w'.os = w.os) (ht : w'.tape = w.tape) (hu : w'.output = w.output) (hh : ∀ c, c ≠ b → c < w.heap.size → w'.heap[c]? = w.heap[c]?)
    {o : Obj} (ho : w'.heap[b]? = some o) (hs : r'.sat I (some o)) : Inv I (r' :: M) w' := by
  have h1 := h.own r (List.mem_cons_self ..)
  unfold Res.ok at h1
  rw [hk] at h1
  obtain ⟨h2, o1, h3, h4⟩ := h1
  have hkeys : keys (r' :: M) = keys (r :: M) := by simp [keys, hk, hk']
  refine ⟨hos.trans h.os, ht.trans h.tape, hu.trans h.output, fun c o' e => ?_, fun r2 hr2 => ?_, hkeys ▸ h.apart⟩
  · have hc := h.imm c o' e
    have hlt := (Array.getElem?_eq_some_iff.1 hc).1
    have hne : c ≠ b := by intro hcb; subst hcb; rw [h2] at e; cases e
    rw [hh c hne hlt]; exact hc
  · rcases List.mem_cons.1 hr2 with rfl | hr2
    · unfold Res.ok
      rw [hk']
      exact ⟨h2, o, ho, hs⟩
    · have h5 := h.own r2 (List.mem_cons_of_mem _ hr2)
      have hne : ∀ c, r2.key = some c → c ≠ b := by
        intro c hc hcb
        have hn := h.apart
        have : keys (r :: M) = b :: keys M := by simp [keys, hk]
        rw [this, List.nodup_cons] at hn
        exact hn.1 (List.mem_filterMap.2 ⟨r2, hr2, by rw [hc, hcb]⟩)
      unfold Res.ok at *
      split
      · rename_i e; rw [e] at h5; exact h5
      · rename_i c e
        rw [e] at h5
        obtain ⟨h6, o6, h7, h8⟩ := h5
        have hlt := (Array.getElem?_eq_some_iff.1 h7).1
        exact ⟨h6, o6, by rw [hh c (hne c e) hlt]; exact h7, h8⟩

/-- An owned block is left behind for a new one (a row that grows). -/
theorem Inv.move {I : Imm} {r r' : Res} {M : List Res} {w w' : World} (h : Inv I (r :: M) w) {b : Nat} (hk' : r'.key = some b) (hb : w.heap.size ≤ b)
    (hos : w'.os = w.os) (ht : w'.tape = w.tape) (hu : w'.output = w.output) (hh : ∀ c, c < w.heap.size → some c ≠ r.key → w'.heap[c]? = w.heap[c]?)
    {o : Obj} (ho : w'.heap[b]? = some o) (hs : r'.sat I (some o)) : Inv I (r' :: M) w' := by
  have hin : ∀ c o', I.blk c = some o' → c < w.heap.size := fun c o' e => (Array.getElem?_eq_some_iff.1 (h.imm c o' e)).1
  have hown : ∀ r2 ∈ r :: M, ∀ c, r2.key = some c → I.blk c = none ∧ c < w.heap.size := by
    intro r2 hr2 c e
    have h1 := h.own r2 hr2
    unfold Res.ok at h1
    rw [e] at h1
    obtain ⟨h2, o2, h3, _⟩ := h1
    exact ⟨h2, (Array.getElem?_eq_some_iff.1 h3).1⟩
  refine ⟨hos.trans h.os, ht.trans h.tape, hu.trans h.output, fun c o' e => ?_, fun r2 hr2 => ?_, ?_⟩
  · rw [hh c (hin c o' e) (fun e2 => by have := (hown r (List.mem_cons_self ..) c e2.symm).1; rw [this] at e; cases e)]
    exact h.imm c o' e
  · rcases List.mem_cons.1 hr2 with rfl | hr2
    · unfold Res.ok
      rw [hk']
      refine ⟨?_, o, ho, hs⟩
      cases hx : I.blk b with
      | none => rfl
      | some o' => have := hin b o' hx; omega
    · have h5 := h.own r2 (List.mem_cons_of_mem _ hr2)
      have hne : ∀ c, r2.key = some c → some c ≠ r.key := by
        intro c hc hcb
        have hn := h.apart
        have : keys (r :: M) = c :: keys M := by simp [keys, ← hcb]
        rw [this, List.nodup_cons] at hn
        exact hn.1 (List.mem_filterMap.2 ⟨r2, hr2, hc⟩)
      unfold Res.ok at *
      split
      · rename_i e; rw [e] at h5; exact h5
      · rename_i c e
        rw [e] at h5
        obtain ⟨h6, o6, h7, h8⟩ := h5
        have hlt := (Array.getElem?_eq_some_iff.1 h7).1
        exact ⟨h6, o6, by rw [hh c hlt (hne c e)]; exact h7, h8⟩
  · have hkk : keys (r' :: M) = b :: keys M := by simp [keys, hk']
    rw [hkk, List.nodup_cons]
    refine ⟨fun hm => ?_, (h.sub (List.sublist_cons_self r M)).apart⟩
    obtain ⟨r2, hr2, hc⟩ := List.mem_filterMap.1 hm
    have := (hown r2 (List.mem_cons_of_mem _ hr2) b hc).2
    omega

end Go.Q

namespace Go.Q

/-! ### Descriptors -/

def dTop : D := ⟨fun _ _ => True, fun _ h => h⟩
def dVal (u : Value) : D := ⟨fun _ v => v = u, fun _ h => h⟩
def dInt (k : IntKind) (n : Int) : D := ⟨fun _ v => v = .int k n, fun _ h => h⟩
/-- A bool that says a proposition. -/
def dB (p : Prop) : D := ⟨fun _ v => ∃ b : Bool, v = .bool b ∧ (b = true ↔ p), fun _ h => h⟩
def dStr (s : ByteArray) : D := ⟨fun _ v => v = .string s, fun _ h => h⟩
/-- Known under a condition; undefined without it. -/
def dIf (c : Prop) (d : D) : D := ⟨fun I v => (c → d.rel I v) ∧ (¬ c → v = undef), fun h hv => ⟨fun hc => d.mono h (hv.1 hc), hv.2⟩⟩

def relL : List D → Imm → List Value → Prop
  | [], _, [] => True
  | d :: ds, I, v :: vs => d.rel I v ∧ relL ds I vs
  | _, _, _ => False

theorem relL_mono {I J : Imm} (h : I.le J) : ∀ {ds : List D} {vs : List Value}, relL ds I vs → relL ds J vs
  | [], [], _ => trivial
  | _ :: _, _ :: _, ⟨h1, h2⟩ => ⟨D.mono _ h h1, relL_mono h h2⟩

theorem relL_length {I : Imm} : ∀ {ds : List D} {vs : List Value}, relL ds I vs → ds.length = vs.length
  | [], [], _ => rfl
  | _ :: _, _ :: _, ⟨_, h2⟩ => congrArg (· + 1) (relL_length h2)

theorem relL_get {I : Imm} : ∀ {ds : List D} {vs : List Value}, relL ds I vs → ∀ (i : Nat) (d : D), ds[i]? = some d → ∃ v, vs[i]? = some v ∧ d.rel I v
  | d :: ds, v :: vs, ⟨h1, h2⟩, 0, d', h => by simp at h; subst h; exact ⟨v, rfl, h1⟩
  | d :: ds, v :: vs, ⟨h1, h2⟩, i + 1, d', h => by simpa using relL_get h2 i d' (by simpa using h)

theorem relL_take {I : Imm} : ∀ {ds : List D} {vs : List Value} (n : Nat), relL ds I vs → relL (ds.take n) I (vs.take n)
  | [], [], n, _ => by simp [relL]
  | d :: ds, v :: vs, 0, _ => by simp [relL]
  | d :: ds, v :: vs, n + 1, ⟨h1, h2⟩ => ⟨h1, relL_take n h2⟩

theorem relL_drop {I : Imm} : ∀ {ds : List D} {vs : List Value} (n : Nat), relL ds I vs → relL (ds.drop n) I (vs.drop n)
  | [], [], n, _ => by simp [relL]
  | d :: ds, v :: vs, 0, h => h
  | d :: ds, v :: vs, n + 1, ⟨h1, h2⟩ => relL_drop n h2

theorem relL_append {I : Imm} : ∀ {ds es : List D} {vs us : List Value}, relL ds I vs → relL es I us → relL (ds ++ es) I (vs ++ us)
  | [], _, [], _, _, h => h
  | _ :: _, _, _ :: _, _, ⟨h1, h2⟩, h => ⟨h1, relL_append h2 h⟩

theorem relL_set {I : Imm} {d : D} {v : Value} (hd : d.rel I v) : ∀ {ds : List D} {vs : List Value} (i : Nat), relL ds I vs → relL (ds.set i d) I (vs.set i v)
  | [], [], _, _ => trivial
  | _ :: _, _ :: _, 0, ⟨_, h2⟩ => ⟨hd, h2⟩
  | _ :: _, _ :: _, i + 1, ⟨h1, h2⟩ => ⟨h1, relL_set hd i h2⟩

/-- A struct or an array, cell by cell. -/
def dAgg (ds : List D) : D := ⟨fun I v => ∃ cs : Array Value, v = .agg cs ∧ relL ds I cs.toList, fun h ⟨cs, e, r⟩ => ⟨cs, e, relL_mono h r⟩⟩
def dTup (ds : List D) : D := ⟨fun I v => ∃ cs : Array Value, v = .tuple cs ∧ relL ds I cs.toList, fun h ⟨cs, e, r⟩ => ⟨cs, e, relL_mono h r⟩⟩

/-- Immutable cells at a place. -/
def Imm.at (I : Imm) (a : Addr) (ds : List D) : Prop :=
  a.spot = none ∧ ∃ cs T fz, I.blk a.block = some (.cells cs T fz) ∧ relL ds I ((cs.toList.drop a.off).take ds.length)

theorem Imm.at_mono {I J : Imm} (h : I.le J) {a : Addr} {ds : List D} (hh : I.at a ds) : J.at a ds := by
  obtain ⟨h0, cs, T, fz, h1, h2⟩ := hh
  exact ⟨h0, cs, T, fz, h.blk _ _ h1, relL_mono h h2⟩

/-- A pointer to immutable cells. -/
def dBox (ds : List D) : D := ⟨fun I v => ∃ a, v = .pointer (some a) ∧ I.at a ds, fun h ⟨a, e, r⟩ => ⟨a, e, Imm.at_mono h r⟩⟩

/-- The most elements that a slice is let to have. -/
def lenMax : Nat := 17592186044416

/-- A slice of immutable elements, of 'n' cells each. -/
def dSl {α : Type} (n : Nat) (f : α → List D) (xs : List α) : D :=
  ⟨fun I v => ∃ a cap, v = .slice a xs.length cap ∧ xs.length ≤ cap ∧ cap ≤ maxLen ∧ xs.length ≤ lenMax ∧
      (∀ i x, xs[i]? = some x → (f x).length = n ∧ ∃ p, a = some p ∧ p.spot = none ∧ I.at (p.add (i * n)) (f x)),
   fun h ⟨a, cap, e, h1, h2, h3, h4⟩ => ⟨a, cap, e, h1, h2, h3, fun i x hx => let ⟨h5, p, h6, h7, h8⟩ := h4 i x hx; ⟨h5, p, h6, h7, Imm.at_mono h h8⟩⟩⟩

abbrev dInts (xs : List Int) : D := dSl 1 (fun x => [dInt .i64 x]) xs
abbrev dRows (xs : List (List Int)) : D := dSl 1 (fun x => [dInts x]) xs

/-! ### Slots -/

abbrev G := List (Nat × D)

def look : G → Nat → Option D
  | [], _ => none
  | (i, d) :: g, k => bif Nat.beq i k then some d else look g k

def opd (g : G) : Operand → Option D
  | .tmp t => look g t
  | .const (.int k n) => some (dInt k n)
  | .const (.bool true) => some (dB True)
  | .const (.bool false) => some (dB False)
  | .const (.string s) => some (dStr s)
  | .const v => some (dVal v)
  | .global g => some (dVal (.pointer (some ⟨g, 0, none⟩)))
  | .func f => some (dVal (.func (.func f) #[] #[]))

structure Slots (g : G) (N : Nat) (I : Imm) (a : Act) : Prop where
  size : a.tmps.size = N
  defers : a.defers = []
  slot : ∀ k d, look g k = some d → d.rel I (a.tmps.getD k undef)

theorem Slots.mono {g : G} {N : Nat} {I J : Imm} {a : Act} (h : Slots g N I a) (hl : I.le J) : Slots g N J a :=
  ⟨h.size, h.defers, fun k d e => d.mono hl (h.slot k d e)⟩

theorem look_cons (g : G) (i k : Nat) (d : D) : look ((i, d) :: g) k = if i = k then some d else look g k := by
  simp only [look]
  by_cases h : i = k
  · subst h; simp
  · have : Nat.beq i k = false := by cases hb : Nat.beq i k with | false => rfl | true => exact absurd (Nat.eq_of_beq_eq_true hb) h
    simp [h, this]

theorem Slots.put {g : G} {N : Nat} {I : Imm} {a : Act} (h : Slots g N I a) {k : Nat} {d : D} {v : Value} (hd : d.rel I v) (hk : k < N) :
    Slots ((k, d) :: g) N I (a.put (some k) v) := by
  refine ⟨by simp [Act.put, h.size], h.defers, fun j e hj => ?_⟩
  rw [look_cons] at hj
  simp only [Act.put]
  by_cases hjk : k = j
  · subst hjk
    rw [if_pos rfl] at hj
    injection hj with hj
    subst hj
    have : k < a.tmps.size := by rw [h.size]; exact hk
    simpa [Array.getD_eq_getD_getElem?, Array.getElem?_setIfInBounds, this] using hd
  · rw [if_neg hjk] at hj
    have := h.slot j e hj
    simpa [Array.getD_eq_getD_getElem?, Array.getElem?_setIfInBounds_ne hjk] using this

theorem Slots.none {g : G} {N : Nat} {I : Imm} {a : Act} (h : Slots g N I a) (v : Value) : Slots g N I (a.put none v) := h

/-- What is written is forgotten. -/
theorem Slots.forget {g : G} {N : Nat} {I : Imm} {a : Act} (h : Slots g N I a) {k : Nat} (v : Value) (hk : k < N) : Slots ((k, dTop) :: g) N I (a.put (some k) v) :=
  h.put trivial hk

theorem opd_sound {g : G} {N : Nat} {I : Imm} {a : Act} (h : Slots g N I a) {x : Operand} {d : D} (hx : opd g x = some d) : d.rel I (a.eval x) := by
  cases x with
  | tmp t => exact h.slot t d hx
  | const v =>
    cases v with
    | bool b => cases b <;> (simp only [opd, Option.some.injEq] at hx; subst hx; exact ⟨_, rfl, by simp⟩)
    | _ => simp only [opd, Option.some.injEq] at hx; subst hx; exact rfl
  | global n => simp only [opd, Option.some.injEq] at hx; subst hx; exact rfl
  | func f => simp only [opd, Option.some.injEq] at hx; subst hx; exact rfl

def opds (g : G) : List Operand → Option (List D)
  | [] => some []
  | x :: xs => (opd g x).bind fun d => (opds g xs).map (d :: ·)

theorem opds_sound {g : G} {N : Nat} {I : Imm} {a : Act} (h : Slots g N I a) : ∀ {xs : List Operand} {ds : List D}, opds g xs = some ds → relL ds I (xs.map a.eval)
  | [], ds, hx => by simp [opds] at hx; subst hx; trivial
  | x :: xs, ds, hx => by
    simp only [opds] at hx
    cases h1 : opd g x with
    | none => simp [h1] at hx
    | some d =>
      cases h2 : opds g xs with
      | none => simp [h1, h2] at hx
      | some es =>
        simp [h1, h2] at hx
        subst hx
        exact ⟨opd_sound h h1, opds_sound h h2⟩

/-! ### One operation -/

/-- An operation that leaves what is owned alone. -/
structure LocP (P : Program) (o : Oper) (g : G) (N : Nat) (M : List Res) (d : D) : Prop where
  go : ∀ (I : Imm) (a : Act) (w : World) (K : Act → World → Prop) (Q : Exit → Act → World → Prop), Slots g N I a → Inv I M w →
    (∀ v w' J, I.le J → d.rel J v → Inv J M w' → K (a.put o.dst v) w') → o.wp P a w K Q

/-- An operation that may turn what is owned: 'Min' becomes 'Mout s', for some s of which φ holds. -/
structure LocM (P : Program) (o : Oper) (g : G) (N : Nat) (Min : List Res) {σ : Type} (φ : σ → Prop) (d : σ → D) (Mout : σ → List Res) : Prop where
  go : ∀ (F : List Res) (I : Imm) (a : Act) (w : World) (K : Act → World → Prop) (Q : Exit → Act → World → Prop), Slots g N I a → Inv I (Min ++ F) w →
    (∀ s v w' J, φ s → I.le J → (d s).rel J v → Inv J (Mout s ++ F) w' → K (a.put o.dst v) w') → o.wp P a w K Q

theorem locP_of_run {P : Program} {o : Oper} {g : G} {N : Nat} {M : List Res} {d : D}
    (h : ∀ I a w, Slots g N I a → Inv I M w → ∃ v, (execOp a.eval o).run P w = .ok (.value v) w ∧ d.rel I v) : LocP P o g N M d := by
  constructor
  intro I a w K Q hs hi hK
  obtain ⟨v, hr, hd⟩ := h I a w hs hi
  unfold Oper.wp
  rw [hr]
  exact hK v w I I.le_refl hd hi

/-! ### Running -/

/-- What is asked of the way that is left: whether it is a round's of a loop over a function, the marks among its deferred calls, and what holds in the end. -/
structure Goal where
  round : Option Nat := none
  marks : List Deferred := []
  post : Ending → World → Prop

/-- The fence that bars nothing, in a round or not. -/
abbrev FR (ro : Option Nat) : Fence := { Fence.wide with round := ro }

/-- The same activation with the marks. -/
@[reducible] def Goal.act (R : Goal) (a : Act) : Act := { a with defers := R.marks }

/-- From here the call returns, or the round ends. -/
def Goes (P : Program) (f : FuncId) (R : Goal) (fr : Frame) (cs : List Frame) (w : World) : Prop :=
  match R.round with
  | none => ∃ e w' fr', R.post e w' ∧ Comes P (lone fr cs w) (lone fr' cs w') e ∧ fr'.fn = f ∧ fr'.leaving P w' e
  | some _ => ∀ c cs0, cs = c :: cs0 → ∃ v w', R.post (.returned v) w' ∧ Steps P (lone fr cs w) (lone (c.finish v) cs0 w')

/-- From every state with these slots and resources, what is still to do brings the call to its end. -/
structure Run (P : Program) (f : FuncId) (N : Nat) (I0 : Imm) (R : Goal) (g : G) (M : List Res) (todo : List Item) : Prop where
  go : ∀ (I : Imm) (a : Act) (w : World) (b : Frame) (cs : List Frame), b.fn = f → (b.kind = .normal ∧ b.roundOf = R.round) → I0.le I → Slots g N I a → Inv I M w → Goes P f R (b.atR (R.act a) todo) cs w

/-- What holds behind a region. -/
@[reducible] def Behind (P : Program) (f : FuncId) (R : Goal) (b : Frame) (todo : List Item) (cs : List Frame) : Exit → Act → World → Prop := fun e a' w' => e = .normal ∧ Goes P f R (b.atR a' todo) cs w'

/-- The same in the middle of a region. -/
structure RunL (P : Program) (f : FuncId) (N : Nat) (I0 : Imm) (R : Goal) (g : G) (M : List Res) (ops : Array Oper) (l : List Oper) (todo : List Item) : Prop where
  go : ∀ (I : Imm) (a : Act) (w : World) (b : Frame) (cs : List Frame), b.fn = f → (b.kind = .normal ∧ b.roundOf = R.round) → I0.le I → Slots g N I a → Inv I M w →
    wpListIn (FR R.round) 0 P ops (Behind P f R b todo cs) l (R.act a) w

theorem fr_room (ro : Option Nat) (n : Nat) : (FR ro).room n := fun d hd => by cases hd
theorem fr_wide {ro : Option Nat} {P : Program} : Machine.fenced P (FR ro) = Machine.fenced P Fence.wide := rfl

/-- An operation's plain word, in a round, or with marks. -/
theorem wpIn_of_wp {P : Program} {ro : Option Nat} {ms : List Deferred} {o : Oper} {a : Act} {w : World} {K K' : Act → World → Prop} {Q' : Exit → Act → World → Prop} (hd : a.defers = [])
    (hK : ∀ a' w', a'.defers = [] → K a' w' → K' { a' with defers := ms } w')
    (h : o.wp P a w (fun a' w' => a'.defers = [] ∧ K a' w') (fun _ _ _ => False)) : o.wpIn (FR ro) 0 P { a with defers := ms } w K' Q' := by
  refine ⟨fun _ _ => trivial, ?_⟩
  have he : (Act.eval { a with defers := ms } : Operand → Value) = a.eval := by funext x; cases x <;> rfl
  have hp : ∀ v, ({ a with defers := ms } : Act).put o.dst v = { a.put o.dst v with defers := ms } := by intro v; cases o.dst <;> rfl
  have hpd : ∀ v, (a.put o.dst v).defers = [] := by intro v; cases o.dst <;> exact hd
  have hnd : ∀ c, o.op ≠ .defer c := by
    intro c hc
    unfold Oper.wp execOp at h
    rw [hc] at h
    simp only [Sem.run_bind] at h
    cases hr : (resolve a.eval c o.type).run P w with
    | ok d w1 =>
      rw [hr] at h
      simp only [Result.andThen_ok, Sem.run_pure] at h
      have h1 := h.1
      cases hdst : o.dst <;> simp [Act.put, hdst] at h1
    | halt x w1 =>
      rw [hr] at h
      cases x <;> exact h
  rw [Oper.semAt_eq _ _ _ hnd, he]
  unfold Oper.wp Oper.upon at h
  unfold Oper.uponIn
  split at h
  · rename_i v w' hr; rw [hr]; simp only [hp]; exact hK _ _ (hpd v) h.2
  · rename_i w' hr; rw [hr]; simp only [hp]; exact hK _ _ (hpd _) h.2
  · rename_i d w' hr
    exfalso
    have h1 := h.1
    cases hdst : o.dst <;> simp [Act.put, hdst] at h1
  · rename_i f args w' hr
    rw [hr]
    refine ⟨fun hd => Bool.noConfusion hd, ?_⟩
    have hc := callsIn_wide (n := 0 - 1) |>.2 h
    refine CallsIn.mono (F := Fence.wide) hc ?_
    intro e w'' hpost
    cases e with
    | returned v => simp only [hp]; exact hK _ _ (hpd v) hpost.2
    | panicked chain => exact hpost.elim
    | outgrown => obtain ⟨_, _, hf⟩ := hpost; exact hf.elim
  · rename_i row args w' hr
    rw [hr]
    refine ⟨fun hd => Bool.noConfusion hd, fun c cs _ => ?_⟩
    obtain ⟨v, w'', h1, h2⟩ := h c cs
    exact ⟨v, w'', by simp only [hp]; exact hK _ _ (hpd v) h1.2, stepsIn_wide.2 h2⟩
  · exact h.elim
  · exact h.elim

section
variable {P : Program} {f : FuncId} {N : Nat} {I0 : Imm} {R : Goal} {g : G} {M : List Res} {k : List Item}

/-- One operation of a list, told by its plain word. -/
theorem wpl_want {ops : Array Oper} {Q : Exit → Act → World → Prop} {a : Act} {w : World} {rest : List Oper} {o : Oper} {ro : Option Nat} {ms : List Deferred} (hd : a.defers = [])
    (hw : Region.wanted o (yielded ops a.tmps) = true)
    (h : ∀ K : Act → World → Prop, (∀ v w, wpListIn (FR ro) 0 P ops Q rest { a.put o.dst v with defers := ms } w → K (a.put o.dst v) w) → o.wp P a w K (fun _ _ _ => False)) :
    wpListIn (FR ro) 0 P ops Q (o :: rest) { a with defers := ms } w := by
  refine wpListIn_step fun K hK => ?_
  have hy : Region.wanted o (yielded ops ({ a with defers := ms } : Act).tmps) = true := hw
  rw [if_pos hy]
  refine wpIn_of_wp (K := fun a' w' => K { a' with defers := ms } w') hd (fun a' w' _ h' => h') (h (fun a' w' => a'.defers = [] ∧ K { a' with defers := ms } w') fun v w' hr => ⟨?_, hK _ _ hr⟩)
  cases o.dst <;> exact hd
theorem wpl_plain {ops : Array Oper} {Q : Exit → Act → World → Prop} {a : Act} {w : World} {rest : List Oper} {o : Oper} {ro : Option Nat} {ms : List Deferred} (hd : a.defers = [])
    (hg : o.guard = none)
    (h : ∀ K : Act → World → Prop, (∀ v w, wpListIn (FR ro) 0 P ops Q rest { a.put o.dst v with defers := ms } w → K (a.put o.dst v) w) → o.wp P a w K (fun _ _ _ => False)) :
    wpListIn (FR ro) 0 P ops Q (o :: rest) { a with defers := ms } w :=
  wpl_want hd (by simp [Region.wanted, hg]) h
theorem wpl_skip {ops : Array Oper} {Q : Exit → Act → World → Prop} {a : Act} {w : World} {rest : List Oper} {o : Oper} {ro : Option Nat} {ms : List Deferred}
    (hw : Region.wanted o (yielded ops a.tmps) = false)
    (h : wpListIn (FR ro) 0 P ops Q rest { a.put o.dst undef with defers := ms } w) :
    wpListIn (FR ro) 0 P ops Q (o :: rest) { a with defers := ms } w := by
  refine wpListIn_step fun K hK => ?_
  have hy : Region.wanted o (yielded ops ({ a with defers := ms } : Act).tmps) = false := hw
  rw [if_neg (by simp [hy])]
  refine ⟨fun _ _ => trivial, ?_⟩
  have hp : ({ a with defers := ms } : Act).put o.dst undef = { a.put o.dst undef with defers := ms } := by cases o.dst <;> rfl
  rw [hp]
  exact hK _ _ h

theorem Goes.step {fr fr' : Frame} {cs : List Frame} {w w' : World} (h : Steps P (lone fr cs w) (lone fr' cs w')) (h' : Goes P f R fr' cs w') : Goes P f R fr cs w := by
  unfold Goes at *
  split at h'
  · obtain ⟨e, w2, fr2, hR, hc, hf, hl⟩ := h'
    exact ⟨e, w2, fr2, hR, Comes.of_steps h hc, hf, hl⟩
  · intro c cs0 hcs
    obtain ⟨v, w2, hR, hc⟩ := h' c cs0 hcs
    exact ⟨v, w2, hR, Steps.trans h hc⟩

theorem run_skip (h : Run P f N I0 R g M k) : Run P f N I0 R g M (.code .skip :: k) :=
  ⟨fun I a w b cs hb hk hl hs hi => .step (.one stepR_skip) (h.go I a w b cs hb hk hl hs hi)⟩
theorem run_label {l : Nat} (h : Run P f N I0 R g M k) : Run P f N I0 R g M (.code (.label l) :: k) :=
  ⟨fun I a w b cs hb hk hl hs hi => .step (.one stepR_label) (h.go I a w b cs hb hk hl hs hi)⟩
theorem run_inBlock {id : Nat} (h : Run P f N I0 R g M k) : Run P f N I0 R g M (.inBlock id :: k) :=
  ⟨fun I a w b cs hb hk hl hs hi => .step (.one stepR_inBlock) (h.go I a w b cs hb hk hl hs hi)⟩
theorem run_seq {x y : Code} (h : Run P f N I0 R g M (.code x :: .code y :: k)) : Run P f N I0 R g M (.code (.seq x y) :: k) :=
  ⟨fun I a w b cs hb hk hl hs hi => .step (.one stepR_seq) (h.go I a w b cs hb hk hl hs hi)⟩
theorem run_block {id : Nat} {x : Code} (h : Run P f N I0 R g M (.code x :: .inBlock id :: k)) : Run P f N I0 R g M (.code (.block id x) :: k) :=
  ⟨fun I a w b cs hb hk hl hs hi => .step (.one stepR_block) (h.go I a w b cs hb hk hl hs hi)⟩
theorem run_exit {id : Nat} {k' : List Item} (he : exitTo id k = some k') (h : Run P f N I0 R g M k') : Run P f N I0 R g M (.code (.exit id) :: k) :=
  ⟨fun I a w b cs hb hk hl hs hi => .step (.one (stepR_exit he)) (h.go I a w b cs hb hk hl hs hi)⟩

theorem run_cond {c : Operand} {x y : Code} {p : Prop} (hc : opd g c = some (dB p)) (ht : p → Run P f N I0 R g M (.code x :: k)) (hf : ¬ p → Run P f N I0 R g M (.code y :: k)) :
    Run P f N I0 R g M (.code (.cond c x y) :: k) := by
  constructor
  intro I a w b cs hb hk hl hs hi
  obtain ⟨t, ht', hp⟩ := opd_sound hs hc
  cases t with
  | true => exact .step (.one (stepR_cond ht')) ((ht (hp.1 rfl)).go I a w b cs hb hk hl hs hi)
  | false => exact .step (.one (stepR_cond ht')) ((hf (fun h => by simpa using hp.2 h)).go I a w b cs hb hk hl hs hi)

/-- A loop by an invariant: what holds at the head of each round, and a number that each round lowers. -/
theorem run_loop {c : Code} {σ : Type} (Γ : σ → G) (Mo : σ → List Res) (φ : σ → Prop) (μ : σ → Nat)
    (start : ∃ s, φ s ∧ ∀ I a w, Slots g N I a → Inv I M w → Slots (Γ s) N I a ∧ Inv I (Mo s) w)
    (round : ∀ s, φ s → (∀ s', φ s' → μ s' < μ s → Run P f N I0 R (Γ s') (Mo s') (.inLoop c :: k)) → Run P f N I0 R (Γ s) (Mo s) (.code c :: .inLoop c :: k)) :
    Run P f N I0 R g M (.code (.loop c) :: k) := by
  have key : ∀ n s, μ s = n → φ s → Run P f N I0 R (Γ s) (Mo s) (.code c :: .inLoop c :: k) := by
    intro n
    induction n using Nat.strongRecOn with
    | _ n ih =>
      intro s hn hφ
      refine round s hφ fun s' hφ' hlt => ?_
      constructor
      intro I a w b cs hb hk hl hs hi
      exact .step (.one stepR_inLoop) ((ih (μ s') (hn ▸ hlt) s' rfl hφ').go I a w b cs hb hk hl hs hi)
  obtain ⟨s, hφ, hst⟩ := start
  constructor
  intro I a w b cs hb hk hl hs hi
  obtain ⟨hs', hi'⟩ := hst I a w hs hi
  exact .step (.one stepR_loop) ((key _ s rfl hφ).go I a w b cs hb hk hl hs' hi')

/-- Less is known. -/
theorem run_weaken {g' : G} {M' : List Res} (hw : ∀ I a w, Slots g N I a → Inv I M w → Slots g' N I a ∧ Inv I M' w) (h : Run P f N I0 R g' M' k) : Run P f N I0 R g M k :=
  ⟨fun I a w b cs hb hk hl hs hi => h.go I a w b cs hb hk hl (hw I a w hs hi).1 (hw I a w hs hi).2⟩

/-- More is immutable, other resources. -/
theorem run_turn {g' : G} {M' : List Res} (hw : ∀ I a w, Slots g N I a → Inv I M w → ∃ J, I.le J ∧ Slots g' N J a ∧ Inv J M' w) (h : Run P f N I0 R g' M' k) : Run P f N I0 R g M k := by
  constructor
  intro I a w b cs hb hk hl hs hi
  obtain ⟨J, h1, h2, h3⟩ := hw I a w hs hi
  exact h.go J a w b cs hb hk (hl.trans h1) h2 h3

theorem run_region {id : Nat} {l : List Oper} (h : RunL P f N I0 R g M l.toArray l k) : Run P f N I0 R g M (.code (.region id l.toArray false) :: k) := by
  constructor
  intro I a w b cs hb hk hl hs hi
  obtain ⟨e, a', w', ⟨rfl, hg⟩, harr⟩ := wpIn_region_lit (id := id) (h.go I a w b cs hb hk hl hs hi) b k cs hk.2 trivial (fr_room _ _)
  exact .step harr.steps hg

theorem run_nil {ops : Array Oper} (h : Run P f N I0 R g M k) : RunL P f N I0 R g M ops [] k :=
  ⟨fun I a w b cs hb hk hl hs hi => wpListIn_nil ⟨rfl, h.go I a w b cs hb hk hl hs hi⟩⟩

/-- One operation of the text's order. -/
theorem run_op {ops : Array Oper} {rest : List Oper} {dst : Tmp} {op : Op} {ty : TypeId} {pos : String} {after : Array Edge} {d : D}
    (hd : LocP P ⟨some dst, op, ty, pos, after, none⟩ g N M d) (hN : Nat.blt dst N = true) (h : RunL P f N I0 R ((dst, d) :: g) M ops rest k) :
    RunL P f N I0 R g M ops (⟨some dst, op, ty, pos, after, none⟩ :: rest) k := by
  constructor
  intro I a w b cs hb hk hl hs hi
  refine wpl_plain hs.defers rfl fun K hK => ?_
  refine hd.go I a w K _ hs hi fun v w' J hle hv hi' => hK _ _ ?_
  exact h.go J _ w' b cs hb hk (hl.trans hle) ((hs.mono hle).put hv (by simpa [Nat.blt_eq] using hN)) hi'

theorem run_opM {ops : Array Oper} {rest : List Oper} {dst : Tmp} {op : Op} {ty : TypeId} {pos : String} {after : Array Edge} {Min F : List Res} {σ : Type} {φ : σ → Prop} {d : σ → D} {Mout : σ → List Res}
    (hd : LocM P ⟨some dst, op, ty, pos, after, none⟩ g N Min φ d Mout) (hN : Nat.blt dst N = true) (h : ∀ s, φ s → RunL P f N I0 R ((dst, d s) :: g) (Mout s ++ F) ops rest k) :
    RunL P f N I0 R g (Min ++ F) ops (⟨some dst, op, ty, pos, after, none⟩ :: rest) k := by
  constructor
  intro I a w b cs hb hk hl hs hi
  refine wpl_plain hs.defers rfl fun K hK => ?_
  refine hd.go F I a w K _ hs hi fun s v w' J hφ hle hv hi' => hK _ _ ?_
  exact (h s hφ).go J _ w' b cs hb hk (hl.trans hle) ((hs.mono hle).put hv (by simpa [Nat.blt_eq] using hN)) hi'

theorem run_opM0 {ops : Array Oper} {rest : List Oper} {op : Op} {ty : TypeId} {pos : String} {after : Array Edge} {Min F : List Res} {σ : Type} {φ : σ → Prop} {d : σ → D} {Mout : σ → List Res}
    (hd : LocM P ⟨none, op, ty, pos, after, none⟩ g N Min φ d Mout) (h : ∀ s, φ s → RunL P f N I0 R g (Mout s ++ F) ops rest k) :
    RunL P f N I0 R g (Min ++ F) ops (⟨none, op, ty, pos, after, none⟩ :: rest) k := by
  constructor
  intro I a w b cs hb hk hl hs hi
  refine wpl_plain hs.defers rfl fun K hK => ?_
  refine hd.go F I a w K _ hs hi fun s v w' J hφ hle hv hi' => hK _ _ ?_
  exact (h s hφ).go J _ w' b cs hb hk (hl.trans hle) ((hs.mono hle).none v) hi'

/-- Under a guard: 'gt' is what is known where the guard says yes. -/
structure RunLG (P : Program) (f : FuncId) (N : Nat) (I0 : Imm) (R : Goal) (c : Prop) (gt g : G) (M : List Res) (ops : Array Oper) (l : List Oper) (todo : List Item) : Prop where
  go : ∀ (I : Imm) (a : Act) (w : World) (b : Frame) (cs : List Frame), b.fn = f → (b.kind = .normal ∧ b.roundOf = R.round) → I0.le I → Slots g N I a → (c → Slots gt N I a) → Inv I M w →
    wpListIn (FR R.round) 0 P ops (Behind P f R b todo cs) l (R.act a) w

theorem run_gleave {c : Prop} {gt : G} {ops : Array Oper} {l : List Oper} (h : RunL P f N I0 R g M ops l k) : RunLG P f N I0 R c gt g M ops l k :=
  ⟨fun I a w b cs hb hk hl hs _ hi => h.go I a w b cs hb hk hl hs hi⟩

theorem run_genter {ops : Array Oper} {l : List Oper} (c : Prop) (h : RunLG P f N I0 R c g g M ops l k) : RunL P f N I0 R g M ops l k :=
  ⟨fun I a w b cs hb hk hl hs hi => h.go I a w b cs hb hk hl hs (fun _ => hs) hi⟩

/-- The guard's answer. -/
def guardD (want : Bool) (d : D) (c : Prop) : Prop := ∀ I v, d.rel I v → ((match v with | .bool b => some b | _ => none) = some want ↔ c)

theorem guard_true (p : Prop) : guardD true (dB p) p := by
  rintro I v ⟨b, rfl, hp⟩
  rw [← hp]
  simp

theorem guard_false (p : Prop) : guardD false (dB p) (¬ p) := by
  rintro I v ⟨b, rfl, hp⟩
  rw [← hp]
  simp

theorem guard_if {want : Bool} {d : D} {c p : Prop} (h : guardD want d p) : guardD want (dIf c d) (c ∧ p) := by
  intro I v hv
  by_cases hc : c
  · rw [h I v (hv.1 hc)]
    exact ⟨fun hp => ⟨hc, hp⟩, fun hp => hp.2⟩
  · rw [hv.2 hc]
    simp [undef, hc]

theorem run_gop {l : List Oper} {rest : List Oper} {dst gs : Tmp} {j : Nat} {want : Bool} {op : Op} {ty : TypeId} {pos : String} {after : Array Edge} {d dg : D} {c : Prop} {gt : G}
    (hj : (l[j]?).bind (·.dst) = some gs) (hg : look g gs = some dg) (hgd : guardD want dg c)
    (hd : c → LocP P ⟨some dst, op, ty, pos, after, some (j, want)⟩ gt N M d) (hN : Nat.blt dst N = true)
    (h : RunLG P f N I0 R c ((dst, d) :: gt) ((dst, dIf c d) :: g) M l.toArray rest k) :
    RunLG P f N I0 R c gt g M l.toArray (⟨some dst, op, ty, pos, after, some (j, want)⟩ :: rest) k := by
  constructor
  intro I a w b cs hb hk hl hs hst hi
  have hgs := hs.slot gs _ hg
  have hN' : dst < N := by simpa [Nat.blt_eq] using hN
  have hy : yielded l.toArray a.tmps j = (match a.tmps.getD gs undef with | .bool b => some b | _ => none) := by
    simp only [yielded, List.getElem?_toArray, hj, Option.bind_some, Array.getD_eq_getD_getElem?]
    cases hx : a.tmps[gs]? with
    | none => rfl
    | some u => cases u <;> rfl
  have hans := hgd I _ hgs
  by_cases hc : c
  · refine wpl_want hs.defers ?_ fun K hK => ?_
    · simp only [Region.wanted, hy]
      rw [hans.2 hc]
      simp
    · refine (hd hc).go I a w K _ (hst hc) hi fun v w' J hle hv hi' => hK _ _ ?_
      exact h.go J _ w' b cs hb hk (hl.trans hle) ((hs.mono hle).put (d := dIf _ d) ⟨fun _ => hv, fun hn => absurd hc hn⟩ hN') (fun _ => ((hst hc).mono hle).put hv hN') hi'
  · refine wpl_skip ?_ ?_
    · simp only [Region.wanted, hy]
      have : ¬ ((match a.tmps.getD gs undef with | .bool b => some b | _ => none) = some want) := fun e => hc (hans.1 e)
      simpa using this
    · exact h.go I _ w b cs hb hk hl (hs.put (d := dIf _ d) ⟨fun hcc => absurd hcc hc, fun _ => rfl⟩ hN') (fun hcc => absurd hcc hc) hi

theorem run_gfirst {l : List Oper} {rest : List Oper} {dst gs : Tmp} {j : Nat} {want : Bool} {op : Op} {ty : TypeId} {pos : String} {after : Array Edge} {d dg : D} {c : Prop}
    (hj : (l[j]?).bind (·.dst) = some gs) (hg : look g gs = some dg) (hgd : guardD want dg c)
    (hd : c → LocP P ⟨some dst, op, ty, pos, after, some (j, want)⟩ g N M d) (hN : Nat.blt dst N = true)
    (h : RunLG P f N I0 R c ((dst, d) :: g) ((dst, dIf c d) :: g) M l.toArray rest k) :
    RunL P f N I0 R g M l.toArray (⟨some dst, op, ty, pos, after, some (j, want)⟩ :: rest) k :=
  run_genter c (run_gop hj hg hgd hd hN h)

end

/-! ### Contracts -/

/-- A function that turns 'Min' into 'Mout s'. -/
def Spec (P : Program) (f : FuncId) (Ds : List D) (Min : List Res) {σ : Type} (φ : σ → Prop) (d : σ → D) (Mout : σ → List Res) : Prop :=
  ∀ (I : Imm) (F : List Res) (w : World) (vs : List Value), relL Ds I vs → Inv I (Min ++ F) w →
    Calls P f vs.toArray w fun e w' => ∃ v, e = .returned v ∧ ∃ s, φ s ∧ ∃ J, I.le J ∧ (d s).rel J v ∧ Inv J (Mout s ++ F) w'

/-- A function that only computes. -/
def SpecP (P : Program) (f : FuncId) (Ds : List D) (d : D) : Prop :=
  ∀ (I : Imm) (M : List Res) (w : World) (vs : List Value), relL Ds I vs → Inv I M w →
    Calls P f vs.toArray w fun e w' => ∃ v, e = .returned v ∧ ∃ J, I.le J ∧ d.rel J v ∧ Inv J M w'

/-- The slots at the start: the parameters. -/
def start : Nat → List D → G
  | _, [] => []
  | i, d :: ds => (i, d) :: start (i + 1) ds

theorem look_start {I : Imm} : ∀ {ds : List D} {vs : List Value} (i k : Nat) (d : D), relL ds I vs → look (start i ds) k = some d → i ≤ k ∧ ∃ v, vs[k - i]? = some v ∧ d.rel I v
  | [], _, i, k, d, _, h => by simp [start, look] at h
  | e :: ds, v :: vs, i, k, d, ⟨h1, h2⟩, h => by
    rw [start, look_cons] at h
    split at h
    · rename_i hik
      subst hik
      injection h with h
      subst h
      exact ⟨Nat.le_refl _, v, by simp, h1⟩
    · obtain ⟨h3, u, h4, h5⟩ := look_start (i + 1) k d h2 h
      refine ⟨by omega, u, ?_, h5⟩
      have : k - i = (k - (i + 1)) + 1 := by omega
      rw [this]
      simpa using h4

theorem slots_start {I : Imm} {ds : List D} {vs : List Value} {N : Nat} (h : relL ds I vs) (hN : vs.length ≤ N) :
    Slots (start 0 ds) N I { tmps := vs.toArray ++ Array.replicate (N - vs.toArray.size) undef, defers := [] } := by
  refine ⟨by simp; omega, rfl, fun k d hk => ?_⟩
  obtain ⟨_, v, h2, h3⟩ := look_start 0 k d h hk
  have hlt : k < vs.length := by
    have := (List.getElem?_eq_some_iff.1 h2).1
    simpa using this
  have : (vs.toArray ++ Array.replicate (N - vs.toArray.size) undef).getD k undef = v := by
    rw [Array.getD_eq_getD_getElem?, Array.getElem?_append_left (by simpa using hlt)]
    simp at h2
    simp [h2]
  rw [this]
  exact h3

/-- What a body must do for its contract. -/
def Post (I : Imm) {σ : Type} (φ : σ → Prop) (d : σ → D) (Mout : σ → List Res) (F : List Res) : Goal where
  post e w' := ∃ v, e = .returned v ∧ ∃ s, φ s ∧ ∃ J, I.le J ∧ (d s).rel J v ∧ Inv J (Mout s ++ F) w'

section
variable {P : Program} {f : FuncId}

theorem goes_enter {fn : Func} {c : Code} {vs : List Value} {w : World} {R : Goal} {I : Imm} {M : List Res} {ds : List D} (hro : R.round = none) (hms : R.marks = [])
    (hf : P.funcs[f]? = some fn) (hb : fn.body = some c) (hN : vs.length ≤ fn.ntmps) (hv : relL ds I vs) (hi : Inv I M w)
    (h : Run P f fn.ntmps I R (start 0 ds) M [.code c]) : Calls P f vs.toArray w R.post := by
  intro cs
  let b : Frame := { (default : Frame) with fn := f, kind := .normal, roundOf := none }
  have henter : Frame.enter P f vs.toArray .normal = b.atR (R.act { tmps := vs.toArray ++ Array.replicate (fn.ntmps - vs.toArray.size) undef, defers := [] }) [.code c] := by
    simp [Frame.enter, Frame.atR, hf, hb, b, hms]
  rw [henter]
  have := h.go I _ w b cs rfl ⟨rfl, hro.symm⟩ I.le_refl (slots_start hv hN) hi
  unfold Goes at this
  rw [hro] at this
  exact this

theorem spec_of_body {fn : Func} {c : Code} {Ds : List D} {Min : List Res} {σ : Type} {φ : σ → Prop} {d : σ → D} {Mout : σ → List Res}
    (hf : P.funcs[f]? = some fn) (hb : fn.body = some c) (hN : Nat.ble Ds.length fn.ntmps = true)
    (h : ∀ I F, Run P f fn.ntmps I (Post I φ d Mout F) (start 0 Ds) (Min ++ F) [.code c]) : Spec P f Ds Min φ d Mout :=
  fun I F w vs hv hi => goes_enter (R := Post I φ d Mout F) rfl rfl hf hb (by rw [← relL_length hv]; exact Nat.le_of_ble_eq_true hN) hv hi (h I F)

def PostP (I : Imm) (d : D) (M : List Res) : Goal where
  post e w' := ∃ v, e = .returned v ∧ ∃ J, I.le J ∧ d.rel J v ∧ Inv J M w'

theorem specP_of_body {fn : Func} {c : Code} {Ds : List D} {d : D}
    (hf : P.funcs[f]? = some fn) (hb : fn.body = some c) (hN : Nat.ble Ds.length fn.ntmps = true)
    (h : ∀ I M, Run P f fn.ntmps I (PostP I d M) (start 0 Ds) M [.code c]) : SpecP P f Ds d :=
  fun I M w vs hv hi => goes_enter (R := PostP I d M) rfl rfl hf hb (by rw [← relL_length hv]; exact Nat.le_of_ble_eq_true hN) hv hi (h I M)

variable {N : Nat} {I0 : Imm} {R : Goal} {g : G} {M : List Res} {k : List Item} {fn : Func}

theorem goes_ret {a : Act} {b : Frame} {cs : List Frame} {w : World} {v : Value} (hf : P.funcs[f]? = some fn) (hb : b.fn = f) (hk : b.kind = .normal ∧ b.roundOf = R.round) (hr : (results fn a.tmps).run P w = .ok v w)
    (hR : R.post (.returned v) w) (hro : R.round = none := by rfl) (hms : R.marks = [] := by rfl) : Goes P f R (b.atR (R.act a) (.code .ret :: k)) cs w := by
  unfold Goes
  rw [hro]
  exact ⟨.returned v, w, { b.atR (R.act a) (.code .ret :: k) with mode := .returning }, hR, .one (stepR_ret (hk.2.trans hro)), hb, rfl, hms, hk.1, fn, by simpa [Frame.atR, hb] using hf, hr⟩

theorem goes_end {a : Act} {b : Frame} {cs : List Frame} {w : World} {v : Value} (hf : P.funcs[f]? = some fn) (hb : b.fn = f) (hk : b.kind = .normal ∧ b.roundOf = R.round) (hr : (results fn a.tmps).run P w = .ok v w)
    (hR : R.post (.returned v) w) (hro : R.round = none := by rfl) (hms : R.marks = [] := by rfl) : Goes P f R (b.atR (R.act a) []) cs w := by
  unfold Goes
  rw [hro]
  exact ⟨.returned v, w, { b.atR (R.act a) [] with mode := .returning }, hR, .one (stepR_end (hk.2.trans hro)), hb, rfl, hms, hk.1, fn, by simpa [Frame.atR, hb] using hf, hr⟩

/-- The call ends with one result, in a slot. -/
theorem run_ret {t : Tmp} {σ : Type} {φ : σ → Prop} {d : σ → D} {Mout : σ → List Res} {F : List Res} (s : σ) (hf : P.funcs[f]? = some fn) (hr : fn.results = #[.tmp t]) {d' : D} (hd : look g t = some d')
    (hle : ∀ I v, d'.rel I v → (d s).rel I v) (hφ : φ s) (hM : ∀ I w, Inv I M w → Inv I (Mout s ++ F) w) : Run P f N I0 (Post I0 φ d Mout F) g M (.code .ret :: k) :=
  ⟨fun _ a w _ _ hb hk hl hs hi => goes_ret hf hb hk (results_tmp hr a.tmps P w) ⟨_, rfl, s, hφ, _, hl, hle _ _ (hs.slot t d' hd), hM _ _ hi⟩⟩

theorem run_ret2 {t u : Tmp} {σ : Type} {φ : σ → Prop} {d : σ → D} {Mout : σ → List Res} {F : List Res} (s : σ) (hf : P.funcs[f]? = some fn) (hr : fn.results = #[.tmp t, .tmp u]) {d1 d2 : D} (hd1 : look g t = some d1) (hd2 : look g u = some d2)
    (hle : ∀ I v, (dTup [d1, d2]).rel I v → (d s).rel I v) (hφ : φ s) (hM : ∀ I w, Inv I M w → Inv I (Mout s ++ F) w) : Run P f N I0 (Post I0 φ d Mout F) g M (.code .ret :: k) :=
  ⟨fun _ a w _ _ hb hk hl hs hi => goes_ret hf hb hk (results_tmp2 hr a.tmps P w) ⟨_, rfl, s, hφ, _, hl, hle _ _ ⟨_, rfl, hs.slot t d1 hd1, hs.slot u d2 hd2, trivial⟩, hM _ _ hi⟩⟩

theorem run_retP {t : Tmp} {d : D} (hf : P.funcs[f]? = some fn) (hr : fn.results = #[.tmp t]) {d' : D} (hd : look g t = some d') (hle : ∀ I v, d'.rel I v → d.rel I v) : Run P f N I0 (PostP I0 d M) g M (.code .ret :: k) :=
  ⟨fun _ a w _ _ hb hk hl hs hi => goes_ret hf hb hk (results_tmp hr a.tmps P w) ⟨_, rfl, _, hl, hle _ _ (hs.slot t d' hd), hi⟩⟩

theorem run_ret2P {t u : Tmp} {d : D} (hf : P.funcs[f]? = some fn) (hr : fn.results = #[.tmp t, .tmp u]) {d1 d2 : D} (hd1 : look g t = some d1) (hd2 : look g u = some d2) (hle : ∀ I v, (dTup [d1, d2]).rel I v → d.rel I v) :
    Run P f N I0 (PostP I0 d M) g M (.code .ret :: k) :=
  ⟨fun _ a w _ _ hb hk hl hs hi => goes_ret hf hb hk (results_tmp2 hr a.tmps P w) ⟨_, rfl, _, hl, hle _ _ ⟨_, rfl, hs.slot t d1 hd1, hs.slot u d2 hd2, trivial⟩, hi⟩⟩
end
end Go.Q

namespace Go.Q

/-! ### What the rules ask of types -/

class TyV (P : Program) (t : TypeId) (agg : outParam Bool) (n : outParam Nat) : Prop where
  agg_eq : (P.underlying t).map (fun | .struct _ | .array _ _ => true | _ => false) = some agg
  size_eq : (P.info? t).map (·.size) = some n
class TySl (P : Program) (t : TypeId) (e : outParam TypeId) : Prop where
  eq : P.underlying t = some (.slice e)
class TyStr (P : Program) (t : TypeId) : Prop where
  eq : P.underlying t = some .string
class TyBool (P : Program) (t : TypeId) : Prop where
  eq : P.underlying t = some .bool
class TyInt (P : Program) (t : TypeId) (k : outParam IntKind) : Prop where
  eq : P.underlying t = some (.int k)
def fldOf (P : Program) (s : TypeId) (i : Nat) : Option (Nat × Nat × Bool) :=
  match P.underlying s with
  | some (.struct fs) => (fs[i]?).bind fun f => ((P.info? f.type).map (·.size)).bind fun n => ((P.underlying f.type).map (fun | .struct _ | .array _ _ => true | _ => false)).map fun b => (f.offset, n, b)
  | _ => none
class TyFld (P : Program) (s : TypeId) (i : Nat) (off n : outParam Nat) (agg : outParam Bool) : Prop where
  is : fldOf P s i = some (off, n + 1, agg)
theorem TyFld.eq {P : Program} {s : TypeId} {i off n : Nat} {agg : Bool} (h : TyFld P s i off n agg) :
    ∃ fs f, P.underlying s = some (.struct fs) ∧ fs[i]? = some f ∧ f.offset = off ∧ (P.info? f.type).map (·.size) = some (n + 1) ∧ (P.underlying f.type).map (fun | .struct _ | .array _ _ => true | _ => false) = some agg := by
  have := h.is
  unfold fldOf at this
  split at this
  · rename_i fs hu
    cases h1 : fs[i]? with
    | none => simp [h1] at this
    | some f =>
      cases h2 : (P.info? f.type).map (·.size) with
      | none => rw [h1, Option.bind_some, h2] at this; cases this
      | some n' =>
        cases h3 : (P.underlying f.type).map (fun | .struct _ | .array _ _ => true | _ => false) with
        | none => rw [h1, Option.bind_some, h2, Option.bind_some, h3] at this; cases this
        | some b =>
          rw [h1, Option.bind_some, h2, Option.bind_some, h3] at this
          simp only [Option.map_some, Option.some.injEq, Prod.mk.injEq] at this
          obtain ⟨r1, r2, r3⟩ := this
          exact ⟨fs, f, hu, h1, r1, by rw [h2, r2], by rw [h3, r3]⟩
  · cases this
class TyZ (P : Program) (t : TypeId) (bytes : outParam Nat) (z : outParam Value) : Prop where
  eq : (P.info? t).map (fun i => (i.bytes, i.zero)) = some (bytes, some z)
/-- A Go function with a body. -/
class TyFn (P : Program) (f : FuncId) : Prop where
  is : (P.funcs[f]?).map (fun fn => (fn.name == "runtime.NumGoroutine", fn.body.isNone)) = some (false, false)
theorem TyFn.eq {P : Program} {f : FuncId} (h : TyFn P f) : ∃ fn, P.funcs[f]? = some fn ∧ (fn.name == "runtime.NumGoroutine") = false ∧ fn.body.isNone = false := by
  have := h.is
  cases h1 : P.funcs[f]? with
  | none => simp [h1] at this
  | some fn => rw [h1] at this; simp only [Option.map_some, Option.some.injEq, Prod.mk.injEq] at this; exact ⟨fn, rfl, this.1, this.2⟩

section
variable {P : Program}

theorem run_isAgg {t : TypeId} {agg : Bool} {n : Nat} (h : TyV P t agg n) (w : World) : (isAgg t).run P w = .ok agg w := by
  have h1 := h.agg_eq
  cases hu : P.underlying t with
  | none => simp [hu] at h1
  | some d =>
    simp only [hu, Option.map_some, Option.some.injEq] at h1
    subst h1
    unfold isAgg
    simp only [Sem.run_bind, run_underlying hu, Result.andThen_ok]
    cases d <;> rfl

theorem run_sizeOf' {t : TypeId} {n : Nat} (h1 : (P.info? t).map (·.size) = some n) (w : World) : (sizeOf t).run P w = .ok n w := by
  cases hu : P.info? t with
  | none => simp [hu] at h1
  | some i =>
    simp only [hu, Option.map_some, Option.some.injEq] at h1
    simp [sizeOf, typeInfo, hu, h1]

theorem run_sizeOf {t : TypeId} {agg : Bool} {n : Nat} (h : TyV P t agg n) (w : World) : (sizeOf t).run P w = .ok n w := run_sizeOf' h.size_eq w

/-- What a value of known cells is. -/
def cellsD (agg : Bool) (ds : List D) : D := if agg then dAgg ds else ds.headD dTop

end

variable {P : Program} {g : G} {N : Nat} {M : List Res} {dst : Option Tmp} {ty : TypeId} {pos : String} {after : Array Edge} {gd : Option (Nat × Bool)}

theorem loc_move {x : Operand} {d : D} (hx : opd g x = some d) : LocP P ⟨dst, .move x, ty, pos, after, gd⟩ g N M d :=
  locP_of_run fun I a w hs _ => ⟨a.eval x, rfl, opd_sound hs hx⟩

theorem loc_assign {x : Operand} {d : D} (hx : opd g x = some d) : LocP P ⟨dst, .assign x, ty, pos, after, gd⟩ g N M d :=
  locP_of_run fun I a w hs _ => ⟨a.eval x, rfl, opd_sound hs hx⟩

/-- 'p || q' -/
theorem loc_or {c b : Operand} {p q : Prop} (hc : opd g c = some (dB p)) (hb : opd g b = some (dIf (¬ p) (dB q))) : LocP P ⟨dst, .pick c (.const (.bool true)) b, ty, pos, after, gd⟩ g N M (dB (p ∨ q)) :=
  locP_of_run fun I a w hs _ => by
    obtain ⟨t, ht, hp⟩ := opd_sound hs hc
    have hq := opd_sound hs hb
    cases t with
    | true => exact ⟨.bool true, by simp [execOp, ht, asBool, show a.eval (.const (.bool true)) = .bool true from rfl], true, rfl, by simp [hp.1 rfl]⟩
    | false =>
      have hnp : ¬ p := fun h => by simpa using hp.2 h
      obtain ⟨u, hu, hq⟩ := hq.1 hnp
      exact ⟨.bool u, by simp [execOp, ht, asBool, hu], u, rfl, by simp [hq, hnp]⟩

/-- 'p && q' -/
theorem loc_and {c b : Operand} {p q : Prop} (hc : opd g c = some (dB p)) (hb : opd g b = some (dIf p (dB q))) : LocP P ⟨dst, .pick c b (.const (.bool false)), ty, pos, after, gd⟩ g N M (dB (p ∧ q)) :=
  locP_of_run fun I a w hs _ => by
    obtain ⟨t, ht, hp⟩ := opd_sound hs hc
    have hq := opd_sound hs hb
    cases t with
    | false =>
      have hnp : ¬ p := fun h => by simpa using hp.2 h
      exact ⟨.bool false, by simp [execOp, ht, asBool, show a.eval (.const (.bool false)) = .bool false from rfl], false, rfl, by simp [hnp]⟩
    | true =>
      obtain ⟨u, hu, hq⟩ := hq.1 (hp.1 rfl)
      exact ⟨.bool u, by simp [execOp, ht, asBool, hu], u, rfl, by simp [hq, hp.1 rfl]⟩

theorem loc_not {t : TypeId} {x : Operand} {p : Prop} (hx : opd g x = some (dB p)) : LocP P ⟨dst, .unOp .not t x, ty, pos, after, gd⟩ g N M (dB (¬ p)) :=
  locP_of_run fun I a w hs _ => by
    obtain ⟨b, hb, hp⟩ := opd_sound hs hx
    exact ⟨.bool (!b), by simp [execOp, Op.unary, hb], !b, rfl, by rw [← hp]; simp⟩

/-! ### Integers -/

theorem run_binOp_int {op : BinOp} {t t' : TypeId} {x y : Operand} {a : Act} {k : IntKind} {m n : Int} {v : Value} {w : World} (hx : a.eval x = .int k m) (hy : a.eval y = .int k n)
    (h : (binOp op t (.int k m) (.int k n)).run P w = .ok v w) : (execOp a.eval ⟨dst, .binOp op t x y t', ty, pos, after, gd⟩).run P w = .ok (.value v) w := by
  have e : eqGuard op t x y (.int k m) (.int k n) = pure () := by
    unfold eqGuard
    cases op <;> rfl
  simp [execOp, hx, hy, e, h]

section
variable {t t' : TypeId} {x y : Operand} {k : IntKind} {m n : Int}

theorem loc_addW (hx : opd g x = some (dInt k m)) (hy : opd g y = some (dInt k n)) : LocP P ⟨dst, .binOp .add t x y t', ty, pos, after, gd⟩ g N M (dInt k (k.wrap (m + n))) :=
  locP_of_run fun I a w hs _ => ⟨_, run_binOp_int (opd_sound hs hx) (opd_sound hs hy) (by simp [binOp, Op.intArith]), rfl⟩
theorem loc_subW (hx : opd g x = some (dInt k m)) (hy : opd g y = some (dInt k n)) : LocP P ⟨dst, .binOp .sub t x y t', ty, pos, after, gd⟩ g N M (dInt k (k.wrap (m - n))) :=
  locP_of_run fun I a w hs _ => ⟨_, run_binOp_int (opd_sound hs hx) (opd_sound hs hy) (by simp [binOp, Op.intArith]), rfl⟩
theorem loc_mulW (hx : opd g x = some (dInt k m)) (hy : opd g y = some (dInt k n)) : LocP P ⟨dst, .binOp .mul t x y t', ty, pos, after, gd⟩ g N M (dInt k (k.wrap (m * n))) :=
  locP_of_run fun I a w hs _ => ⟨_, run_binOp_int (opd_sound hs hx) (opd_sound hs hy) (by simp [binOp, Op.intArith]), rfl⟩
theorem loc_quoW (hx : opd g x = some (dInt k m)) (hy : opd g y = some (dInt k n)) (h0 : n ≠ 0) : LocP P ⟨dst, .binOp .quo t x y t', ty, pos, after, gd⟩ g N M (dInt k (k.wrap (m.tdiv n))) :=
  locP_of_run fun I a w hs _ => ⟨_, run_binOp_int (opd_sound hs hx) (opd_sound hs hy) (by simp [binOp, Op.intDiv, h0]), rfl⟩
theorem loc_remW (hx : opd g x = some (dInt k m)) (hy : opd g y = some (dInt k n)) (h0 : n ≠ 0) : LocP P ⟨dst, .binOp .rem t x y t', ty, pos, after, gd⟩ g N M (dInt k (m.tmod n)) :=
  locP_of_run fun I a w hs _ => ⟨_, run_binOp_int (opd_sound hs hx) (opd_sound hs hy) (by simp [binOp, Op.intDiv, h0]), rfl⟩

theorem LocP.conv {o : Oper} {d d' : D} (h : LocP P o g N M d) (hd : d = d') : LocP P o g N M d' := hd ▸ h

theorem loc_add (hx : opd g x = some (dInt .i64 m)) (hy : opd g y = some (dInt .i64 n)) (h : -9223372036854775808 ≤ m + n ∧ m + n ≤ 9223372036854775807) : LocP P ⟨dst, .binOp .add t x y t', ty, pos, after, gd⟩ g N M (dInt .i64 (m + n)) :=
  (loc_addW hx hy).conv (by rw [IntWalk.i64_in _ h])
theorem loc_sub (hx : opd g x = some (dInt .i64 m)) (hy : opd g y = some (dInt .i64 n)) (h : -9223372036854775808 ≤ m - n ∧ m - n ≤ 9223372036854775807) : LocP P ⟨dst, .binOp .sub t x y t', ty, pos, after, gd⟩ g N M (dInt .i64 (m - n)) :=
  (loc_subW hx hy).conv (by rw [IntWalk.i64_in _ h])
theorem loc_mul (hx : opd g x = some (dInt .i64 m)) (hy : opd g y = some (dInt .i64 n)) (h : -9223372036854775808 ≤ m * n ∧ m * n ≤ 9223372036854775807) : LocP P ⟨dst, .binOp .mul t x y t', ty, pos, after, gd⟩ g N M (dInt .i64 (m * n)) :=
  (loc_mulW hx hy).conv (by rw [IntWalk.i64_in _ h])
theorem loc_quo (hx : opd g x = some (dInt .i64 m)) (hy : opd g y = some (dInt .i64 n)) (h : 0 ≤ m ∧ m ≤ 9223372036854775807 ∧ 1 ≤ n) : LocP P ⟨dst, .binOp .quo t x y t', ty, pos, after, gd⟩ g N M (dInt .i64 (m / n)) :=
  (loc_quoW hx hy (by omega)).conv (by rw [IntWalk.i64_quo _ _ h])
theorem loc_rem (hx : opd g x = some (dInt .i64 m)) (hy : opd g y = some (dInt .i64 n)) (h : 0 ≤ m ∧ 1 ≤ n) : LocP P ⟨dst, .binOp .rem t x y t', ty, pos, after, gd⟩ g N M (dInt .i64 (m % n)) :=
  (loc_remW hx hy (by omega)).conv (by rw [IntWalk.rem_in _ _ h.1])

theorem loc_lss (hx : opd g x = some (dInt k m)) (hy : opd g y = some (dInt k n)) : LocP P ⟨dst, .binOp .lss t x y t', ty, pos, after, gd⟩ g N M (dB (m < n)) :=
  locP_of_run fun I a w hs _ => ⟨_, run_binOp_int (opd_sound hs hx) (opd_sound hs hy) (by simp [binOp, Op.intCmp]; rfl), _, rfl, by simp⟩
theorem loc_leq (hx : opd g x = some (dInt k m)) (hy : opd g y = some (dInt k n)) : LocP P ⟨dst, .binOp .leq t x y t', ty, pos, after, gd⟩ g N M (dB (m ≤ n)) :=
  locP_of_run fun I a w hs _ => ⟨_, run_binOp_int (opd_sound hs hx) (opd_sound hs hy) (by simp [binOp, Op.intCmp]; rfl), _, rfl, by simp⟩
theorem loc_gtr (hx : opd g x = some (dInt k m)) (hy : opd g y = some (dInt k n)) : LocP P ⟨dst, .binOp .gtr t x y t', ty, pos, after, gd⟩ g N M (dB (n < m)) :=
  locP_of_run fun I a w hs _ => ⟨_, run_binOp_int (opd_sound hs hx) (opd_sound hs hy) (by simp [binOp, Op.intCmp]; rfl), _, rfl, by simp⟩
theorem loc_geq (hx : opd g x = some (dInt k m)) (hy : opd g y = some (dInt k n)) : LocP P ⟨dst, .binOp .geq t x y t', ty, pos, after, gd⟩ g N M (dB (n ≤ m)) :=
  locP_of_run fun I a w hs _ => ⟨_, run_binOp_int (opd_sound hs hx) (opd_sound hs hy) (by simp [binOp, Op.intCmp]; rfl), _, rfl, by simp⟩
theorem loc_eql (hx : opd g x = some (dInt k m)) (hy : opd g y = some (dInt k n)) : LocP P ⟨dst, .binOp .eql t x y t', ty, pos, after, gd⟩ g N M (dB (m = n)) :=
  locP_of_run fun I a w hs _ => ⟨_, run_binOp_int (opd_sound hs hx) (opd_sound hs hy) (by simp [binOp, Op.intCmp]; rfl), _, rfl, by simp⟩
theorem loc_neq (hx : opd g x = some (dInt k m)) (hy : opd g y = some (dInt k n)) : LocP P ⟨dst, .binOp .neq t x y t', ty, pos, after, gd⟩ g N M (dB (m ≠ n)) :=
  locP_of_run fun I a w hs _ => ⟨_, run_binOp_int (opd_sound hs hx) (opd_sound hs hy) (by simp [binOp, Op.intCmp]; rfl), _, rfl, by simp⟩

end

/-! ### Memory that no longer changes -/

theorem at_cell {I : Imm} {M : List Res} {w : World} (hi : Inv I M w) {a : Addr} {ds : List D} (h : I.at a ds) (i : Nat) (d : D) (hd : ds[i]? = some d) : ∃ v, w.cell? (a.add i) = some v ∧ d.rel I v := by
  obtain ⟨hsp, cs, T, fz, hb, hr⟩ := h
  obtain ⟨v, hv, hd'⟩ := relL_get hr i d hd
  refine ⟨v, ?_, hd'⟩
  have hh := hi.imm _ _ hb
  have hlt : i < ds.length := (List.getElem?_eq_some_iff.1 hd).1
  rw [List.getElem?_take, if_pos hlt, List.getElem?_drop, Array.getElem?_toList] at hv
  have hadd : a.add i = ⟨a.block, a.off + i, none⟩ := by
    obtain ⟨b, o, s⟩ := a
    simp only at hsp
    subst hsp
    exact Addr.add_lit b o i
  rw [hadd]
  simp [World.cell?, hh, hv]

theorem run_load_at {I : Imm} {M : List Res} {w : World} (hi : Inv I M w) {a : Addr} {d : D} {ds : List D} (h : I.at a (d :: ds)) : ∃ v, (load a).run P w = .ok v w ∧ d.rel I v := by
  obtain ⟨v, hv, hd⟩ := at_cell hi h 0 d rfl
  rw [Addr.add_zero'] at hv
  exact ⟨v, by simp [hv], hd⟩

theorem at_take {I : Imm} {a : Addr} {ds : List D} (n : Nat) (h : I.at a ds) : I.at a (ds.take n) := by
  obtain ⟨hsp, cs, T, fz, hb, hr⟩ := h
  refine ⟨hsp, cs, T, fz, hb, ?_⟩
  have := relL_take n hr
  rw [List.take_take] at this
  rw [List.length_take]
  exact this

theorem at_drop {I : Imm} {a : Addr} {ds : List D} (n : Nat) (h : I.at a ds) : I.at (a.add n) (ds.drop n) := by
  obtain ⟨hsp, cs, T, fz, hb, hr⟩ := h
  have hadd : a.add n = ⟨a.block, a.off + n, none⟩ := by
    obtain ⟨b, o, s⟩ := a
    simp only at hsp
    subst hsp
    exact Addr.add_lit b o n
  rw [hadd]
  refine ⟨rfl, cs, T, fz, hb, ?_⟩
  have := relL_drop n hr
  rw [List.drop_take, List.drop_drop] at this
  rw [List.length_drop]
  exact this

theorem run_loadCells_at {I : Imm} {M : List Res} {w : World} (hi : Inv I M w) {a : Addr} {ds : List D} (h : I.at a ds) : ∃ cs : List Value, (loadCells a ds.length).run P w = .ok cs.toArray w ∧ relL ds I cs := by
  obtain ⟨hsp, cs, T, fz, hb, hr⟩ := h
  have hlen := relL_length hr
  refine ⟨_, ?_, hr⟩
  have := run_loadCells_list (P := P) w a ((cs.toList.drop a.off).take ds.length) (fun j v hj => by
    obtain ⟨u, hu, _⟩ := at_cell hi ⟨hsp, cs, T, fz, hb, hr⟩ j (ds[j]'(by rw [hlen]; exact (List.getElem?_eq_some_iff.1 hj).1)) (by simp)
    rw [hu]
    have hh := hi.imm _ _ hb
    have hadd : a.add j = ⟨a.block, a.off + j, none⟩ := by
      obtain ⟨b, o, s⟩ := a
      simp only at hsp
      subst hsp
      exact Addr.add_lit b o j
    rw [hadd] at hu
    simp only [World.cell?, hh] at hu
    rw [List.getElem?_take] at hj
    split at hj
    · rw [List.getElem?_drop, Array.getElem?_toList] at hj
      simp at hu
      rw [hj] at hu
      exact hu.symm
    · cases hj)
  rwa [← hlen] at this

theorem loc_load1 {t : TypeId} [ht : TyV P t false 1] {x : Operand} {d : D} {ds : List D} (hx : opd g x = some (dBox (d :: ds))) : LocP P ⟨dst, .load t x, ty, pos, after, gd⟩ g N M d :=
  locP_of_run fun I a w hs hi => by
    obtain ⟨p, hp, hat⟩ := opd_sound hs hx
    obtain ⟨v, hv, hd⟩ := run_load_at (P := P) hi hat
    exact ⟨v, by simp [execOp, hp, Instr.loadAt, Instr.sureAddr, loadVar, run_isAgg ht, -run_load, hv], hd⟩

theorem loc_loadN {t : TypeId} {n : Nat} [ht : TyV P t true n] {x : Operand} {ds : List D} (hx : opd g x = some (dBox ds)) (hn : Nat.ble n ds.length = true) : LocP P ⟨dst, .load t x, ty, pos, after, gd⟩ g N M (dAgg (ds.take n)) :=
  locP_of_run fun I a w hs hi => by
    obtain ⟨p, hp, hat⟩ := opd_sound hs hx
    obtain ⟨cs, hv, hd⟩ := run_loadCells_at (P := P) hi (at_take n hat)
    have hl : (ds.take n).length = n := by rw [List.length_take]; exact Nat.min_eq_left (Nat.le_of_ble_eq_true hn)
    rw [hl] at hv
    exact ⟨.agg cs.toArray, by simp [execOp, hp, Instr.loadAt, Instr.sureAddr, loadVar, run_isAgg ht, run_sizeOf ht, hv], _, rfl, by simpa using hd⟩

theorem loc_fieldAddr {s : TypeId} {i off n : Nat} {agg : Bool} [hf : TyFld P s i off n agg] {x : Operand} {ds : List D} (hx : opd g x = some (dBox ds)) : LocP P ⟨dst, .fieldAddr s x i, ty, pos, after, gd⟩ g N M (dBox (ds.drop off)) :=
  locP_of_run fun I a w hs hi => by
    obtain ⟨p, hp, hat⟩ := opd_sound hs hx
    obtain ⟨fs, fd, hu, hfi, hoff, hsz, _⟩ := hf.eq
    refine ⟨.pointer (some (p.add off)), ?_, _, rfl, at_drop off hat⟩
    simp [execOp, hp, Instr.fieldAt, run_underlying hu, hfi, Instr.sureAddr, fieldPlace, run_sizeOf' hsz, hoff]

theorem loc_field1 {s : TypeId} {i off : Nat} [hf : TyFld P s i off 0 false] {x : Operand} {ds : List D} {d : D} (hx : opd g x = some (dAgg ds)) (hd : ds[off]? = some d) : LocP P ⟨dst, .field s x i, ty, pos, after, gd⟩ g N M d :=
  locP_of_run fun I a w hs hi => by
    obtain ⟨cs, hp, hr⟩ := opd_sound hs hx
    obtain ⟨fs, fd, hu, hfi, hoff, hsz, hag⟩ := hf.eq
    obtain ⟨v, hv, hd'⟩ := relL_get hr off d hd
    refine ⟨v, ?_, hd'⟩
    have h1 := run_isAgg (P := P) (t := fd.type) ⟨hag, hsz⟩ w
    simp [execOp, hp, Instr.field, run_underlying hu, hfi, asAgg, part, h1, hoff]
    simp at hv
    simp [hv]

theorem loc_fieldN {s : TypeId} {i off n : Nat} [hf : TyFld P s i off n true] {x : Operand} {ds : List D} (hx : opd g x = some (dAgg ds)) : LocP P ⟨dst, .field s x i, ty, pos, after, gd⟩ g N M (dAgg ((ds.drop off).take (n + 1))) :=
  locP_of_run fun I a w hs hi => by
    obtain ⟨cs, hp, hr⟩ := opd_sound hs hx
    obtain ⟨fs, fd, hu, hfi, hoff, hsz, hag⟩ := hf.eq
    refine ⟨.agg (cs.extract off (off + (n + 1))), ?_, _, rfl, ?_⟩
    · have h1 := run_isAgg (P := P) (t := fd.type) ⟨hag, hsz⟩ w
      have h2 := run_sizeOf' (P := P) hsz w
      simp [execOp, hp, Instr.field, run_underlying hu, hfi, asAgg, part, h1, h2, hoff]
    · have := relL_take (n + 1) (relL_drop off hr)
      rw [Array.toList_extract]
      simpa [List.extract_eq_take_drop] using this

theorem loc_extract {x : Operand} {i : Nat} {ds : List D} {d : D} (hx : opd g x = some (dTup ds)) (hd : ds[i]? = some d) : LocP P ⟨dst, .extract x i, ty, pos, after, gd⟩ g N M d :=
  locP_of_run fun I a w hs hi => by
    obtain ⟨cs, hp, hr⟩ := opd_sound hs hx
    obtain ⟨v, hv, hd'⟩ := relL_get hr i d hd
    simp at hv
    exact ⟨v, by simp [execOp, hp, Instr.extract, hv], hd'⟩

/-! ### Slices that no longer change -/

theorem loc_len {t : TypeId} {e : TypeId} [ht : TySl P t e] {x : Operand} {α : Type} {n : Nat} {f : α → List D} {xs : List α} (hx : opd g x = some (dSl n f xs)) :
    LocP P ⟨dst, .call ⟨.builtin .len, #[x], #[t]⟩, ty, pos, after, gd⟩ g N M (dInt .i64 (xs.length : Nat)) :=
  locP_of_run fun I a w hs hi => by
    obtain ⟨b, cap, hp, _⟩ := opd_sound hs hx
    refine ⟨.int .i64 xs.length, ?_, rfl⟩
    simp [execOp, resolve, invoke, builtin, Builtin.len_, hp, run_underlying ht.eq, goInt]

theorem loc_lenStr {t : TypeId} [ht : TyStr P t] {x : Operand} {s : ByteArray} (hx : opd g x = some (dStr s)) :
    LocP P ⟨dst, .call ⟨.builtin .len, #[x], #[t]⟩, ty, pos, after, gd⟩ g N M (dInt .i64 (s.size : Nat)) :=
  locP_of_run fun I a w hs hi => by
    have hp := opd_sound hs hx
    refine ⟨.int .i64 s.size, ?_, rfl⟩
    simp [execOp, resolve, invoke, builtin, Builtin.len_, show a.eval x = .string s from hp, run_underlying ht.eq, goInt]

/-- An element's place, the index a natural number. -/
theorem loc_index {t : TypeId} {e : TypeId} [ht : TySl P t e] {x y : Operand} {α : Type} [Inhabited α] {n : Nat} {agg : Bool} [hv : TyV P e agg n] {f : α → List D} {xs : List α} {i : Nat} (hx : opd g x = some (dSl n f xs)) (hy : opd g y = some (dInt .i64 (i : Nat))) (hi : i < xs.length) :
    LocP P ⟨dst, .indexAddr t x y, ty, pos, after, gd⟩ g N M (dBox (f (xs[i]?.getD default))) :=
  locP_of_run fun I a w hs hinv => by
    obtain ⟨b, cap, hp, _, _, _, hel⟩ := opd_sound hs hx
    have hyv := opd_sound hs hy
    obtain ⟨_, p, hb, hsp, hat⟩ := hel i xs[i] (by simp [hi])
    subst hb
    refine ⟨.pointer (some (p.add (i * n))), ?_, _, rfl, by simpa [hi] using hat⟩
    have h3 : ¬ (xs.length ≤ i) := by omega
    simp [execOp, Instr.indexAt, hp, show a.eval y = .int .i64 i from hyv, asIntOf, run_underlying ht.eq, h3, run_sizeOf hv]

/-- An element's place, the index any number in range. -/
theorem loc_indexI {t : TypeId} {e : TypeId} [ht : TySl P t e] {x y : Operand} {α : Type} [Inhabited α] {n : Nat} {agg : Bool} [hv : TyV P e agg n] {f : α → List D} {xs : List α} {k : IntKind} {i : Int} (hx : opd g x = some (dSl n f xs)) (hy : opd g y = some (dInt k i)) (hi : 0 ≤ i ∧ i < xs.length) :
    LocP P ⟨dst, .indexAddr t x y, ty, pos, after, gd⟩ g N M (dBox (f (xs[i.toNat]?.getD default))) :=
  locP_of_run fun I a w hs hinv => by
    obtain ⟨b, cap, hp, _, _, _, hel⟩ := opd_sound hs hx
    have hyv := opd_sound hs hy
    have hi' : i.toNat < xs.length := by omega
    obtain ⟨_, p, hb, hsp, hat⟩ := hel i.toNat xs[i.toNat] (by simp [hi'])
    subst hb
    refine ⟨.pointer (some (p.add (i.toNat * n))), ?_, _, rfl, by simpa [hi'] using hat⟩
    simp [execOp, Instr.indexAt, hp, show a.eval y = .int k i from hyv, asIntOf, run_underlying ht.eq, hi, run_sizeOf hv]

/-! ### Calls -/

theorem execOp_call_slot {a : Act} {f : FuncId} {c : Operand} {xs : List Operand} {cap : Array Value} (hc : a.eval c = .func (.func f) #[] cap) (ats : Array TypeId) :
    execOp a.eval ⟨dst, .call ⟨.value c, xs.toArray, ats⟩, ty, pos, after, gd⟩ = callFunc f ((xs.map a.eval).toArray ++ cap) := by
  simp [execOp, resolve, Deferred.ofValue, hc, invoke]

theorem run_callFunc {f : FuncId} (h : TyFn P f) (args : Array Value) (w : World) : (callFunc f args).run P w = .ok (.enter f args) w := by
  obtain ⟨fn, h1, h2, h3⟩ := h.eq
  have h4 : ¬ (fn.name = "runtime.NumGoroutine") := by simpa using h2
  have h5 : fn.body ≠ none := by intro e; simp [e] at h3
  simp [callFunc, h1, h4, h5]

theorem loc_call {f : FuncId} [hf : TyFn P f] {xs : List Operand} {ats : Array TypeId} {Ds : List D} {d : D} (hs : SpecP P f Ds d) (hx : opds g xs = some Ds) :
    LocP P ⟨dst, .call ⟨.value (.func f), xs.toArray, ats⟩, ty, pos, after, gd⟩ g N M d := by
  constructor
  intro I a w K Q hsl hi hK
  unfold Oper.wp
  rw [execOp_call_slot (c := .func f) (f := f) (cap := #[]) rfl, Array.append_empty, run_callFunc hf]
  refine Calls.mono (hs I M w _ (opds_sound hsl hx) hi) ?_
  rintro e w' ⟨v, rfl, J, h1, h2, h3⟩
  exact hK v w' J h1 h2 h3

theorem loc_callM {f : FuncId} [hf : TyFn P f] {xs : List Operand} {ats : Array TypeId} {Ds : List D} {Min : List Res} {σ : Type} {φ : σ → Prop} {d : σ → D} {Mout : σ → List Res} (hs : Spec P f Ds Min φ d Mout) (hx : opds g xs = some Ds) :
    LocM P ⟨dst, .call ⟨.value (.func f), xs.toArray, ats⟩, ty, pos, after, gd⟩ g N Min φ d Mout := by
  constructor
  intro F I a w K Q hsl hi hK
  unfold Oper.wp
  rw [execOp_call_slot (c := .func f) (f := f) (cap := #[]) rfl, Array.append_empty, run_callFunc hf]
  refine Calls.mono (hs I F w _ (opds_sound hsl hx) hi) ?_
  rintro e w' ⟨v, rfl, s, h0, J, h1, h2, h3⟩
  exact hK s v w' J h0 h1 h2 h3

end Go.Q

namespace Go.Q

variable {P : Program} {g : G} {N : Nat} {M : List Res} {dst : Option Tmp} {ty : TypeId} {pos : String} {after : Array Edge} {gd : Option (Nat × Bool)}

/-- A value of one cell. -/
class One (d : D) : Prop where
  one : ∀ {I v}, d.rel I v → v.cells = #[v] ∧ v.oneCell' = true
instance (k : IntKind) (n : Int) : One (dInt k n) := ⟨fun h => by rw [show _ = _ from h]; exact ⟨rfl, rfl⟩⟩
instance (p : Prop) : One (dB p) := ⟨fun ⟨_, h, _⟩ => by rw [h]; exact ⟨rfl, rfl⟩⟩
instance (s : ByteArray) : One (dStr s) := ⟨fun h => by rw [show _ = _ from h]; exact ⟨rfl, rfl⟩⟩
instance (ds : List D) : One (dBox ds) := ⟨fun ⟨_, h, _⟩ => by rw [h]; exact ⟨rfl, rfl⟩⟩
instance {α : Type} (n : Nat) (f : α → List D) (xs : List α) : One (dSl n f xs) := ⟨fun ⟨_, _, h, _⟩ => by rw [h]; exact ⟨rfl, rfl⟩⟩
instance (xs : List Int) : One (dInts xs) := inferInstanceAs (One (dSl _ _ _))
instance (xs : List (List Int)) : One (dRows xs) := inferInstanceAs (One (dSl _ _ _))
instance (a : Option Addr) : One (dVal (.pointer a)) := ⟨fun h => by rw [show _ = _ from h]; exact ⟨rfl, rfl⟩⟩
instance (a : Option Addr) (n c : Nat) : One (dVal (.slice a n c)) := ⟨fun h => by rw [show _ = _ from h]; exact ⟨rfl, rfl⟩⟩

/-- A persistent operation that makes one immutable block. -/
theorem locP_of_new {o : Oper} {d : D}
    (h : ∀ I a w, Slots g N I a → Inv I M w → ∃ v ob, (execOp a.eval o).run P w = .ok (.value v) (w.alloc ob) ∧ d.rel (I.add w.heap.size ob) v) : LocP P o g N M d := by
  constructor
  intro I a w K Q hs hi hK
  obtain ⟨v, ob, hr, hd⟩ := h I a w hs hi
  unfold Oper.wp
  rw [hr]
  obtain ⟨h1, h2⟩ := hi.allocImm ob
  exact hK v _ _ h1 hd h2

theorem add_at {I : Imm} {b : Nat} {cs : Array Value} {T : TypeId} {fz : Nat × Nat} {ds : List D} (hn : I.blk b = none) (h : relL ds I cs.toList) : (I.add b (.cells cs T fz)).at ⟨b, 0, none⟩ ds := by
  refine ⟨rfl, cs, T, fz, by simp [Imm.add], ?_⟩
  have hl := relL_length h
  simp only [List.drop_zero]
  rw [hl, List.take_length]
  exact relL_mono (Imm.le_add hn) h

theorem Inv.fresh {I : Imm} {M : List Res} {w : World} (h : Inv I M w) : I.blk w.heap.size = none := by
  cases hb : I.blk w.heap.size with
  | none => rfl
  | some o' => have := h.imm _ _ hb; simp at this

/-- A local that is never written again, in a box. -/
theorem loc_box1 {t : TypeId} {x : Operand} {d : D} [ho : One d] (hx : opd g x = some d) : LocP P ⟨dst, .box t x, ty, pos, after, gd⟩ g N M (dBox [d]) :=
  locP_of_new fun I a w hs hi => by
    have hd := opd_sound hs hx
    refine ⟨.pointer (some ⟨w.heap.size, 0, none⟩), .cells #[a.eval x] t, ?_, ?_⟩
    · simp [execOp, Instr.box, newVar, newRow, (ho.one hd).1]
    · exact ⟨_, rfl, add_at hi.fresh ⟨hd, trivial⟩⟩

theorem loc_boxN {t : TypeId} {x : Operand} {ds : List D} (hx : opd g x = some (dAgg ds)) : LocP P ⟨dst, .box t x, ty, pos, after, gd⟩ g N M (dBox ds) :=
  locP_of_new fun I a w hs hi => by
    obtain ⟨cs, hv, hd⟩ := opd_sound hs hx
    refine ⟨.pointer (some ⟨w.heap.size, 0, none⟩), .cells cs t, ?_, ?_⟩
    · simp [execOp, Instr.box, newVar, newRow, hv, Value.cells]
    · exact ⟨_, rfl, add_at hi.fresh hd⟩

/-- A pointer that is no nil. -/
theorem loc_nilCheck {x : Operand} {ds : List D} (hx : opd g x = some (dBox ds)) : LocP P ⟨dst, .nilCheck x, ty, pos, after, gd⟩ g N M (dBox ds) :=
  locP_of_run fun I a w hs hi => by
    obtain ⟨p, hp, hat⟩ := opd_sound hs hx
    exact ⟨.pointer (some p), by simp [execOp, hp], p, rfl, hat⟩
theorem loc_nilCheckV {x : Operand} {p : Addr} (hx : opd g x = some (dVal (.pointer (some p)))) : LocP P ⟨dst, .nilCheck x, ty, pos, after, gd⟩ g N M (dVal (.pointer (some p))) :=
  locP_of_run fun I a w hs hi => by
    have hp : a.eval x = .pointer (some p) := opd_sound hs hx
    exact ⟨.pointer (some p), by simp [execOp, hp], rfl⟩

/-! ### What is owned: cells -/

/-- Cells of the call's own, each with what is known of it. -/
def rCells (b : Nat) (t : TypeId) (ds : List D) : Res :=
  ⟨some b, fun I o => ∃ cs, o = some (.cells cs t (0, 0)) ∧ relL ds I cs.toList, fun h ⟨cs, e, r⟩ => ⟨cs, e, relL_mono h r⟩⟩

def ptr (b k : Nat) : Value := .pointer (some ⟨b, k, none⟩)

theorem own_cells {I : Imm} {b : Nat} {t : TypeId} {ds : List D} {M : List Res} {w : World} (h : Inv I M w) (hm : rCells b t ds ∈ M) :
    ∃ cs, w.heap[b]? = some (.cells cs t (0, 0)) ∧ relL ds I cs.toList := by
  have h1 := h.own _ hm
  obtain ⟨_, o, h3, cs, h4, h5⟩ := h1
  injection h4 with h4
  subst h4
  exact ⟨cs, h3, h5⟩

/-- Find the cells of a block among what is owned. -/
inductive In : Res → List Res → Prop where
  | here {r : Res} {M : List Res} : In r (r :: M)
  | there {r s : Res} {M : List Res} : In r M → In r (s :: M)

theorem In.mem {r : Res} {M : List Res} (h : In r M) : r ∈ M := by
  induction h with
  | here => exact List.mem_cons_self ..
  | there _ ih => exact List.mem_cons_of_mem _ ih

theorem loc_loadOwn1 {t T : TypeId} [ht : TyV P t false 1] {x : Operand} {b k : Nat} {ds : List D} {d : D} (hx : opd g x = some (dVal (ptr b k))) (hm : In (rCells b T ds) M) (hd : ds[k]? = some d) :
    LocP P ⟨dst, .load t x, ty, pos, after, gd⟩ g N M d :=
  locP_of_run fun I a w hs hi => by
    have hp : a.eval x = .pointer (some ⟨b, k, none⟩) := opd_sound hs hx
    obtain ⟨cs, hb, hr⟩ := own_cells hi hm.mem
    obtain ⟨v, hv, hdv⟩ := relL_get hr k d hd
    refine ⟨v, ?_, hdv⟩
    have hc : w.cell? ⟨b, k, none⟩ = some v := by simp at hv; simp [World.cell?, hb, hv]
    simp [execOp, hp, Instr.loadAt, Instr.sureAddr, loadVar, run_isAgg ht, hc]

theorem own_load {I : Imm} {M : List Res} {w : World} {b k n : Nat} {T : TypeId} {ds : List D} {cs : Array Value} (hb : w.heap[b]? = some (.cells cs T (0, 0))) (hr : relL ds I cs.toList) (hn : k + n ≤ ds.length) :
    (loadCells ⟨b, k, none⟩ n).run P w = .ok ((cs.toList.drop k).take n).toArray w := by
  have hl := relL_length hr
  have := run_loadCells_list (P := P) w ⟨b, k, none⟩ ((cs.toList.drop k).take n) (fun j v hj => by
    rw [Addr.add_lit]
    rw [List.getElem?_take] at hj
    split at hj
    · rw [List.getElem?_drop, Array.getElem?_toList] at hj
      simp [World.cell?, hb, hj]
    · cases hj)
  have hlen : ((cs.toList.drop k).take n).length = n := by
    rw [List.length_take, List.length_drop, ← hl]
    omega
  rwa [hlen] at this

theorem loc_loadOwnN {t T : TypeId} {n : Nat} [ht : TyV P t true n] {x : Operand} {b k : Nat} {ds : List D} (hx : opd g x = some (dVal (ptr b k))) (hm : In (rCells b T ds) M) (hn : Nat.ble (k + n) ds.length = true) :
    LocP P ⟨dst, .load t x, ty, pos, after, gd⟩ g N M (dAgg ((ds.drop k).take n)) :=
  locP_of_run fun I a w hs hi => by
    have hp : a.eval x = .pointer (some ⟨b, k, none⟩) := opd_sound hs hx
    obtain ⟨cs, hb, hr⟩ := own_cells hi hm.mem
    have hl := own_load (P := P) (M := M) hb hr (Nat.le_of_ble_eq_true hn)
    exact ⟨.agg ((cs.toList.drop k).take n).toArray, by simp [execOp, hp, Instr.loadAt, Instr.sureAddr, loadVar, run_isAgg ht, run_sizeOf ht, hl], _, rfl, by simpa using relL_take n (relL_drop k hr)⟩

theorem loc_fieldAddrOwn {s : TypeId} {i off n : Nat} {agg : Bool} [hf : TyFld P s i off n agg] {x : Operand} {b k : Nat} (hx : opd g x = some (dVal (ptr b k))) : LocP P ⟨dst, .fieldAddr s x i, ty, pos, after, gd⟩ g N M (dVal (ptr b (k + off))) :=
  locP_of_run fun I a w hs hi => by
    have hp : a.eval x = .pointer (some ⟨b, k, none⟩) := opd_sound hs hx
    obtain ⟨fs, fd, hu, hfi, hoff, hsz, _⟩ := hf.eq
    refine ⟨.pointer (some ⟨b, k + off, none⟩), ?_, rfl⟩
    simp [execOp, hp, Instr.fieldAt, run_underlying hu, hfi, Instr.sureAddr, fieldPlace, run_sizeOf' hsz, hoff, Addr.add_lit]

theorem loc_nilCheckOwn {x : Operand} {b k : Nat} (hx : opd g x = some (dVal (ptr b k))) : LocP P ⟨dst, .nilCheck x, ty, pos, after, gd⟩ g N M (dVal (ptr b k)) := loc_nilCheckV hx

/-- A local that is written, in a box of its own. -/
theorem loc_boxOwn1 {t : TypeId} {x : Operand} {d : D} [ho : One d] (hx : opd g x = some d) : LocM P ⟨dst, .box t x, ty, pos, after, gd⟩ g N [] (fun _ : Nat => True) (fun b => dVal (ptr b 0)) (fun b => [rCells b t [d]]) := by
  constructor
  intro F I a w K Q hs hi hK
  have hd := opd_sound hs hx
  unfold Oper.wp
  have hr : (execOp a.eval ⟨dst, .box t x, ty, pos, after, gd⟩).run P w = .ok (.value (ptr w.heap.size 0)) (w.alloc (.cells #[a.eval x] t)) := by
    simp [execOp, Instr.box, newVar, newRow, (ho.one hd).1, ptr]
  rw [hr]
  exact hK w.heap.size _ _ I trivial I.le_refl rfl (hi.allocOwn _ _ rfl ⟨_, rfl, hd, trivial⟩)

theorem loc_boxOwnN {t : TypeId} {x : Operand} {ds : List D} (hx : opd g x = some (dAgg ds)) : LocM P ⟨dst, .box t x, ty, pos, after, gd⟩ g N [] (fun _ : Nat => True) (fun b => dVal (ptr b 0)) (fun b => [rCells b t ds]) := by
  constructor
  intro F I a w K Q hs hi hK
  obtain ⟨cs, hv, hd⟩ := opd_sound hs hx
  unfold Oper.wp
  have hr : (execOp a.eval ⟨dst, .box t x, ty, pos, after, gd⟩).run P w = .ok (.value (ptr w.heap.size 0)) (w.alloc (.cells cs t)) := by
    simp [execOp, Instr.box, newVar, newRow, hv, Value.cells, ptr]
  rw [hr]
  exact hK w.heap.size _ _ I trivial I.le_refl rfl (hi.allocOwn _ _ rfl ⟨_, rfl, hd⟩)

/-- A value asL cells. -/
def Value.asD : Value → List D
  | .agg cs => cs.toList.map dVal
  | v => [dVal v]

/-- The zero of a type, cell by cell. -/
def zeroDs : Value → List D
  | .agg cs => cs.toList.map fun v => match v with | .int k n => dInt k n | .bool true => dB True | .bool false => dB False | .string s => dStr s | v => dVal v
  | .int k n => [dInt k n]
  | .bool true => [dB True]
  | .bool false => [dB False]
  | .string s => [dStr s]
  | v => [dVal v]

theorem zeroDs_rel (I : Imm) (z : Value) (hz : ∀ vs, z ≠ .tuple vs) : relL (zeroDs z) I z.cells.toList := by
  have key : ∀ l : List Value, relL (l.map fun v => match v with | .int k n => dInt k n | .bool true => dB True | .bool false => dB False | .string s => dStr s | v => dVal v) I l := by
    intro l
    induction l with
    | nil => trivial
    | cons v l ih =>
      refine ⟨?_, ih⟩
      cases v with
      | bool b => cases b <;> exact ⟨_, rfl, by simp⟩
      | _ => rfl
  cases z with
  | agg cs => exact key cs.toList
  | bool b => cases b <;> exact ⟨⟨_, rfl, by simp⟩, trivial⟩
  | tuple vs => exact absurd rfl (hz vs)
  | _ => exact ⟨rfl, trivial⟩

/-- 'var x T', captured or addressed. -/
theorem loc_allocOwn {t : TypeId} {bytes : Nat} {z : Value} [hz : TyZ P t bytes z] (hn : ∀ vs, z ≠ .tuple vs) : LocM P ⟨dst, .alloc t, ty, pos, after, gd⟩ g N [] (fun _ : Nat => True) (fun b => dVal (ptr b 0)) (fun b => [rCells b t (zeroDs z)]) := by
  constructor
  intro F I a w K Q hs hi hK
  unfold Oper.wp
  have h1 := hz.eq
  cases hu : P.info? t with
  | none => simp [hu] at h1
  | some i =>
    simp only [hu, Option.map_some, Option.some.injEq, Prod.mk.injEq] at h1
    have hr : (execOp a.eval ⟨dst, .alloc t, ty, pos, after, gd⟩).run P w = .ok (.value (ptr w.heap.size 0)) (w.alloc (.cells z.cells t)) := by
      simp [execOp, Instr.alloc, zeroValue, typeInfo, hu, h1.2, newVar, newRow, ptr]
    rw [hr]
    exact hK w.heap.size _ _ I trivial I.le_refl rfl (hi.allocOwn _ _ rfl ⟨_, rfl, zeroDs_rel I z hn⟩)

/-- A store into one cell of the call's own. -/
theorem loc_store1 {t T : TypeId} [ht : TyV P t false 1] {x y : Operand} {b k : Nat} {ds : List D} {d : D} [ho : One d] (hx : opd g x = some (dVal (ptr b k))) (hy : opd g y = some d) (hk : Nat.blt k ds.length = true) :
    LocM P ⟨none, .store t x y, ty, pos, after, gd⟩ g N [rCells b T ds] (fun _ : Unit => True) (fun _ => dTop) (fun _ => [rCells b T (ds.set k d)]) := by
  constructor
  intro F I a w K Q hs hi hK
  have hp : a.eval x = .pointer (some ⟨b, k, none⟩) := opd_sound hs hx
  have hd := opd_sound hs hy
  obtain ⟨cs, hb, hr⟩ := own_cells hi (List.mem_cons_self ..)
  have hlen := relL_length hr
  have hk' : k < cs.size := by
    have : k < ds.length := by simpa [Nat.blt_eq] using hk
    rw [hlen] at this
    simpa using this
  have hcell : w.cell? ⟨b, k, none⟩ = some cs[k] := by simp [World.cell?, hb, hk']
  have hfz : w.frozen? ⟨b, k, none⟩ = false := by simp [World.frozen?, hb]
  have hrun : (execOp a.eval ⟨none, .store t x y, ty, pos, after, gd⟩).run P w = .ok .skip (w.setCell ⟨b, k, none⟩ (a.eval y)) := by
    have h1 := ho.one hd
    have h3 : (storeCells ⟨b, k, none⟩ [a.eval y]).run P w = .ok () (w.setCell ⟨b, k, none⟩ (a.eval y)) := by
      have hst : (store (⟨b, k, none⟩ : Addr) (a.eval y)).run P w = .ok () (w.setCell ⟨b, k, none⟩ (a.eval y)) := by
        have h4 := h1.2
        generalize a.eval y = v at h4
        cases v <;> simp [store, Sem.run, hcell, hfz, Value.oneCell'] at h4 ⊢
      simp only [storeCells, Addr.add_zero', Sem.run_bind, hst, Result.andThen_ok]
      rfl
    simp [execOp, hp, Instr.storeAt, Instr.sureAddr, storeVar, run_sizeOf ht, h1.1, h3]
  unfold Oper.wp
  rw [hrun]
  refine hK () undef _ I trivial I.le_refl trivial ?_
  have hne : ∀ c, c ≠ b → c < w.heap.size → (w.setCell ⟨b, k, none⟩ (a.eval y)).heap[c]? = w.heap[c]? := fun c hc _ => Go.RowKit.Below.heap_setCell w _ _ _ hc
  exact hi.write (b := b) rfl rfl rfl rfl rfl hne (o := .cells (cs.setIfInBounds k (a.eval y)) T (0, 0)) (by simp [World.setCell, Array.getElem?_modify, hb]) ⟨_, rfl, by simpa using relL_set hd k hr⟩

end Go.Q
