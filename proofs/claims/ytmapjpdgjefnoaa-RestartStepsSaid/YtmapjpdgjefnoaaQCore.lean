/- A small logic of slots, immutable data and owned blocks over the model's machine: each rule is proved of every program. -/
import Derived.WalkKit
import Derived.Orders
set_option linter.unusedVariables false
set_option linter.unusedSimpArgs false
namespace Go.Q

/-- What no longer changes: blocks of the heap, and the streams. -/
structure Imm where
  blk : Nat → Option Obj
  os : Os
  tape : Tape
  output : Array (Nat × ByteArray)

structure Imm.le (I J : Imm) : Prop where
  blk : ∀ b o, I.blk b = some o → J.blk b = some o
  os : J.os = I.os
  tape : J.tape = I.tape
  output : J.output = I.output

theorem Imm.le_refl (I : Imm) : I.le I := ⟨fun _ _ h => h, rfl, rfl, rfl⟩
theorem Imm.le.trans {I J K : Imm} (h : I.le J) (h' : J.le K) : I.le K :=
  ⟨fun b o e => h'.blk b o (h.blk b o e), h'.os.trans h.os, h'.tape.trans h.tape, h'.output.trans h.output⟩

/-- What is known of a value: stays true as more becomes immutable. -/
structure D where
  rel : Imm → Value → Prop
  mono : ∀ {I J : Imm} {v : Value}, I.le J → rel I v → rel J v

/-- An owned resource: at most one block. -/
structure Res where
  key : Option Nat
  sat : Imm → Option Obj → Prop
  mono : ∀ {I J : Imm} {o : Option Obj}, I.le J → sat I o → sat J o

def Res.ok (r : Res) (I : Imm) (w : World) : Prop :=
  match r.key with
  | none => r.sat I none
  | some b => I.blk b = none ∧ ∃ o, w.heap[b]? = some o ∧ r.sat I (some o)

def keys (M : List Res) : List Nat := M.filterMap Res.key

structure Inv (I : Imm) (M : List Res) (w : World) : Prop where
  os : w.os = I.os
  tape : w.tape = I.tape
  output : w.output = I.output
  imm : ∀ b o, I.blk b = some o → w.heap[b]? = some o
  own : ∀ r ∈ M, r.ok I w
  apart : (keys M).Nodup

theorem Inv.perm {I : Imm} {M M' : List Res} {w : World} (h : Inv I M w) (hp : M.Perm M') : Inv I M' w :=
  ⟨h.os, h.tape, h.output, h.imm, fun r hr => h.own r (hp.mem_iff.2 hr), (hp.filterMap Res.key).nodup_iff.1 h.apart⟩

theorem Inv.sub {I : Imm} {M M' : List Res} {w : World} (h : Inv I M w) (hs : M'.Sublist M) : Inv I M' w :=
  ⟨h.os, h.tape, h.output, h.imm, fun r hr => h.own r (hs.subset hr), (hs.filterMap Res.key).nodup h.apart⟩

theorem Inv.drew {I : Imm} {M : List Res} {w : World} (h : Inv I M w) : Inv I M { w with drawn := w.drawn + 1 } :=
  ⟨h.os, h.tape, h.output, h.imm, h.own, h.apart⟩

/-- The same heap and streams. -/
theorem Inv.of_eq {I : Imm} {M : List Res} {w w' : World} (h : Inv I M w) (hh : w'.heap = w.heap) (ho : w'.os = w.os) (ht : w'.tape = w.tape) (hu : w'.output = w.output) : Inv I M w' :=
  ⟨ho.trans h.os, ht.trans h.tape, hu.trans h.output, fun b o e => by rw [hh]; exact h.imm b o e,
    fun r hr => by
      have := h.own r hr
      unfold Res.ok at *
      split <;> simp_all, h.apart⟩

/-- A new owned block. -/
theorem Inv.allocOwn {I : Imm} {M : List Res} {w : World} (h : Inv I M w) (o : Obj) (r : Res) (hk : r.key = some w.heap.size) (hs : r.sat I (some o)) : Inv I (r :: M) (w.alloc o) := by
  have hnone : I.blk w.heap.size = none := by
    cases hb : I.blk w.heap.size with
    | none => rfl
    | some o' => have := h.imm _ _ hb; simp at this
  refine ⟨h.os, h.tape, h.output, fun b o' e => ?_, fun r' hr' => ?_, ?_⟩
  · have hh := h.imm b o' e
    have hlt := (Array.getElem?_eq_some_iff.1 hh).1
    rw [Go.RowKit.Below.heap_alloc w o b hlt]; exact hh
  · rcases List.mem_cons.1 hr' with rfl | hr'
    · unfold Res.ok
      rw [hk]
      exact ⟨hnone, o, heap_alloc_new w o, hs⟩
    · have h1 := h.own r' hr'
      unfold Res.ok at *
      split
      · rename_i e; rw [e] at h1; exact h1
      · rename_i b e
        rw [e] at h1
        obtain ⟨h2, o2, h3, h4⟩ := h1
        have hlt := (Array.getElem?_eq_some_iff.1 h3).1
        exact ⟨h2, o2, by rw [Go.RowKit.Below.heap_alloc w o b hlt]; exact h3, h4⟩
  · have : keys (r :: M) = w.heap.size :: keys M := by simp [keys, hk]
    rw [this, List.nodup_cons]
    refine ⟨fun hm => ?_, h.apart⟩
    obtain ⟨r', hr', hkr⟩ := List.mem_filterMap.1 hm
    have h1 := h.own r' hr'
    unfold Res.ok at h1
    rw [hkr] at h1
    obtain ⟨_, o2, h3, _⟩ := h1
    have hlt := (Array.getElem?_eq_some_iff.1 h3).1
    omega

/-- The immutable part with one block more. -/
def Imm.add (I : Imm) (b : Nat) (o : Obj) : Imm := { I with blk := fun c => if c = b then some o else I.blk c }

theorem Imm.le_add {I : Imm} {b : Nat} {o : Obj} (h : I.blk b = none) : I.le (I.add b o) :=
  ⟨fun c o' e => by
    simp only [Imm.add]
    split
    · rename_i hc; subst hc; rw [h] at e; cases e
    · exact e, rfl, rfl, rfl⟩

/-- An owned block becomes immutable. -/
theorem Inv.freeze {I : Imm} {r : Res} {M : List Res} {w : World} (h : Inv I (r :: M) w) {b : Nat} (hk : r.key = some b) :
    ∃ o, r.sat I (some o) ∧ I.blk b = none ∧ Inv (I.add b o) M w := by
  have h1 := h.own r (List.mem_cons_self ..)
  unfold Res.ok at h1
  rw [hk] at h1
  obtain ⟨h2, o, h3, h4⟩ := h1
  refine ⟨o, h4, h2, h.os, h.tape, h.output, fun c o' e => ?_, fun r' hr' => ?_, ?_⟩
  · simp only [Imm.add] at e
    split at e
    · rename_i hc; subst hc; rw [← e]; exact h3
    · exact h.imm c o' e
  · have hle := Imm.le_add (o := o) h2
    have h5 := h.own r' (List.mem_cons_of_mem _ hr')
    have hne : ∀ c, r'.key = some c → c ≠ b := by
      intro c hc hcb
      have hn := h.apart
      have : keys (r :: M) = b :: keys M := by simp [keys, hk]
      rw [this, List.nodup_cons] at hn
      exact hn.1 (List.mem_filterMap.2 ⟨r', hr', by rw [hc, hcb]⟩)
    unfold Res.ok at *
    split
    · rename_i e; rw [e] at h5; exact r'.mono hle h5
    · rename_i c e
      rw [e] at h5
      obtain ⟨h6, o6, h7, h8⟩ := h5
      exact ⟨by simp [Imm.add, hne c e, h6], o6, h7, r'.mono hle h8⟩
  · have hn := h.apart
    have : keys (r :: M) = b :: keys M := by simp [keys, hk]
    rw [this, List.nodup_cons] at hn
    exact hn.2

/-- A new immutable block. -/
theorem Inv.allocImm {I : Imm} {M : List Res} {w : World} (h : Inv I M w) (o : Obj) : I.le (I.add w.heap.size o) ∧ Inv (I.add w.heap.size o) M (w.alloc o) := by
  have h1 := h.allocOwn o ⟨some w.heap.size, fun _ o' => o' = some o, fun _ h => h⟩ rfl rfl
  obtain ⟨o', ho, hn, hi⟩ := h1.freeze rfl
  injection ho with ho
  subst ho
  exact ⟨Imm.le_add hn, hi⟩

/-- An owned block is written. -/
theorem Inv.write {I : Imm} {r r' : Res} {M : List Res} {w w' : World} (h : Inv I (r :: M) w) {b : Nat} (hk : r.key = some b) (hk' : r'.key = some b)
    (hos : w'.os = w.os) (ht : w'.tape = w.tape) (hu : w'.output = w.output) (hh : ∀ c, c ≠ b → c < w.heap.size → w'.heap[c]? = w.heap[c]?)
    {o : Obj} (ho : w'.heap[b]? = some o) (hs : r'.sat I (some o)) : Inv I (r' :: M) w' := by
  have h1 := h.own r (List.mem_cons_self ..)
  unfold Res.ok at h1
  rw [hk] at h1
  obtain ⟨h2, o1, h3, h4⟩ := h1
  have hkeys : keys (r' :: M) = keys (r :: M) := by simp [keys, hk, hk']
  refine ⟨hos.trans h.os, ht.trans h.tape, hu.trans h.output, fun c o' e => ?_, fun r2 hr2 => ?_, hkeys ▸ h.apart⟩
  · have hc := h.imm c o' e
    have hlt := (Array.getElem?_eq_some_iff.1 hc).1
    have hne : c ≠ b := by intro hcb; subst hcb; rw [h2] at e; cases e
    rw [hh c hne hlt]; exact hc
  · rcases List.mem_cons.1 hr2 with rfl | hr2
    · unfold Res.ok
      rw [hk']
      exact ⟨h2, o, ho, hs⟩
    · have h5 := h.own r2 (List.mem_cons_of_mem _ hr2)
      have hne : ∀ c, r2.key = some c → c ≠ b := by
        intro c hc hcb
        have hn := h.apart
        have : keys (r :: M) = b :: keys M := by simp [keys, hk]
        rw [this, List.nodup_cons] at hn
        exact hn.1 (List.mem_filterMap.2 ⟨r2, hr2, by rw [hc, hcb]⟩)
      unfold Res.ok at *
      split
      · rename_i e; rw [e] at h5; exact h5
      · rename_i c e
        rw [e] at h5
        obtain ⟨h6, o6, h7, h8⟩ := h5
        have hlt := (Array.getElem?_eq_some_iff.1 h7).1
        exact ⟨h6, o6, by rw [hh c (hne c e) hlt]; exact h7, h8⟩

/-- An owned block is left behind for a new one (a row that grows). -/
theorem Inv.move {I : Imm} {r r' : Res} {M : List Res} {w w' : World} (h : Inv I (r :: M) w) {b : Nat} (hk' : r'.key = some b) (hb : w.heap.size ≤ b)
    (hos : w'.os = w.os) (ht : w'.tape = w.tape) (hu : w'.output = w.output) (hh : ∀ c, c < w.heap.size → some c ≠ r.key → w'.heap[c]? = w.heap[c]?)
    {o : Obj} (ho : w'.heap[b]? = some o) (hs : r'.sat I (some o)) : Inv I (r' :: M) w' := by
  have hin : ∀ c o', I.blk c = some o' → c < w.heap.size := fun c o' e => (Array.getElem?_eq_some_iff.1 (h.imm c o' e)).1
  have hown : ∀ r2 ∈ r :: M, ∀ c, r2.key = some c → I.blk c = none ∧ c < w.heap.size := by
    intro r2 hr2 c e
    have h1 := h.own r2 hr2
    unfold Res.ok at h1
    rw [e] at h1
    obtain ⟨h2, o2, h3, _⟩ := h1
    exact ⟨h2, (Array.getElem?_eq_some_iff.1 h3).1⟩
  refine ⟨hos.trans h.os, ht.trans h.tape, hu.trans h.output, fun c o' e => ?_, fun r2 hr2 => ?_, ?_⟩
  · rw [hh c (hin c o' e) (fun e2 => by have := (hown r (List.mem_cons_self ..) c e2.symm).1; rw [this] at e; cases e)]
    exact h.imm c o' e
  · rcases List.mem_cons.1 hr2 with rfl | hr2
    · unfold Res.ok
      rw [hk']
      refine ⟨?_, o, ho, hs⟩
      cases hx : I.blk b with
      | none => rfl
      | some o' => have := hin b o' hx; omega
    · have h5 := h.own r2 (List.mem_cons_of_mem _ hr2)
      have hne : ∀ c, r2.key = some c → some c ≠ r.key := by
        intro c hc hcb
        have hn := h.apart
        have : keys (r :: M) = c :: keys M := by simp [keys, ← hcb]
        rw [this, List.nodup_cons] at hn
        exact hn.1 (List.mem_filterMap.2 ⟨r2, hr2, hc⟩)
      unfold Res.ok at *
      split
      · rename_i e; rw [e] at h5; exact h5
      · rename_i c e
        rw [e] at h5
        obtain ⟨h6, o6, h7, h8⟩ := h5
        have hlt := (Array.getElem?_eq_some_iff.1 h7).1
        exact ⟨h6, o6, by rw [hh c hlt (hne c e)]; exact h7, h8⟩
  · have hkk : keys (r' :: M) = b :: keys M := by simp [keys, hk']
    rw [hkk, List.nodup_cons]
    refine ⟨fun hm => ?_, (h.sub (List.sublist_cons_self r M)).apart⟩
    obtain ⟨r2, hr2, hc⟩ := List.mem_filterMap.1 hm
    have := (hown r2 (List.mem_cons_of_mem _ hr2) b hc).2
    omega

end Go.Q
