/- What the library's searches and cuts compute; plain mathematics, no program. -/
namespace Go.Q
open Classical

/-- The first index at which something holds, or -1. -/
noncomputable def idxP {α : Type} (q : α → Prop) : List α → Int
  | [] => -1
  | x :: xs => if q x then 0 else (if idxP q xs < 0 then -1 else idxP q xs + 1)

theorem idxP_none {α : Type} {q : α → Prop} : ∀ {xs : List α}, (∀ x ∈ xs, ¬ q x) → idxP q xs = -1
  | [], _ => rfl
  | x :: xs, h => by
    have h1 := h x (List.mem_cons_self ..)
    have h2 := idxP_none (xs := xs) fun y hy => h y (List.mem_cons_of_mem _ hy)
    simp [idxP, h1, h2]

theorem idxP_at {α : Type} [Inhabited α] {q : α → Prop} : ∀ {xs : List α} {i : Nat}, i < xs.length → (∀ j, j < i → ¬ q (xs[j]?.getD default)) → q (xs[i]?.getD default) → idxP q xs = i
  | x :: xs, 0, _, _, h => by
    have : q x := by simpa using h
    simp [idxP, this]
  | x :: xs, i + 1, hi, hb, h => by
    have h1 : ¬ q x := by simpa using hb 0 (by omega)
    have h2 := idxP_at (xs := xs) (i := i) (by simpa using hi) (fun j hj => by simpa using hb (j + 1) (by omega)) (by simpa using h)
    simp only [idxP, if_neg h1, h2]
    rw [if_neg (by omega)]
    omega

theorem idxP_nonneg {α : Type} {q : α → Prop} : ∀ {xs : List α}, 0 ≤ idxP q xs ↔ ∃ x ∈ xs, q x
  | [] => by simp [idxP]
  | x :: xs => by
    have ih := idxP_nonneg (q := q) (xs := xs)
    by_cases h : q x
    · simp [idxP, h]
    · by_cases h2 : idxP q xs < 0
      · have : ¬ ∃ x ∈ xs, q x := fun e => by have := ih.2 e; omega
        simp only [idxP, if_neg h, if_pos h2]
        simp only [List.mem_cons, exists_eq_or_imp, h, false_or]
        exact ⟨fun h => by omega, fun h => absurd h this⟩
      · have : ∃ x ∈ xs, q x := ih.1 (by omega)
        simp only [idxP, if_neg h, if_neg h2]
        simp only [List.mem_cons, exists_eq_or_imp, h, false_or]
        exact ⟨fun _ => this, fun _ => by omega⟩

theorem idxP_lt {α : Type} {q : α → Prop} : ∀ {xs : List α}, idxP q xs < xs.length
  | [] => by simp [idxP]
  | x :: xs => by
    have ih := idxP_lt (q := q) (xs := xs)
    simp only [idxP]
    split
    · simp
    · split
      · simp; omega
      · simp; omega

/-- The binary search between i and j. -/
noncomputable def bsGo (lt : Nat → Prop) (i j : Nat) : Nat :=
  if i < j then (if lt ((i + j) / 2) then bsGo lt ((i + j) / 2 + 1) j else bsGo lt i ((i + j) / 2)) else i
termination_by j - i

theorem bsGo_le (lt : Nat → Prop) (i j : Nat) (h : i ≤ j) : i ≤ bsGo lt i j ∧ bsGo lt i j ≤ j := by
  fun_induction bsGo lt i j <;> omega

theorem bsGo_at {lt : Nat → Prop} {i j k : Nat} (hij : i ≤ j) (hi : i ≤ k) (hj : k ≤ j) (h1 : ∀ a, a < k → lt a) (h2 : ∀ a, k ≤ a → a < j → ¬ lt a) : bsGo lt i j = k := by
  fun_induction bsGo lt i j with
  | case1 i j h hl ih =>
    refine ih (by omega) ?_ hj h2
    by_cases c : k ≤ (i + j) / 2
    · exact absurd hl (h2 _ c (by omega))
    · omega
  | case2 i j h hl ih =>
    refine ih (by omega) hi ?_ (fun a ha hb => h2 a ha (by omega))
    by_cases c : (i + j) / 2 < k
    · exact absurd (h1 _ c) hl
    · omega
  | case3 i j h => omega

/-- How many, from the first on. -/
noncomputable def lead {α : Type} (q : α → Prop) : List α → Nat
  | [] => 0
  | x :: xs => if q x then lead q xs + 1 else 0

theorem lead_le {α : Type} (q : α → Prop) : ∀ xs : List α, lead q xs ≤ xs.length
  | [] => Nat.le_refl _
  | x :: xs => by have := lead_le q xs; simp only [lead]; split <;> simp <;> omega

theorem lead_at {α : Type} [Inhabited α] {q : α → Prop} : ∀ {xs : List α} {k : Nat}, k ≤ xs.length → (∀ j, j < k → q (xs[j]?.getD default)) → (k = xs.length ∨ ¬ q (xs[k]?.getD default)) → lead q xs = k
  | [], k, h, _, _ => by simp at h; subst h; rfl
  | x :: xs, 0, _, _, h3 => by
    have : ¬ q x := by rcases h3 with h3 | h3; (· simp at h3); (· simpa using h3)
    simp [lead, this]
  | x :: xs, k + 1, h1, h2, h3 => by
    have hx : q x := by simpa using h2 0 (by omega)
    have := lead_at (xs := xs) (k := k) (by simpa using h1) (fun j hj => by simpa using h2 (j + 1) (by omega)) (by simpa using h3)
    simp [lead, hx, this]

theorem lead_lt {α : Type} [Inhabited α] {q : α → Prop} : ∀ {xs : List α} (j : Nat), j < lead q xs → q (xs[j]?.getD default)
  | [], j, h => by simp [lead] at h
  | x :: xs, j, h => by
    simp only [lead] at h
    split at h
    · rename_i hq
      cases j with
      | zero => simpa using hq
      | succ j => simpa using lead_lt (xs := xs) j (by omega)
    · omega

theorem lead_end {α : Type} [Inhabited α] {q : α → Prop} : ∀ {xs : List α}, lead q xs < xs.length → ¬ q (xs[lead q xs]?.getD default)
  | [], h => by simp [lead] at h
  | x :: xs, h => by
    simp only [lead] at h ⊢
    split
    · rename_i hq
      rw [if_pos hq] at h
      simpa using lead_end (xs := xs) (by simpa using h)
    · rename_i hq; simpa using hq

/-- Counting. -/
noncomputable def cntP {α : Type} (q : α → Prop) : List α → Nat
  | [] => 0
  | x :: xs => (if q x then 1 else 0) + cntP q xs

theorem cntP_le {α : Type} (q : α → Prop) : ∀ xs : List α, cntP q xs ≤ xs.length
  | [] => Nat.le_refl _
  | x :: xs => by have := cntP_le q xs; simp only [cntP]; split <;> simp <;> omega

theorem cntP_app {α : Type} (q : α → Prop) : ∀ xs ys : List α, cntP q (xs ++ ys) = cntP q xs + cntP q ys
  | [], ys => by simp [cntP]
  | x :: xs, ys => by simp only [List.cons_append, cntP, cntP_app q xs ys]; omega

theorem cntP_take {α : Type} [Inhabited α] (q : α → Prop) {xs : List α} {k : Nat} (h : k < xs.length) : cntP q (xs.take (k + 1)) = cntP q (xs.take k) + if q (xs[k]?.getD default) then 1 else 0 := by
  rw [List.take_add_one, List.getElem?_eq_getElem h, cntP_app]
  simp [cntP]

theorem take_snoc {α : Type} [Inhabited α] {xs : List α} {k : Nat} (h : k < xs.length) : xs.take (k + 1) = xs.take k ++ [xs[k]?.getD default] := by
  rw [List.take_add_one, List.getElem?_eq_getElem h]
  simp

theorem cntP_zero {α : Type} {q : α → Prop} : ∀ {xs : List α}, cntP q xs = 0 ↔ ∀ x ∈ xs, ¬ q x
  | [] => by simp [cntP]
  | x :: xs => by
    simp only [cntP, List.mem_cons, forall_eq_or_imp]
    rw [← cntP_zero (xs := xs)]
    by_cases h : q x <;> simp [h] <;> omega

theorem forall_getD {α : Type} [Inhabited α] {p : α → Prop} {xs : List α} (h : ∀ j, j < xs.length → p (xs[j]?.getD default)) : ∀ x ∈ xs, p x := by
  intro x hx
  obtain ⟨i, hi⟩ := List.getElem?_of_mem hx
  have h1 := (List.getElem?_eq_some_iff.1 hi).1
  have h2 := h i h1
  rw [hi] at h2
  exact h2

def cmpI (x y : Int) : Int := if x < y then -1 else if y < x then 1 else 0

theorem list_extD {α : Type} [Inhabited α] {xs ys : List α} (h : xs.length = ys.length) (he : ∀ j, j < xs.length → xs[j]?.getD default = ys[j]?.getD default) : xs = ys := by
  apply List.ext_getElem h
  intro i h1 h2
  have := he i h1
  simpa [h1, h2] using this

end Go.Q
