/- Plain mathematics of fields, digests and tables: no program in sight. -/
namespace Go.Q
open Classical

/-- A prime in range, by trial division. -/
def okP (p : Int) : Prop := 2 ≤ p ∧ p ≤ 65521 ∧ ∀ d : Int, 2 ≤ d → d * d ≤ p → p % d ≠ 0
noncomputable def ofP (p : Int) : Int := if okP p then p else 0
def hasP (p x : Int) : Prop := 0 ≤ x ∧ x < p

/-- The index of the first element that is so, or -1. -/
noncomputable def idxF (q : Int → Prop) : List Int → Int
  | [] => -1
  | x :: xs => if q x then 0 else (if idxF q xs < 0 then -1 else idxF q xs + 1)

theorem idxF_none {q : Int → Prop} : ∀ {xs : List Int}, (∀ x ∈ xs, ¬ q x) → idxF q xs = -1
  | [], _ => rfl
  | x :: xs, h => by
    have h1 := h x (List.mem_cons_self ..)
    have h2 := idxF_none (xs := xs) fun y hy => h y (List.mem_cons_of_mem _ hy)
    simp [idxF, h1, h2]

theorem idxF_at {q : Int → Prop} : ∀ {xs : List Int} {i : Nat}, i < xs.length → (∀ j, j < i → ¬ q (xs[j]?.getD default)) → q (xs[i]?.getD default) → idxF q xs = i
  | [], i, h, _, _ => by simp at h
  | x :: xs, 0, _, _, h => by
    have : q x := by simpa using h
    simp [idxF, this]
  | x :: xs, i + 1, hi, hb, h => by
    have h1 : ¬ q x := by simpa using hb 0 (by omega)
    have h2 := idxF_at (xs := xs) (i := i) (by simpa using hi) (fun j hj => by simpa using hb (j + 1) (by omega)) (by simpa using h)
    simp only [idxF, if_neg h1, h2]
    rw [if_neg (by omega)]
    omega

theorem idxF_nonneg {q : Int → Prop} : ∀ {xs : List Int}, 0 ≤ idxF q xs ↔ ∃ x ∈ xs, q x
  | [] => by simp [idxF]
  | x :: xs => by
    have ih := idxF_nonneg (q := q) (xs := xs)
    by_cases h : q x
    · simp [idxF, h]
    · simp only [idxF, if_neg h]
      by_cases h2 : idxF q xs < 0
      · rw [if_pos h2]
        have : ¬ ∃ x ∈ xs, q x := fun he => by have := ih.2 he; omega
        simp [h] at this ⊢
        exact this
      · rw [if_neg h2]
        have : ∃ x ∈ xs, q x := ih.1 (by omega)
        obtain ⟨y, hy, hq⟩ := this
        exact ⟨fun _ => ⟨y, List.mem_cons_of_mem _ hy, hq⟩, fun _ => by omega⟩

end Go.Q

namespace Go.Q
open Classical

/-! ### Digests -/

def modD (x : Int) : Int := x % 2147483647
theorem modD_bd (x : Int) : 0 ≤ modD x ∧ modD x ≤ 2147483646 := by unfold modD; omega
theorem modD_t (x : Int) : (if x.tmod 2147483647 < 0 then x.tmod 2147483647 + 2147483647 else x.tmod 2147483647) = modD x := by
  unfold modD
  by_cases h : 0 ≤ x
  · rw [Int.tmod_eq_emod_of_nonneg h, if_neg (by omega)]
  · have h1 : x.tmod 2147483647 = - ((-x) % 2147483647) := by
      rw [show x = -(-x) by omega, Int.neg_tmod, Int.tmod_eq_emod_of_nonneg (by omega)]; simp
    rw [h1]
    split <;> omega
theorem tmod_bd (x : Int) (n : Int) (h : 0 < n) : -n < x.tmod n ∧ x.tmod n < n := by
  by_cases hx : 0 ≤ x
  · rw [Int.tmod_eq_emod_of_nonneg hx]
    have h1 := Int.emod_nonneg x (show n ≠ 0 by omega)
    have h2 := Int.emod_lt_of_pos x h
    omega
  · have h1 : x.tmod n = - ((-x) % n) := by
      rw [show x = -(-x) by omega, Int.neg_tmod, Int.tmod_eq_emod_of_nonneg (by omega)]; simp
    have h2 := Int.emod_nonneg (-x) (show n ≠ 0 by omega)
    have h3 := Int.emod_lt_of_pos (-x) h
    omega
/-- '(n%k + k) % k' -/
theorem mod_twice (x n : Int) (h : 0 < n) : (x.tmod n + n) % n = x % n := by
  by_cases hx : 0 ≤ x
  · rw [Int.tmod_eq_emod_of_nonneg hx]
    simp
  · have h1 : x.tmod n = - ((-x) % n) := by
      rw [show x = -(-x) by omega, Int.neg_tmod, Int.tmod_eq_emod_of_nonneg (by omega)]; simp
    have e : -((-x) % n) = x + n * ((-x) / n) := by have := Int.emod_add_mul_ediv (-x) n; omega
    rw [h1, Int.add_emod_right, e, Int.add_mul_emod_self_left]

def rowStep (d x : Int) : Int := (d * 1000003 + modD x + 1) % 2147483647
def rowD (xs : List Int) : Int := xs.foldl rowStep 2
theorem rowD_bd (xs : List Int) : 0 ≤ rowD xs ∧ rowD xs ≤ 2147483646 := by
  have key : ∀ (xs : List Int) (d : Int), 0 ≤ d ∧ d ≤ 2147483646 → 0 ≤ xs.foldl rowStep d ∧ xs.foldl rowStep d ≤ 2147483646 := by
    intro xs
    induction xs with
    | nil => intro d h; exact h
    | cons x xs ih => intro d h; exact ih _ (by unfold rowStep; omega)
  exact key xs 2 (by omega)
theorem foldl_take {α β : Type} [Inhabited β] (f : α → β → α) (a : α) (xs : List β) (k : Nat) (h : k < xs.length) : (xs.take (k + 1)).foldl f a = f ((xs.take k).foldl f a) (xs[k]?.getD default) := by
  have h1 : xs[k]? = some xs[k] := by simp [h]
  rw [List.take_add_one, h1]
  simp only [Option.toList_some, List.foldl_append, List.foldl_cons, List.foldl_nil, Option.getD_some]
def nodeD (a b : Int) : Int := (modD a * 1000003 + modD b + 3) % 2147483647
theorem nodeD_bd (a b : Int) : 0 ≤ nodeD a b ∧ nodeD a b ≤ 2147483646 := by unfold nodeD; omega

/-! ### Roots -/

def goodD (x : Int) : Prop := 0 ≤ x ∧ x < 2147483647
/-- The first error of a list's elements. -/
noncomputable def firstErr {α : Type} (e : α → Int) : List α → Int
  | [] => 0
  | x :: xs => if e x ≠ 0 then e x else firstErr e xs
theorem firstErr_none {α : Type} {e : α → Int} : ∀ {xs : List α}, (∀ x ∈ xs, e x = 0) → firstErr e xs = 0
  | [], _ => rfl
  | x :: xs, h => by
    simp [firstErr, h x (List.mem_cons_self ..), firstErr_none fun y hy => h y (List.mem_cons_of_mem _ hy)]
theorem firstErr_at {α : Type} [Inhabited α] {e : α → Int} : ∀ {xs : List α} {i : Nat}, i < xs.length → (∀ j, j < i → e (xs[j]?.getD default) = 0) → e (xs[i]?.getD default) ≠ 0 → firstErr e xs = e (xs[i]?.getD default)
  | [], i, h, _, _ => by simp at h
  | x :: xs, 0, _, _, h => by
    have : e x ≠ 0 := by simpa using h
    simp [firstErr, this]
  | x :: xs, i + 1, hi, hb, h => by
    have h1 : e x = 0 := by simpa using hb 0 (by omega)
    have h2 := firstErr_at (e := e) (xs := xs) (i := i) (by simpa using hi) (fun j hj => by simpa using hb (j + 1) (by omega)) (by simpa using h)
    simp [firstErr, h1, h2]
theorem firstErr_none' {α : Type} [Inhabited α] {e : α → Int} {xs : List α} (h : ∀ j, j < xs.length → e (xs[j]?.getD default) = 0) : firstErr e xs = 0 :=
  firstErr_none fun x hx => by
    obtain ⟨i, hi⟩ := List.getElem?_of_mem hx
    have := h i (List.getElem?_eq_some_iff.1 hi).1
    rwa [hi] at this
theorem firstErr_zero {α : Type} {e : α → Int} : ∀ {xs : List α}, firstErr e xs = 0 ↔ ∀ x ∈ xs, e x = 0
  | [] => by simp [firstErr]
  | x :: xs => by
    by_cases h : e x = 0
    · simp [firstErr, h, firstErr_zero (xs := xs)]
    · simp [firstErr, h]

noncomputable def listErr (xs : List Int) : Int := if 1024 < xs.length then 4 else firstErr (fun x => if goodD x then 0 else 1) xs

def upD : List Int → List Int
  | [] => []
  | [x] => [x]
  | x :: y :: xs => nodeD x y :: upD xs

theorem upD_length : ∀ (xs : List Int), (upD xs).length = (xs.length + 1) / 2
  | [] => rfl
  | [x] => by simp [upD]
  | x :: y :: xs => by simp only [upD, List.length_cons, upD_length xs]; omega

theorem upD_take_two (xs : List Int) (k : Nat) (h : 2 * k + 1 < xs.length) : upD (xs.take (2 * (k + 1))) = upD (xs.take (2 * k)) ++ [nodeD (xs[2 * k]?.getD default) (xs[2 * k + 1]?.getD default)] := by
  induction k generalizing xs with
  | zero =>
    match xs, h with
    | x :: y :: xs, _ => simp [upD]
    | [x], h => simp at h
    | [], h => simp at h
  | succ k ih =>
    match xs, h with
    | x :: y :: xs, h =>
      have := ih xs (by simp at h; omega)
      have e1 : 2 * (k + 1 + 1) = 2 * (k + 1) + 1 + 1 := by omega
      have e2 : 2 * (k + 1) = 2 * k + 1 + 1 := by omega
      rw [e1, e2]
      simp only [List.take_succ_cons, upD, List.cons_append, List.getElem?_cons_succ]
      rw [e2] at this
      rw [show 2 * k + 1 + 1 = 2 * (k + 1) by omega] at this ⊢
      rw [this]
    | [x], h => simp at h
    | [], h => simp at h

theorem upD_take_last (xs : List Int) (k : Nat) (h : 2 * k + 1 = xs.length) : upD xs = upD (xs.take (2 * k)) ++ [xs[2 * k]?.getD default] := by
  induction k generalizing xs with
  | zero =>
    match xs, h with
    | [x], _ => simp [upD]
    | [], h => simp at h
    | _ :: _ :: _, h => simp at h
  | succ k ih =>
    match xs, h with
    | x :: y :: xs, h =>
      have := ih xs (by simp at h; omega)
      have e2 : 2 * (k + 1) = 2 * k + 1 + 1 := by omega
      rw [e2]
      simp only [List.take_succ_cons, upD, List.cons_append, List.getElem?_cons_succ]
      rw [this]
    | [x], h => simp at h
    | [], h => simp at h

def rootN : Nat → List Int → Int
  | 0, _ => 0
  | n + 1, xs => match xs with
    | [] => 0
    | [x] => x
    | x :: y :: r => rootN n (upD (x :: y :: r))
def rootD (xs : List Int) : Int := rootN (xs.length + 1) xs

theorem rootN_eq : ∀ (n m : Nat) (xs : List Int), xs.length < n → xs.length < m → rootN n xs = rootN m xs
  | 0, _, _, h, _ => by omega
  | _, 0, _, _, h => by omega
  | n + 1, m + 1, [], _, _ => rfl
  | n + 1, m + 1, [x], _, _ => rfl
  | n + 1, m + 1, x :: y :: r, h1, h2 => by
    simp only [rootN]
    have hl := upD_length (x :: y :: r)
    simp only [List.length_cons] at hl h1 h2
    exact rootN_eq n m _ (by omega) (by omega)
theorem rootD_nil : rootD [] = 0 := rfl
theorem rootD_one (x : Int) : rootD [x] = x := rfl
theorem rootD_up (xs : List Int) (h : 2 ≤ xs.length) : rootD xs = rootD (upD xs) := by
  match xs, h with
  | x :: y :: r, _ =>
    unfold rootD
    have hl := upD_length (x :: y :: r)
    simp only [List.length_cons] at hl
    show rootN (r.length + 1 + 1) (upD (x :: y :: r)) = _
    exact rootN_eq _ _ _ (by omega) (by omega)
  | [x], h => simp at h
  | [], h => simp at h
/-- The root, or 0 with the error. -/
noncomputable def rootR (xs : List Int) : Int := if listErr xs = 0 then rootD xs else 0

end Go.Q

namespace Go.Q
open Classical

/-! ### Tables -/

structure Tab where
  number : Int
  p : Int
  width : Int
  rows : List (List Int)
structure Hd where
  number : Int
  p : Int
  count : Int
  width : Int
  root : Int
instance : Inhabited Tab := ⟨⟨0, 0, 0, []⟩⟩
instance : Inhabited Hd := ⟨⟨0, 0, 0, 0, 0⟩⟩

noncomputable def errP (p : Int) : Int := if okP p then 0 else 9
def allP (p : Int) (xs : List Int) : Prop := ∀ x ∈ xs, hasP p x
noncomputable def rowErr (p w : Int) (r : List Int) : Int := if (r.length : Int) ≠ w then 2 else if ¬ allP p r then 9 else 0
noncomputable def checkT (t : Tab) : Int :=
  if t.number < 1 ∨ 2147483647 ≤ t.number then 1 else if ¬ okP t.p then 9 else if t.width < 1 ∨ 64 < t.width then 1 else if 1024 < t.rows.length then 4 else firstErr (rowErr t.p t.width) t.rows

noncomputable def digs (t : Tab) : List Int := if checkT t = 0 then t.rows.map rowD else []
noncomputable def headT (t : Tab) : Hd := if checkT t = 0 then ⟨t.number, t.p, t.rows.length, t.width, rootD (t.rows.map rowD)⟩ else ⟨0, 0, 0, 0, 0⟩
noncomputable def holdsH (h : Hd) (ds : List Int) : Int := if (ds.length : Int) ≠ h.count then 2 else if listErr ds ≠ 0 then listErr ds else if rootD ds ≠ h.root then 13 else 0
noncomputable def verifyH (h : Hd) (ds : List Int) (i : Int) (r : List Int) : Int :=
  if holdsH h ds ≠ 0 then holdsH h ds else if i < 0 ∨ (ds.length : Int) ≤ i then 6 else if ¬ okP h.p then 9 else if (r.length : Int) ≠ h.width then 2 else if ¬ allP h.p r then 9
  else if rowD r ≠ ds[i.toNat]?.getD default then 13 else 0
noncomputable def rowT (t : Tab) (i : Int) : List Int := if checkT t = 0 ∧ 0 ≤ i ∧ i < t.rows.length then t.rows[i.toNat]?.getD default else []
noncomputable def rowTErr (t : Tab) (i : Int) : Int := if checkT t ≠ 0 then checkT t else if i < 0 ∨ (t.rows.length : Int) ≤ i then 6 else 0
def sameT (a b : Tab) : Prop := a.number = b.number ∧ a.p = b.p ∧ a.width = b.width ∧ a.rows = b.rows
noncomputable def newT (n p w : Int) (rows : List (List Int)) : Tab := if checkT ⟨n, p, w, rows⟩ = 0 then ⟨n, p, w, rows⟩ else ⟨0, 0, 0, []⟩

theorem checkT_ok {t : Tab} (h : checkT t = 0) : (1 ≤ t.number ∧ t.number < 2147483647) ∧ okP t.p ∧ (1 ≤ t.width ∧ t.width ≤ 64) ∧ t.rows.length ≤ 1024 ∧ ∀ r ∈ t.rows, (r.length : Int) = t.width ∧ allP t.p r := by
  unfold checkT at h
  split at h
  · omega
  split at h
  · omega
  split at h
  · omega
  split at h
  · omega
  rename_i h1 h2 h3 h4
  refine ⟨by omega, Classical.not_not.1 h2, by omega, by omega, fun r hr => ?_⟩
  have := firstErr_zero.1 h r hr
  unfold rowErr at this
  split at this
  · omega
  split at this
  · omega
  rename_i h5 h6
  exact ⟨Classical.not_not.1 h5, Classical.not_not.1 h6⟩

theorem listErr_digs (rows : List (List Int)) (h : rows.length ≤ 1024) : listErr (rows.map rowD) = 0 := by
  unfold listErr
  rw [if_neg (by simp; omega)]
  apply firstErr_none
  intro x hx
  obtain ⟨r, _, rfl⟩ := List.mem_map.1 hx
  have := rowD_bd r
  rw [if_pos (by unfold goodD; omega)]

theorem list_ext_getD {α : Type} [Inhabited α] {xs ys : List α} (hl : xs.length = ys.length) (h : ∀ j, j < xs.length → xs[j]?.getD default = ys[j]?.getD default) : xs = ys := by
  apply List.ext_getElem hl
  intro j h1 h2
  have := h j h1
  simpa [h1, h2] using this

end Go.Q

namespace Go.Q
theorem getD_mem {α : Type} [Inhabited α] {xs : List α} {k : Nat} (h : k < xs.length) : xs[k]?.getD default ∈ xs := by
  simp [h]
end Go.Q
