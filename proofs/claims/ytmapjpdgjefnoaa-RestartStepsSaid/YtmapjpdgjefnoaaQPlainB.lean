/- Decks: what is drawn from a list of numbers, and the table that is made of it; plain mathematics. -/
import Derived.Test.YtmapjpdgjefnoaaQPlainA
set_option linter.unusedVariables false
set_option linter.unusedSimpArgs false
namespace Go.Q
open Classical

structure Dk where
  xs : List Int
  k : Nat

def Dk.val (d : Dk) (n : Int) : Int := if n < 1 ∨ d.xs.length ≤ d.k then 0 else (d.xs[d.k]?.getD default) % n
def Dk.next (d : Dk) (n : Int) : Dk := if n < 1 ∨ d.xs.length ≤ d.k then d else ⟨d.xs, d.k + 1⟩

theorem Dk.val_nonneg (d : Dk) (n : Int) : 0 ≤ d.val n := by
  unfold Dk.val
  split
  · omega
  · exact Int.emod_nonneg _ (by omega)
theorem Dk.val_lt (d : Dk) (n : Int) (h : 1 ≤ n) : d.val n < n := by
  unfold Dk.val
  split
  · omega
  · exact Int.emod_lt_of_pos _ (by omega)

def Dk.it (d : Dk) (p : Int) : Nat → Dk
  | 0 => d
  | k + 1 => (d.it p k).next p
def Dk.elems (d : Dk) (p : Int) : Nat → List Int
  | 0 => []
  | k + 1 => d.elems p k ++ [(d.it p k).val p]
def Dk.itR (d : Dk) (p : Int) (w : Nat) : Nat → Dk
  | 0 => d
  | k + 1 => (d.itR p w k).it p w
def Dk.rowsR (d : Dk) (p : Int) (w : Nat) : Nat → List (List Int)
  | 0 => []
  | k + 1 => d.rowsR p w k ++ [(d.itR p w k).elems p w]

theorem Dk.elems_length (d : Dk) (p : Int) : ∀ k, (d.elems p k).length = k
  | 0 => rfl
  | k + 1 => by simp [Dk.elems, Dk.elems_length d p k]
theorem Dk.elems_all (d : Dk) (p : Int) (hp : 1 ≤ p) : ∀ k, allP p (d.elems p k)
  | 0 => fun x hx => by cases hx
  | k + 1 => fun x hx => by
    rcases List.mem_append.1 hx with hx | hx
    · exact Dk.elems_all d p hp k x hx
    · rw [List.mem_singleton] at hx
      subst hx
      exact ⟨Dk.val_nonneg _ _, Dk.val_lt _ _ hp⟩
theorem Dk.rowsR_length (d : Dk) (p : Int) (w : Nat) : ∀ k, (d.rowsR p w k).length = k
  | 0 => rfl
  | k + 1 => by simp [Dk.rowsR, Dk.rowsR_length d p w k]
theorem Dk.rowsR_all (d : Dk) (p : Int) (w : Nat) (hp : 1 ≤ p) : ∀ k, ∀ r ∈ d.rowsR p w k, r.length = w ∧ allP p r
  | 0 => fun x hx => by cases hx
  | k + 1 => fun x hx => by
    rcases List.mem_append.1 hx with hx | hx
    · exact Dk.rowsR_all d p w hp k x hx
    · rw [List.mem_singleton] at hx
      subst hx
      exact ⟨Dk.elems_length _ _ _, Dk.elems_all _ _ hp _⟩

def primes9 : List Int := [2, 3, 5, 7, 11, 13, 17, 257, 65521]
def Dk.fld (d : Dk) : Int := primes9[(d.val 9).toNat]?.getD default

set_option maxRecDepth 20000 in
theorem ok_small : ∀ p ∈ [2, 3, 5, 7, 11, 13, 17, 257, 65521], ∀ e : Nat, e < 256 → 2 ≤ e → e * e ≤ p → p % e ≠ 0 := by decide

theorem okP_nine {p : Int} (h : p ∈ primes9) : okP p := by
  have h1 : ∃ q : Nat, q ∈ [2, 3, 5, 7, 11, 13, 17, 257, 65521] ∧ p = q := by
    simp only [primes9, List.mem_cons, List.not_mem_nil, or_false] at h
    rcases h with h | h | h | h | h | h | h | h | h <;> subst h
    · exact ⟨2, by decide, rfl⟩
    · exact ⟨3, by decide, rfl⟩
    · exact ⟨5, by decide, rfl⟩
    · exact ⟨7, by decide, rfl⟩
    · exact ⟨11, by decide, rfl⟩
    · exact ⟨13, by decide, rfl⟩
    · exact ⟨17, by decide, rfl⟩
    · exact ⟨257, by decide, rfl⟩
    · exact ⟨65521, by decide, rfl⟩
  obtain ⟨q, hq, rfl⟩ := h1
  have hb : ∀ q ∈ [2, 3, 5, 7, 11, 13, 17, 257, 65521], 2 ≤ q ∧ q ≤ 65521 := by decide
  have hb := hb q hq
  refine ⟨by omega, by omega, fun d h2 h3 h4 => ?_⟩
  have hd : d < 256 := by
    by_cases e : d < 256
    · exact e
    · exfalso
      have := Int.mul_le_mul (show (256 : Int) ≤ d by omega) (show (256 : Int) ≤ d by omega) (by omega) (by omega)
      omega
  obtain ⟨e, rfl⟩ := Int.eq_ofNat_of_zero_le (show 0 ≤ d by omega)
  refine ok_small q hq e (by omega) (by omega) (by exact_mod_cast h3) ?_
  have h5 : ((q % e : Nat) : Int) = 0 := by rw [Int.natCast_emod]; exact h4
  exact_mod_cast h5

theorem Dk.fld_mem (d : Dk) : d.fld ∈ primes9 := by
  have h1 := d.val_nonneg 9
  have h2 := d.val_lt 9 (by omega)
  exact getD_mem (xs := primes9) (by show (d.val 9).toNat < 9; omega)
theorem Dk.fld_ok (d : Dk) : okP d.fld := okP_nine d.fld_mem

theorem checkT_zero {t : Tab} (h1 : 1 ≤ t.number ∧ t.number < 2147483647) (h2 : okP t.p) (h3 : 1 ≤ t.width ∧ t.width ≤ 64) (h4 : t.rows.length ≤ 1024) (h5 : ∀ r ∈ t.rows, (r.length : Int) = t.width ∧ allP t.p r) : checkT t = 0 := by
  unfold checkT
  rw [if_neg (by omega), if_neg (by simpa using h2), if_neg (by omega), if_neg (by omega)]
  refine firstErr_zero.2 fun r hr => ?_
  obtain ⟨h6, h7⟩ := h5 r hr
  unfold rowErr
  rw [if_neg (by simpa using h6), if_neg (by simpa using h7)]

/-- The deck after the numbers of a table's field and width, then after its number, then after how many rows it has. -/
def Dk.tabW (d : Dk) : Int := 1 + (d.next 9).val 4
def Dk.tab1 (d : Dk) : Dk := (d.next 9).next 4
def Dk.tabN (d : Dk) : Int := 1 + d.tab1.val 9
def Dk.tab2 (d : Dk) : Dk := d.tab1.next 9
def Dk.tabR (d : Dk) : Int := d.tab2.val 7
def Dk.tab3 (d : Dk) : Dk := d.tab2.next 7
def Dk.tab (d : Dk) : Tab := ⟨d.tabN, d.fld, d.tabW, d.tab3.rowsR d.fld d.tabW.toNat d.tabR.toNat⟩
def Dk.tab4 (d : Dk) : Dk := d.tab3.itR d.fld d.tabW.toNat d.tabR.toNat

theorem Dk.tabW_bd (d : Dk) : 1 ≤ d.tabW ∧ d.tabW ≤ 4 := by
  have h1 := (d.next 9).val_nonneg 4
  have h2 := (d.next 9).val_lt 4 (by omega)
  unfold Dk.tabW; omega
theorem Dk.tabN_bd (d : Dk) : 1 ≤ d.tabN ∧ d.tabN ≤ 9 := by
  have h1 := d.tab1.val_nonneg 9
  have h2 := d.tab1.val_lt 9 (by omega)
  unfold Dk.tabN; omega
theorem Dk.tabR_bd (d : Dk) : 0 ≤ d.tabR ∧ d.tabR ≤ 6 := by
  have h1 := d.tab2.val_nonneg 7
  have h2 := d.tab2.val_lt 7 (by omega)
  unfold Dk.tabR; omega

theorem Dk.tab_rows (d : Dk) : d.tab.rows.length ≤ 6 ∧ ∀ r ∈ d.tab.rows, (r.length : Int) = d.tab.width ∧ allP d.tab.p r := by
  have h1 := d.tabW_bd
  have h2 := d.tabR_bd
  refine ⟨by show (d.tab3.rowsR _ _ _).length ≤ 6; rw [Dk.rowsR_length]; omega, fun r hr => ?_⟩
  obtain ⟨h3, h4⟩ := Dk.rowsR_all _ _ _ (by have := d.fld_ok; unfold okP at this; omega) _ r hr
  exact ⟨by rw [h3]; show _ = d.tabW; omega, h4⟩

theorem Dk.tab_ok (d : Dk) : checkT d.tab = 0 := by
  have h1 := d.tabW_bd
  have h2 := d.tabN_bd
  have h3 := d.tab_rows
  exact checkT_zero (by show _ ∧ d.tabN < _; exact ⟨h2.1, by omega⟩) d.fld_ok (by show _ ∧ d.tabW ≤ _; exact ⟨h1.1, by omega⟩) (by omega) h3.2

theorem Dk.newT_tab (d : Dk) : newT d.tabN d.fld d.tabW (d.tab3.rowsR d.fld d.tabW.toNat d.tabR.toNat) = d.tab := by
  have h := d.tab_ok
  unfold newT
  rw [if_pos (show checkT ⟨d.tabN, d.fld, d.tabW, d.tab3.rowsR d.fld d.tabW.toNat d.tabR.toNat⟩ = 0 from h)]
  rfl

end Go.Q
