/- Digests tell rows apart that differ in one element; plain mathematics. -/
import Derived.Test.YtipjijlfpnjjfaaQPlainC
set_option linter.unusedVariables false
set_option linter.unusedSimpArgs false
namespace Go.Q
open Classical

theorem rowStep_bd (d x : Int) : 0 ≤ rowStep d x ∧ rowStep d x < 2147483647 := by unfold rowStep; omega
theorem rowStep_inj {d e x : Int} (hd : 0 ≤ d ∧ d < 2147483647) (he : 0 ≤ e ∧ e < 2147483647) (h : rowStep d x = rowStep e x) : d = e := by
  unfold rowStep at h
  generalize modD x = m at h
  have h1 : (d * 1000003 + m + 1 - (e * 1000003 + m + 1)) % 2147483647 = 0 := Int.emod_eq_emod_iff_emod_sub_eq_zero.1 h
  have h2 : (2147483647 : Int) ∣ (d - e) * 1000003 := by
    have h3 := Int.dvd_of_emod_eq_zero h1
    have h4 : d * 1000003 + m + 1 - (e * 1000003 + m + 1) = (d - e) * 1000003 := by omega
    rwa [h4] at h3
  have h6 : (2147483647 : Int) ∣ (d - e) * 1000003 * 1523789695 - (d - e) * (2147483647 * 709572) :=
    Int.dvd_sub (Int.dvd_trans h2 ⟨_, rfl⟩) (Int.dvd_trans ⟨709572, rfl⟩ ⟨d - e, Int.mul_comm _ _⟩)
  rw [Int.mul_assoc, ← Int.mul_sub, show (1000003 * 1523789695 - 2147483647 * 709572 : Int) = 1 from by decide, Int.mul_one] at h6
  obtain ⟨r, hr⟩ := h6
  clear h h1 h2
  omega
theorem fold_inj : ∀ (xs : List Int) {d e : Int}, (0 ≤ d ∧ d < 2147483647) → (0 ≤ e ∧ e < 2147483647) → xs.foldl rowStep d = xs.foldl rowStep e → d = e
  | [], _, _, _, _, h => h
  | x :: xs, d, e, hd, he, h => rowStep_inj hd he (fold_inj xs (rowStep_bd d x) (rowStep_bd e x) h)
theorem rowStep_last {d a b : Int} (ha : 0 ≤ a ∧ a < 2147483647) (hb : 0 ≤ b ∧ b < 2147483647) (h : rowStep d a = rowStep d b) : a = b := by
  unfold rowStep modD at h
  omega

theorem rowD_set {r : List Int} {j : Nat} {b : Int} (hj : j < r.length) (hb : 0 ≤ b ∧ b < 2147483647) (hr : 0 ≤ r[j]?.getD default ∧ r[j]?.getD default < 2147483647) : rowD (r.set j b) = rowD r ↔ b = r[j]?.getD default := by
  have e1 : r = r.take j ++ (r[j]?.getD default) :: r.drop (j + 1) := by
    conv => lhs; rw [← List.take_append_drop j r]
    rw [List.drop_eq_getElem_cons hj, List.getElem?_eq_getElem hj]
    rfl
  have e2 : r.set j b = r.take j ++ b :: r.drop (j + 1) := by
    rw [List.set_eq_take_append_cons_drop, if_pos hj]
  constructor
  · intro h
    rw [e2] at h
    conv at h => rhs; rw [e1]
    unfold rowD at h
    rw [List.foldl_append, List.foldl_append, List.foldl_cons, List.foldl_cons] at h
    exact rowStep_last hb hr (fold_inj _ (rowStep_bd _ _) (rowStep_bd _ _) h)
  · intro h
    rw [e2, h, ← e1]

theorem rowT_at {x : Tab} (hx : checkT x = 0) {k : Nat} (hk : k < x.rows.length) : rowT x k = x.rows[k]?.getD default ∧ rowTErr x k = 0 := by
  unfold rowT rowTErr
  rw [if_pos ⟨hx, by omega, by omega⟩, if_neg (by simpa using hx), if_neg (by omega)]
  exact ⟨rfl, rfl⟩

theorem allP_set {p : Int} {r : List Int} (h : allP p r) {j : Nat} {b : Int} (hb : 0 ≤ b ∧ b < p) : allP p (r.set j b) := by
  intro y hy
  rcases List.mem_or_eq_of_mem_set hy with hy | rfl
  · exact h y hy
  · exact hb

/-- A row in which one element was set passes exactly if the element is as it was. -/
theorem verify_set {x : Tab} (hx : checkT x = 0) {k : Nat} (hk : k < x.rows.length) {j : Nat} {b : Int} (hj : j < (x.rows[k]?.getD default).length) (hb : 0 ≤ b ∧ b < x.p) :
    verifyH (headT x) (digs x) k ((x.rows[k]?.getD default).set j b) = 0 ↔ b = (x.rows[k]?.getD default)[j]?.getD default := by
  have h1 := checkT_ok hx
  have h2 := h1.2.2.2.2 _ (getD_mem hk)
  have h3 : x.p ≤ 65521 := h1.2.1.2.1
  have h4 := h2.2 _ (getD_mem hj)
  unfold hasP at h4
  rw [verify_ok hx, if_neg (by omega), if_neg (by rw [List.length_set]; simpa using h2.1), if_neg (Classical.not_not.2 (allP_set h2.2 hb)), ← rowD_set hj ⟨hb.1, by omega⟩ ⟨h4.1, by omega⟩]
  rw [show ((k : Int).toNat) = k from rfl]
  by_cases c : rowD ((x.rows[k]?.getD default).set j b) = rowD (x.rows[k]?.getD default) <;> simp [c]

end Go.Q
