/- Tables that differ in one element, and digests of which one was changed; plain mathematics. -/
import Derived.Test.YtipjijlfpnjjfaaQPlainE
set_option linter.unusedVariables false
set_option linter.unusedSimpArgs false
namespace Go.Q
open Classical

theorem rowD_good (r : List Int) : goodD (rowD r) := by have := rowD_bd r; unfold goodD; omega
theorem map_good (rows : List (List Int)) : ∀ x ∈ rows.map rowD, goodD x := fun x hx => by
  obtain ⟨r, _, rfl⟩ := List.mem_map.1 hx
  exact rowD_good r

/-- The table with one element set. -/
def Tab.bend (x : Tab) (i j : Nat) (b : Int) : Tab := ⟨x.number, x.p, x.width, x.rows.set i ((x.rows[i]?.getD default).set j b)⟩

theorem bend_ok {x : Tab} (hx : checkT x = 0) {i j : Nat} {b : Int} (hi : i < x.rows.length) (hb : 0 ≤ b ∧ b < x.p) : checkT (x.bend i j b) = 0 := by
  obtain ⟨h1, h2, h3, h4, h5⟩ := checkT_ok hx
  refine checkT_zero h1 h2 h3 (by show (List.set _ _ _).length ≤ 1024; rw [List.length_set]; exact h4) fun r hr => ?_
  rcases List.mem_or_eq_of_mem_set hr with hr | rfl
  · exact h5 r hr
  · have h6 := h5 _ (getD_mem hi)
    exact ⟨by rw [List.length_set]; exact h6.1, allP_set h6.2 hb⟩

theorem bend_root {x : Tab} (hx : checkT x = 0) {i j : Nat} {b : Int} (hi : i < x.rows.length) (hj : j < (x.rows[i]?.getD default).length) (hb : 0 ≤ b ∧ b < x.p) :
    (headT x).root = (headT (x.bend i j b)).root ↔ (x.rows[i]?.getD default)[j]?.getD default = b := by
  obtain ⟨h1, h2, h3, h4, h5⟩ := checkT_ok hx
  have h6 : x.p ≤ 65521 := h2.2.1
  have h7 := (h5 _ (getD_mem hi)).2 _ (getD_mem hj)
  unfold hasP at h7
  rw [head_ok hx, head_ok (bend_ok hx hi hb)]
  show rootD (x.rows.map rowD) = rootD ((x.rows.set i ((x.rows[i]?.getD default).set j b)).map rowD) ↔ _
  rw [List.map_set]
  have h8 := root_set (xs := x.rows.map rowD) (i := i) (b := rowD ((x.rows[i]?.getD default).set j b)) (by simpa using hi) (map_good _) (rowD_good _)
  have h9 : (x.rows.map rowD)[i]?.getD default = rowD (x.rows[i]?.getD default) := by rw [List.getElem?_map, List.getElem?_eq_getElem hi]; rfl
  rw [h9, rowD_set hj ⟨hb.1, by omega⟩ ⟨h7.1, by omega⟩] at h8
  exact ⟨fun h => (h8.1 h.symm).symm, fun h => (h8.2 h.symm).symm⟩

theorem bend_get {x : Tab} {i j : Nat} {b : Int} (hi : i < x.rows.length) (hj : j < (x.rows[i]?.getD default).length) : (((x.rows.set i ((x.rows[i]?.getD default).set j b))[i]?.getD default)[j]?.getD default) = b := by
  rw [List.getElem?_set_self hi]
  show (((x.rows[i]?.getD default).set j b)[j]?.getD default) = b
  rw [List.getElem?_set_self hj]
  rfl

theorem holds_set {x : Tab} (hx : checkT x = 0) {i : Nat} {v : Int} (hi : i < x.rows.length) (hv : 0 ≤ v ∧ v < 2147483647) : holdsH (headT x) ((digs x).set i v) = 0 ↔ (digs x)[i]?.getD default = v := by
  have hl := digs_len hx
  have hg : ∀ y ∈ digs x, goodD y := by rw [digs_ok hx]; exact map_good _
  have h4 := (checkT_ok hx).2.2.2.1
  have he : listErr ((digs x).set i v) = 0 := by
    unfold listErr
    rw [if_neg (by rw [List.length_set]; omega)]
    refine firstErr_none fun y hy => if_pos ?_
    rcases List.mem_or_eq_of_mem_set hy with hy | rfl
    · exact hg y hy
    · exact hv
  have h5 := root_set (xs := digs x) (i := i) (b := v) (by omega) hg hv
  unfold holdsH
  rw [if_neg (by rw [List.length_set, hl, head_ok hx]; simp), if_neg (by simpa using he), show (headT x).root = rootD (digs x) by rw [head_ok hx, digs_ok hx]]
  by_cases c : rootD ((digs x).set i v) = rootD (digs x)
  · rw [if_neg (by simpa using c)]; exact ⟨fun _ => (h5.1 c).symm, fun _ => rfl⟩
  · rw [if_pos c]
    exact ⟨fun h => absurd h (by decide), fun h => absurd (h5.2 h.symm) c⟩

end Go.Q
