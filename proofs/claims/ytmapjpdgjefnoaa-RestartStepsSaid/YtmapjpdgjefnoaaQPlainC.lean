/- Heads, digests and rows of a valid table; plain mathematics. -/
import Derived.Test.YtmapjpdgjefnoaaQPlainB
set_option linter.unusedVariables false
set_option linter.unusedSimpArgs false
namespace Go.Q
open Classical

theorem digs_ok {t : Tab} (h : checkT t = 0) : digs t = t.rows.map rowD := by unfold digs; rw [if_pos h]
theorem head_ok {t : Tab} (h : checkT t = 0) : headT t = ⟨t.number, t.p, t.rows.length, t.width, rootD (t.rows.map rowD)⟩ := by unfold headT; rw [if_pos h]
theorem digs_len {t : Tab} (h : checkT t = 0) : (digs t).length = t.rows.length := by rw [digs_ok h]; simp
theorem holds_ok {t : Tab} (h : checkT t = 0) : holdsH (headT t) (digs t) = 0 := by
  have h2 := listErr_digs t.rows (checkT_ok h).2.2.2.1
  rw [digs_ok h, head_ok h]
  unfold holdsH
  simp [h2]
theorem digs_get {t : Tab} (h : checkT t = 0) (i : Nat) (hi : i < t.rows.length) : (digs t)[i]?.getD default = rowD (t.rows[i]?.getD default) := by
  rw [digs_ok h, List.getElem?_map, List.getElem?_eq_getElem hi]; rfl

theorem verify_ok {t : Tab} (h : checkT t = 0) (i : Int) (r : List Int) : verifyH (headT t) (digs t) i r =
    if i < 0 ∨ (t.rows.length : Int) ≤ i then 6 else if (r.length : Int) ≠ t.width then 2 else if ¬ allP t.p r then 9 else if rowD r ≠ rowD (t.rows[i.toNat]?.getD default) then 13 else 0 := by
  have h1 := checkT_ok h
  have hh := holds_ok h
  unfold verifyH
  rw [if_neg (by simpa using hh), digs_len h]
  by_cases c : i < 0 ∨ (t.rows.length : Int) ≤ i
  · rw [if_pos c, if_pos c]
  · rw [if_neg c, if_neg c, if_neg (by rw [head_ok h]; simpa using h1.2.1), digs_get h _ (by omega), head_ok h]

/-- A row of the table passes at its own index. -/
theorem verify_self {t : Tab} (h : checkT t = 0) (k : Nat) (hk : k < t.rows.length) (j : Nat) (hj : j < t.rows.length) :
    verifyH (headT t) (digs t) j (t.rows[k]?.getD default) = if rowD (t.rows[k]?.getD default) ≠ rowD (t.rows[j]?.getD default) then 13 else 0 := by
  have h1 := (checkT_ok h).2.2.2.2 _ (getD_mem hk)
  rw [verify_ok h, if_neg (by omega), if_neg (by simpa using h1.1), if_neg (by simpa using h1.2)]
  simp

theorem index_law {x : Tab} (hx : checkT x = 0) {i k : Int} (hi : 0 ≤ i ∧ i < x.rows.length) (hk : 0 ≤ k ∧ k < x.rows.length) :
    (((((checkT x = 0 ∧ checkT x = 0) ∧ (verifyH (headT x) (digs x) k (x.rows[i.toNat]?.getD default) = 0 ↔ (digs x)[i.toNat]?.getD default = (digs x)[k.toNat]?.getD default)) ∧
      (verifyH (headT x) (digs x) k (x.rows[i.toNat]?.getD default) = 0 ∨ verifyH (headT x) (digs x) k (x.rows[i.toNat]?.getD default) = 13)) ∧
      verifyH (headT x) (digs x) ((digs x).length : Nat) (x.rows[i.toNat]?.getD default) = 6) ∧ verifyH (headT x) (List.drop (Int.toNat 1) (digs x)) 0 (x.rows[i.toNat]?.getD default) = 2) := by
  have e1 := verify_self hx i.toNat (by omega) k.toNat (by omega)
  rw [show ((k.toNat : Nat) : Int) = k by omega] at e1
  rw [digs_get hx _ (show i.toNat < x.rows.length by omega), digs_get hx _ (show k.toNat < x.rows.length by omega), e1]
  have e4 : verifyH (headT x) (digs x) ((digs x).length : Nat) (x.rows[i.toNat]?.getD default) = 6 := by rw [verify_ok hx, if_pos (by rw [digs_len hx]; omega)]
  have e2 : holdsH (headT x) (List.drop (Int.toNat 1) (digs x)) = 2 := by
    unfold holdsH
    rw [if_pos]
    rw [head_ok hx, List.length_drop, digs_len hx]
    show ((x.rows.length - 1 : Nat) : Int) ≠ x.rows.length
    omega
  have e3 : verifyH (headT x) (List.drop (Int.toNat 1) (digs x)) 0 (x.rows[i.toNat]?.getD default) = 2 := by
    unfold verifyH
    rw [if_pos (by omega), e2]
  refine ⟨⟨⟨⟨⟨hx, hx⟩, ?_⟩, ?_⟩, e4⟩, e3⟩
  · by_cases c : rowD (x.rows[i.toNat]?.getD default) = rowD (x.rows[k.toNat]?.getD default) <;> simp [c]
  · by_cases c : rowD (x.rows[i.toNat]?.getD default) = rowD (x.rows[k.toNat]?.getD default) <;> simp [c]

/-- The first table of all. -/
def tab0 : Tab := ⟨1, 5, 2, [[1, 2], [3, 4]]⟩
theorem tab0_ok : checkT tab0 = 0 := by
  refine checkT_zero (by decide) (okP_nine (by decide)) (by decide) (by decide) (fun r hr => ?_)
  simp only [tab0, List.mem_cons, List.not_mem_nil, or_false] at hr
  rcases hr with rfl | rfl
  · exact ⟨rfl, fun x hx => by simp at hx; unfold hasP; show _ ∧ x < 5; omega⟩
  · exact ⟨rfl, fun x hx => by simp at hx; unfold hasP; show _ ∧ x < 5; omega⟩
theorem tab0_good : verifyH (headT tab0) (digs tab0) 1 [3, 4] = 0 := verify_self tab0_ok 1 (by decide) 1 (by decide) |>.trans (if_neg (by simp))
theorem tab0_bad : verifyH (headT tab0) (digs tab0) 1 [3, 3] = 13 := by
  rw [verify_ok tab0_ok, if_neg (by decide), if_neg (by decide), if_neg (Classical.not_not.2 (show allP tab0.p [3, 3] from fun x hx => by simp at hx; unfold hasP; show _ ∧ x < 5; omega)), if_pos (by decide)]

end Go.Q
