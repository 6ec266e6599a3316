/- What stays true of pins; dice; plain mathematics, no program. -/
import Derived.Test.YtmapjpdgjefnoaaQPlainP
set_option linter.unusedVariables false
set_option linter.unusedSimpArgs false
namespace Go.Q
open Classical

structure Dc where
  xs : List Int
  k : Nat
deriving Inhabited
def Dc.val (d : Dc) (n : Int) : Int := if d.k < d.xs.length then d.xs[d.k]?.getD default % n else 0
def Dc.next (d : Dc) : Dc := ⟨d.xs, if d.k < d.xs.length then d.k + 1 else d.k⟩
structure okDc (d : Dc) : Prop where
  byte : ∀ x ∈ d.xs, 0 ≤ x ∧ x ≤ 255
  len : d.xs.length ≤ 300
theorem Dc.val_nonneg {d : Dc} {n : Int} (hn : 1 ≤ n) : 0 ≤ d.val n := by
  unfold Dc.val
  split
  · exact Int.emod_nonneg _ (by omega)
  · omega
theorem Dc.val_lt {d : Dc} {n : Int} (hn : 1 ≤ n) : d.val n < n := by
  unfold Dc.val
  split
  · exact Int.emod_lt_of_pos _ (by omega)
  · omega
theorem Dc.next_ok {d : Dc} (h : okDc d) : okDc d.next := ⟨h.byte, h.len⟩

theorem newest_mem {p : Pins} (h : okPins p) : newestP p ∈ p.kept := by
  unfold newestP
  have := h.one
  rw [List.getElem?_eq_getElem (by omega)]
  exact List.getElem_mem ..

theorem newest_bd {p : Pins} (h : okPins p) : 1 ≤ newestP p ∧ newestP p ≤ 2147483646 := by
  have h1 := h.one
  have := h.kept (p.kept.length - 1) (by omega)
  exact ⟨this.1, this.2.1⟩

theorem new_ok {v : Int} (h : newE v = 0) : okPins (newP v) := by
  unfold newE at h
  by_cases c : v < 1 ∨ 2147483647 ≤ v
  · rw [if_pos c] at h; omega
  · unfold newP
    rw [if_neg c]
    refine ⟨by simp, by simp, by simp, fun j hj => ?_, fun j hj => by simp at hj⟩
    have : j = 0 := by simpa using hj
    subst this
    exact ⟨by simp; omega, by simp; omega, fun h => by omega⟩

theorem getD_app_left {α : Type} [Inhabited α] {xs ys : List α} {j : Nat} (h : j < xs.length) : (xs ++ ys)[j]?.getD default = xs[j]?.getD default := by rw [List.getElem?_append_left h]
theorem getD_app_right {α : Type} [Inhabited α] {xs ys : List α} {j : Nat} (h : xs.length ≤ j) : (xs ++ ys)[j]?.getD default = ys[j - xs.length]?.getD default := by rw [List.getElem?_append_right h]

theorem pub_ok {p : Pins} {v : Int} (h : okPins p) : okPins (pubP p v) := by
  unfold pubP
  split
  · rename_i he
    unfold pubE at he
    rw [if_neg (Classical.not_not.2 h)] at he
    split at he
    · omega
    · rename_i hv
      split at he
      · omega
      · have h1 := h.one
        have hb := newest_bd h
        refine ⟨by simp, by simp; omega, h.reads, fun j hj => ?_, fun j hj => ?_⟩
        · simp at hj
          by_cases c : j < p.kept.length
          · have := h.kept j c
            unfold keptOk at this ⊢
            rw [getD_app_left c]
            refine ⟨this.1, this.2.1, fun h0 => ?_⟩
            rw [getD_app_left (by omega)]
            exact this.2.2 h0
          · have hj' : j = p.kept.length := by omega
            subst hj'
            unfold keptOk
            rw [getD_app_right (Nat.le_refl _), Nat.sub_self]
            simp only [List.getElem?_cons_zero, Option.getD_some]
            refine ⟨by omega, by omega, fun h0 => ?_⟩
            rw [getD_app_left (by omega)]
            unfold newestP at hv
            omega
        · have := h.rows j hj
          exact ⟨this.1, this.2.1, List.mem_append_left _ this.2.2⟩
  · exact h

/-- Rows in order, told by pairs. -/
structure rowsP (kept : List Int) (l : List Pn) : Prop where
  nonneg : ∀ r ∈ l, 0 ≤ r.session
  mem : ∀ r ∈ l, r.version ∈ kept
  asc : l.Pairwise fun a b => a.session < b.session

theorem rowsP_iff {kept : List Int} {l : List Pn} : (∀ j, j < l.length → rowOk kept l j) ↔ rowsP kept l := by
  constructor
  · intro h
    refine ⟨forall_getD fun j hj => (h j hj).1, forall_getD fun j hj => (h j hj).2.2, ?_⟩
    rw [List.pairwise_iff_getElem]
    intro a b ha hb hab
    have := rows_lt h b hb a hab
    simpa [ha, hb] using this
  · intro h j hj
    have hm : l[j]?.getD default ∈ l := by rw [List.getElem?_eq_getElem hj]; exact List.getElem_mem ..
    refine ⟨h.nonneg _ hm, fun h0 => ?_, h.mem _ hm⟩
    have h1 := List.pairwise_iff_getElem.1 h.asc (j - 1) j (by omega) hj (by omega)
    rw [List.getElem?_eq_getElem hj, List.getElem?_eq_getElem (by omega)]
    exact h1

/-- Versions in order, told by pairs. -/
structure keptP (l : List Int) : Prop where
  bd : ∀ v ∈ l, 1 ≤ v ∧ v ≤ 2147483646
  asc : l.Pairwise fun a b => a < b

theorem keptP_iff {l : List Int} : (∀ j, j < l.length → keptOk l j) ↔ keptP l := by
  constructor
  · intro h
    refine ⟨forall_getD fun j hj => ⟨(h j hj).1, (h j hj).2.1⟩, ?_⟩
    rw [List.pairwise_iff_getElem]
    intro a b ha hb hab
    have := kept_lt h b hb a hab
    simpa [ha, hb] using this
  · intro h j hj
    have hm : l[j]?.getD default ∈ l := by rw [List.getElem?_eq_getElem hj]; exact List.getElem_mem ..
    refine ⟨(h.bd _ hm).1, (h.bd _ hm).2, fun h0 => ?_⟩
    have h1 := List.pairwise_iff_getElem.1 h.asc (j - 1) j (by omega) hj (by omega)
    rw [List.getElem?_eq_getElem hj, List.getElem?_eq_getElem (by omega)]
    exact h1

theorem lead_take {α : Type} {q : α → Prop} : ∀ {xs : List α}, ∀ x ∈ xs.take (lead q xs), q x
  | [], x, h => by simp at h
  | y :: ys, x, h => by
    simp only [lead] at h
    split at h
    · rename_i hq
      rw [List.take_succ_cons, List.mem_cons] at h
      rcases h with rfl | h
      · exact hq
      · exact lead_take x h
    · simp at h

/-- In ascending rows all that stands behind the place of a session is at least as great. -/
theorem lead_drop {l : List Pn} {s : Int} (h : l.Pairwise fun a b => a.session < b.session) : ∀ x ∈ l.drop (lead (fun r : Pn => r.session < s) l), s ≤ x.session := by
  induction l with
  | nil => intro x hx; simp at hx
  | cons y ys ih =>
    intro x hx
    rw [List.pairwise_cons] at h
    simp only [lead] at hx
    split at hx
    · rw [List.drop_succ_cons] at hx
      exact ih h.2 x hx
    · rename_i hq
      rw [List.drop_zero, List.mem_cons] at hx
      rcases hx with rfl | hx
      · omega
      · have := h.1 x hx; omega

theorem open_ok {p : Pins} {u : Int} (h : okPins p) : okPins (openP p u) := by
  unfold openP
  split
  · rename_i he
    unfold openE at he
    rw [if_neg (Classical.not_not.2 h)] at he
    split at he
    · omega
    · split at he
      · omega
      · rename_i hu ht
        split at he
        · omega
        · have hr := rowsP_iff.1 h.rows
          have hle := atP_le p u
          refine ⟨h.one, h.most, by simp; omega, h.kept, rowsP_iff.2 ⟨fun r hm => ?_, fun r hm => ?_, ?_⟩⟩
          · simp only [List.mem_append, List.mem_singleton] at hm
            rcases hm with (hm | rfl) | hm
            · exact hr.nonneg r (List.mem_of_mem_take hm)
            · simp only; omega
            · exact hr.nonneg r (List.mem_of_mem_drop hm)
          · simp only [List.mem_append, List.mem_singleton] at hm
            rcases hm with (hm | rfl) | hm
            · exact hr.mem r (List.mem_of_mem_take hm)
            · show newestP p ∈ p.kept
              exact newest_mem h
            · exact hr.mem r (List.mem_of_mem_drop hm)
          · have hgt : ∀ x ∈ p.rows.drop (atP p u), u < x.session := fun x hx => by
              have h1 := lead_drop (s := u) hr.asc x hx
              have h2 : x.session ≠ u := fun e => ht ⟨x, List.mem_of_mem_drop hx, e⟩
              omega
            rw [List.append_assoc, List.pairwise_append, List.singleton_append, List.pairwise_cons]
            refine ⟨hr.asc.sublist (List.take_sublist ..), ⟨hgt, hr.asc.sublist (List.drop_sublist ..)⟩, fun a ha b hb => ?_⟩
            have h1 : a.session < u := lead_take (q := fun r : Pn => r.session < u) a ha
            rcases List.mem_cons.1 hb with rfl | hb
            · exact h1
            · have := hgt b hb; omega
  · exact h

theorem close_ok {p : Pins} {u : Int} (h : okPins p) : okPins (closeP p u) := by
  unfold closeP
  split
  · have hr := rowsP_iff.1 h.rows
    have hsub : (p.rows.take (atP p u) ++ p.rows.drop (atP p u + 1)).Sublist p.rows := by
      conv => rhs; rw [← List.take_append_drop (atP p u) p.rows]
      refine List.Sublist.append (List.Sublist.refl _) ?_
      rw [← List.drop_drop]
      exact List.drop_sublist ..
    refine ⟨h.one, h.most, Nat.le_trans hsub.length_le h.reads, h.kept, rowsP_iff.2 ⟨fun r hm => hr.nonneg r (hsub.subset hm), fun r hm => hr.mem r (hsub.subset hm), hr.asc.sublist hsub⟩⟩
  · exact h

theorem flt_sub {α : Type} (q : α → Prop) : ∀ l : List α, (flt q l).Sublist l
  | [] => .slnil
  | x :: l => by
    simp only [flt]
    split
    · exact (flt_sub q l).cons_cons x
    · exact (flt_sub q l).cons x

theorem coll_ok {p : Pins} (h : okPins p) : okPins (collP p) := by
  have hk := keptP_iff.1 h.kept
  have hr := rowsP_iff.1 h.rows
  have hsub := flt_sub (fun v => ¬ goesP p v) p.kept
  have hnew : newestP p ∈ flt (fun v => ¬ goesP p v) p.kept := mem_flt.2 ⟨newest_mem h, fun hc => hc.1 rfl⟩
  refine ⟨List.length_pos_of_mem hnew, Nat.le_trans hsub.length_le h.most, h.reads, keptP_iff.2 ⟨fun v hv => hk.bd v (hsub.subset hv), hk.asc.sublist hsub⟩, rowsP_iff.2 ⟨hr.nonneg, fun r hm => mem_flt.2 ⟨hr.mem r hm, fun hc => ?_⟩, hr.asc⟩⟩
  have h0 := hc.2
  unfold namedP at h0
  exact cntP_zero.1 h0 r hm rfl

theorem getLast_eq {l : List Int} : l[l.length - 1]?.getD default = l.getLastD default := by
  rw [List.getLastD_eq_getLast?, List.getLast?_eq_getElem?]

/-- The newest version stays. -/
theorem coll_newest {p : Pins} (h : okPins p) : newestP (collP p) = newestP p := by
  have hk := keptP_iff.1 h.kept
  have hsub := flt_sub (fun v => ¬ goesP p v) p.kept
  have hok := coll_ok h
  have hnew : newestP p ∈ (collP p).kept := mem_flt.2 ⟨newest_mem h, fun hc => hc.1 rfl⟩
  have hm : newestP (collP p) ∈ p.kept := hsub.subset (newest_mem hok)
  -- the newest is the greatest
  have hmax : ∀ {q : Pins}, okPins q → ∀ v ∈ q.kept, v ≤ newestP q := by
    intro q hq v hv
    obtain ⟨i, hi⟩ := List.getElem?_of_mem hv
    have hil := (List.getElem?_eq_some_iff.1 hi).1
    unfold newestP
    by_cases e : i = q.kept.length - 1
    · subst e; rw [hi]; exact Int.le_refl _
    · have := kept_lt hq.kept (q.kept.length - 1) (by omega) i (by omega)
      rw [hi] at this
      simp only [Option.getD_some] at this
      omega
  have h1 := hmax h _ hm
  have h2 := hmax hok _ hnew
  omega

end Go.Q
