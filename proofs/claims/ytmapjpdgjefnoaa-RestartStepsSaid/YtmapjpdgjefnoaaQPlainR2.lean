/- What stays true of disks; plain mathematics, no program. -/
import Derived.Test.YtmapjpdgjefnoaaQPlainR
import Derived.Test.YtmapjpdgjefnoaaQPlainP2
set_option linter.unusedVariables false
set_option linter.unusedSimpArgs false
namespace Go.Q
open Classical

structure eltOk (m : Int) (s : Strt) : Prop where
  read : 0 ≤ s.read
  v : 1 ≤ s.version ∧ s.version ≤ 2147483646
  p : 2 ≤ s.p ∧ s.p ≤ 65521
  n : 0 ≤ s.draws ∧ 0 ≤ s.from' ∧ s.from' + s.draws ≤ m
structure rowsD (m : Int) (l : List Strt) : Prop where
  elt : ∀ s ∈ l, eltOk m s
  asc : l.Pairwise fun a b => a.read < b.read
theorem eltOk.le {m k : Int} {s : Strt} (h : eltOk m s) (hm : m ≤ k) : eltOk k s := ⟨h.read, h.v, h.p, h.n.1, h.n.2.1, by have := h.n.2.2; omega⟩

theorem rowsD_of {d : Disk} (h : okDisk d) : rowsD d.drawn d.begun := by
  refine ⟨forall_getD fun j hj => ?_, ?_⟩
  · obtain ⟨a1, a2, a3, a4, a5, a6, a7, a8, a9, a10⟩ := h.each j hj
    exact ⟨a1, ⟨a3, a4⟩, ⟨a5, a6⟩, a7, a9, by omega⟩
  · rw [List.pairwise_iff_getElem]
    intro a b ha hb hab
    have := reads_lt h b hb a hab
    simpa [ha, hb] using this
theorem okDisk_of {d : Disk} (h1 : 1 ≤ d.seed ∧ d.seed ≤ 2147483646) (h2 : 0 ≤ d.drawn ∧ d.drawn ≤ 16384) (h3 : d.begun.length ≤ 64) (h : rowsD d.drawn d.begun) : okDisk d := by
  refine ⟨h1, h2, h3, fun j hj => ?_⟩
  have hm : d.begun[j]?.getD default ∈ d.begun := by rw [List.getElem?_eq_getElem hj]; exact List.getElem_mem ..
  have he := h.elt _ hm
  have := he.n
  refine ⟨he.read, fun h0 => ?_, he.v.1, he.v.2, he.p.1, he.p.2, he.n.1, by omega, he.n.2.1, by omega⟩
  have h4 := List.pairwise_iff_getElem.1 h.asc (j - 1) j (by omega) hj (by omega)
  rw [List.getElem?_eq_getElem hj, List.getElem?_eq_getElem (by omega)]
  exact h4

theorem leadD_drop {l : List Strt} {s : Int} (h : l.Pairwise fun a b => a.read < b.read) : ∀ x ∈ l.drop (lead (fun r : Strt => r.read < s) l), s ≤ x.read := by
  induction l with
  | nil => intro x hx; simp at hx
  | cons y ys ih =>
    intro x hx
    rw [List.pairwise_cons] at h
    simp only [lead] at hx
    split at hx
    · rw [List.drop_succ_cons] at hx
      exact ih h.2 x hx
    · rename_i hq
      rw [List.drop_zero, List.mem_cons] at hx
      rcases hx with rfl | hx
      · omega
      · have := h.1 x hx; omega

theorem newD_ok {s : Int} (h : 1 ≤ s ∧ s ≤ 2147483646) : newDE s = 0 ∧ newD s = ⟨s, 0, []⟩ ∧ okDisk (newD s) := by
  have e : newD s = ⟨s, 0, []⟩ := by unfold newD; rw [if_neg (by omega)]
  refine ⟨by unfold newDE; rw [if_neg (by omega)], e, ?_⟩
  rw [e]
  exact okDisk_of h (by simp) (by simp) ⟨fun s hs => by simp at hs, .nil⟩

variable {d : Disk} {u v p n : Int}
theorem begin_P (h : beginE d u v p n = 0) : beginD d u v p n = ⟨d.seed, d.drawn + n, d.begun.take (atD d u) ++ [beginS d u v p n] ++ d.begun.drop (atD d u)⟩ := if_pos h
theorem begin_T (h : beginE d u v p n = 0) : beginT d u v p n = tapeS d.seed (beginS d u v p n) := if_pos h
theorem begin_err (h : beginE d u v p n ≠ 0) : beginD d u v p n = d := if_neg h
/-- What is known where a read was begun. -/
theorem begin_inv (h : beginE d u v p n = 0) : okDisk d ∧ 0 ≤ u ∧ (1 ≤ v ∧ v ≤ 2147483646) ∧ (2 ≤ p ∧ p ≤ 65521) ∧ 0 ≤ n ∧ ¬ thereD d u ∧ d.begun.length < 64 ∧ d.drawn + n ≤ 16384 := by
  unfold beginE at h
  split at h
  · omega
  · rename_i h1
    split at h
    · omega
    · split at h
      · omega
      · rename_i h3
        split at h
        · omega
        · exact ⟨Classical.not_not.1 h1, by omega, by omega, by omega, by omega, h3, by omega, by omega⟩
theorem begin_eq (h : okDisk d) (hu : 0 ≤ u) (hv : 1 ≤ v ∧ v ≤ 2147483646) (hp : 2 ≤ p ∧ p ≤ 65521) (hn : 0 ≤ n) (ht : ¬ thereD d u) : beginE d u v p n = if 64 ≤ d.begun.length ∨ 16384 - d.drawn < n then 4 else 0 := by
  unfold beginE
  rw [if_neg (Classical.not_not.2 h), if_neg (by omega), if_neg ht]
theorem begin_there (h : okDisk d) (hu : 0 ≤ u) (hv : 1 ≤ v ∧ v ≤ 2147483646) (hp : 2 ≤ p ∧ p ≤ 65521) (hn : 0 ≤ n) (ht : thereD d u) : beginE d u v p n = 7 := by
  unfold beginE
  rw [if_neg (Classical.not_not.2 h), if_neg (by omega), if_pos ht]
theorem begin_perm (h : beginE d u v p n = 0) : (beginD d u v p n).begun.Perm (beginS d u v p n :: d.begun) := by
  rw [begin_P h]
  simp only
  rw [List.append_assoc, List.singleton_append]
  refine List.perm_middle.trans (.cons _ ?_)
  rw [List.take_append_drop]
theorem begin_len (h : beginE d u v p n = 0) : (beginD d u v p n).begun.length = d.begun.length + 1 := by rw [(begin_perm h).length_eq]; rfl
theorem begin_mem (h : beginE d u v p n = 0) {r : Strt} : r ∈ (beginD d u v p n).begun ↔ r = beginS d u v p n ∨ r ∈ d.begun := by rw [(begin_perm h).mem_iff, List.mem_cons]
theorem begin_drawn (h : beginE d u v p n = 0) : (beginD d u v p n).drawn = d.drawn + n := by rw [begin_P h]
theorem begin_seed : (beginD d u v p n).seed = d.seed := by unfold beginD; split <;> rfl
theorem begin_there_iff (h : beginE d u v p n = 0) {x : Int} : thereD (beginD d u v p n) x ↔ x = u ∨ thereD d x := by
  unfold thereD
  constructor
  · rintro ⟨s, hs, rfl⟩
    rcases (begin_mem h).1 hs with rfl | hs
    · exact .inl rfl
    · exact .inr ⟨s, hs, rfl⟩
  · rintro (rfl | ⟨s, hs, rfl⟩)
    · exact ⟨_, (begin_mem h).2 (.inl rfl), rfl⟩
    · exact ⟨s, (begin_mem h).2 (.inr hs), rfl⟩
theorem begin_ok (h : okDisk d) : okDisk (beginD d u v p n) := by
  by_cases he : beginE d u v p n = 0
  · obtain ⟨_, h2, h3, h4, h5, h6, h7, h8⟩ := begin_inv he
    have hr := rowsD_of h
    have hd := h.drawn
    refine okDisk_of (by rw [begin_seed]; exact h.seed) (by rw [begin_drawn he]; omega) (by rw [begin_len he]; omega) ⟨fun s hs => ?_, ?_⟩
    · rw [begin_drawn he]
      rcases (begin_mem he).1 hs with rfl | hs
      · exact ⟨h2, h3, h4, h5, hd.1, by simp only; omega⟩
      · exact (hr.elt s hs).le (by omega)
    · rw [begin_P he]
      simp only
      have hgt : ∀ x ∈ d.begun.drop (atD d u), u < x.read := fun x hx => by
        have h1 := leadD_drop (s := u) hr.asc x hx
        have h2 : x.read ≠ u := fun e => h6 ⟨x, List.mem_of_mem_drop hx, e⟩
        omega
      rw [List.append_assoc, List.pairwise_append, List.singleton_append, List.pairwise_cons]
      refine ⟨hr.asc.sublist (List.take_sublist ..), ⟨hgt, hr.asc.sublist (List.drop_sublist ..)⟩, fun a ha b hb => ?_⟩
      have h1 : a.read < u := lead_take (q := fun r : Strt => r.read < u) a ha
      rcases List.mem_cons.1 hb with rfl | hb
      · exact h1
      · have := hgt b hb; omega
  · rw [begin_err he]; exact h

theorem get_at (h : okDisk d) {s : Strt} (hs : s ∈ d.begun) : d.begun[atD d s.read]?.getD default = s := by
  obtain ⟨i, hi⟩ := List.getElem?_of_mem hs
  have hil := (List.getElem?_eq_some_iff.1 hi).1
  have e : d.begun[i]?.getD default = s := by rw [hi]; rfl
  rw [(atD_of h hil (by rw [e])).1, e]
theorem end_eq (h : okDisk d) {x : Int} : endE d x = 0 ↔ thereD d x := by
  unfold endE
  rw [if_neg (Classical.not_not.2 h)]
  split <;> simp_all
theorem end_no (h : okDisk d) {x : Int} (ht : ¬ thereD d x) : endE d x = 6 := by
  unfold endE
  rw [if_neg (Classical.not_not.2 h), if_neg ht]
theorem res_of (h : okDisk d) {s : Strt} (hs : s ∈ d.begun) : endE d s.read = 0 ∧ resS d s.read = s ∧ resT d s.read = tapeS d.seed s := by
  have he : endE d s.read = 0 := (end_eq h).2 ⟨s, hs, rfl⟩
  exact ⟨he, by unfold resS; rw [if_pos he, get_at h hs], by unfold resT; rw [if_pos he, get_at h hs]⟩
theorem end_P {x : Int} (h : endE d x = 0) : endD d x = ⟨d.seed, d.drawn, d.begun.take (atD d x) ++ d.begun.drop (atD d x + 1)⟩ := if_pos h
theorem end_seed {x : Int} : (endD d x).seed = d.seed := by unfold endD; split <;> rfl
theorem end_drawn {x : Int} : (endD d x).drawn = d.drawn := by unfold endD; split <;> rfl
theorem end_sub {x : Int} : (endD d x).begun.Sublist d.begun := by
  unfold endD
  split
  · simp only
    conv => rhs; rw [← List.take_append_drop (atD d x) d.begun]
    refine List.Sublist.append (List.Sublist.refl _) ?_
    rw [← List.drop_drop]
    exact List.drop_sublist ..
  · exact List.Sublist.refl _
theorem end_ok {x : Int} (h : okDisk d) : okDisk (endD d x) := by
  have hr := rowsD_of h
  refine okDisk_of (by rw [end_seed]; exact h.seed) (by rw [end_drawn]; exact h.drawn) (Nat.le_trans end_sub.length_le h.most) ⟨fun s hs => ?_, hr.asc.sublist end_sub⟩
  rw [end_drawn]
  exact hr.elt s (end_sub.subset hs)
theorem end_perm {x : Int} (h : okDisk d) (hc : endE d x = 0) : d.begun.Perm (d.begun[atD d x]?.getD default :: (endD d x).begun) := by
  have ha := there_atD h ((end_eq h).1 hc)
  rw [end_P hc]
  simp only
  conv => lhs; rw [← List.take_append_drop (atD d x) d.begun]
  have e : d.begun[atD d x]?.getD default = d.begun[atD d x]'ha.1 := by simp [ha.1]
  rw [List.drop_eq_getElem_cons ha.1]
  exact List.perm_middle.trans (.of_eq (congrArg (· :: _) e.symm))
theorem end_len {x : Int} (h : okDisk d) (hc : endE d x = 0) : (endD d x).begun.length + 1 = d.begun.length := by rw [(end_perm h hc).length_eq]; rfl
theorem reads_inj (h : okDisk d) {a b : Strt} (ha : a ∈ d.begun) (hb : b ∈ d.begun) (e : a.read = b.read) : a = b := by
  rw [← get_at h ha, ← get_at h hb, e]
theorem end_mem {x : Int} (h : okDisk d) (hc : endE d x = 0) {r : Strt} : r ∈ (endD d x).begun ↔ r ∈ d.begun ∧ r.read ≠ x := by
  have ha := there_atD h ((end_eq h).1 hc)
  have hp := end_perm h hc
  have hnd : (d.begun[atD d x]?.getD default :: (endD d x).begun).Pairwise fun a b => a.read ≠ b.read :=
    (hp.pairwise_iff (fun {a b} (hab : a.read ≠ b.read) => Ne.symm hab)).1 ((rowsD_of h).asc.imp fun hab => by omega)
  rw [List.pairwise_cons] at hnd
  constructor
  · intro hr
    exact ⟨end_sub.subset hr, fun e => hnd.1 r hr (by rw [ha.2, e])⟩
  · rintro ⟨hr, hne⟩
    rcases List.mem_cons.1 (hp.mem_iff.1 hr) with rfl | hr
    · exact absurd ha.2 hne
    · exact hr

theorem meet_symm {a b : Strt} (h : ¬ meetS a b) : ¬ meetS b a := fun hc => h ⟨hc.2.1, hc.1, hc.2.2.2, hc.2.2.1⟩
theorem apart_iff : apartD d ↔ d.begun.Pairwise fun a b => ¬ meetS a b := by
  rw [List.pairwise_iff_getElem]
  constructor
  · intro h a b ha hb hab
    have := h b hb a hab
    rw [List.getElem?_eq_getElem ha, List.getElem?_eq_getElem hb] at this
    exact meet_symm this
  · intro h i hi k hk
    have := h k i (by omega) hi hk
    rw [List.getElem?_eq_getElem hi, List.getElem?_eq_getElem (by omega)]
    exact meet_symm this
theorem begin_apart (h : okDisk d) (ha : apartD d) : apartD (beginD d u v p n) := by
  by_cases he : beginE d u v p n = 0
  · rw [apart_iff, (begin_perm he).pairwise_iff meet_symm, List.pairwise_cons]
    refine ⟨fun b hb hm => ?_, apart_iff.1 ha⟩
    have := ((rowsD_of h).elt b hb).n
    have := hm.2.2.1
    simp only at this
    omega
  · rw [begin_err he]; exact ha
theorem end_apart {x : Int} (ha : apartD d) : apartD (endD d x) := apart_iff.2 ((apart_iff.1 ha).sublist end_sub)
theorem new_apart (s : Int) : apartD ⟨s, 0, []⟩ := fun i hi => by simp at hi

theorem sane36 : newDE 5 = 0 ∧ okDisk (newD 5) ∧ beginE (newD 5) 1 1 7 3 = 0 ∧ beginE (beginD (newD 5) 1 1 7 3) 2 1 7 4 = 0 ∧ endE (beginD (beginD (newD 5) 1 1 7 3) 2 1 7 4) 2 = 0 ∧
    (beginT (newD 5) 1 1 7 3).numbers.length = 3 ∧ (beginT (beginD (newD 5) 1 1 7 3) 2 1 7 4).numbers.length = 4 ∧ (resS (beginD (beginD (newD 5) 1 1 7 3) 2 1 7 4) 2).from' = 3 ∧
    beginT (beginD (newD 5) 1 1 7 3) 2 1 7 4 = resT (beginD (beginD (newD 5) 1 1 7 3) 2 1 7 4) 2 ∧ (beginD (beginD (newD 5) 1 1 7 3) 2 1 7 4).drawn = 7 ∧ apartD (beginD (beginD (newD 5) 1 1 7 3) 2 1 7 4) := by
  obtain ⟨h0, hn, h1⟩ := newD_ok (s := 5) (by omega)
  have t1 : ¬ thereD (newD 5) 1 := by rw [hn]; rintro ⟨s, hs, _⟩; simp at hs
  have e1 := begin_eq (v := 1) (p := 7) (n := 3) h1 (by omega) (by omega) (by omega) (by omega) t1
  rw [if_neg (by rw [hn]; simp)] at e1
  have h2 := begin_ok (u := 1) (v := 1) (p := 7) (n := 3) h1
  have t2 : ¬ thereD (beginD (newD 5) 1 1 7 3) 2 := by rw [begin_there_iff e1, hn]; rintro (h | ⟨s, hs, _⟩); (· omega); (· simp at hs)
  have e2 := begin_eq (v := 1) (p := 7) (n := 4) h2 (by omega) (by omega) (by omega) (by omega) t2
  rw [if_neg (by rw [begin_len e1, begin_drawn e1, hn]; simp)] at e2
  have h3 := begin_ok (u := 2) (v := 1) (p := 7) (n := 4) h2
  have hr := res_of h3 ((begin_mem e2).2 (.inl rfl))
  have hd : (beginD (newD 5) 1 1 7 3).drawn = 3 := by rw [begin_drawn e1, hn]; rfl
  refine ⟨h0, h1, e1, e2, hr.1, ?_, ?_, ?_, ?_, ?_, ?_⟩
  · rw [begin_T e1, tapeS_len]; rfl
  · rw [begin_T e2, tapeS_len]; rfl
  · rw [show resS (beginD (beginD (newD 5) 1 1 7 3) 2 1 7 4) 2 = _ from hr.2.1]; exact hd
  · rw [begin_T e2, show resT (beginD (beginD (newD 5) 1 1 7 3) 2 1 7 4) 2 = _ from hr.2.2]; simp only [begin_seed]
  · rw [begin_drawn e2, hd]; rfl
  · refine begin_apart h2 (begin_apart h1 ?_)
    rw [hn]
    exact new_apart 5

end Go.Q
