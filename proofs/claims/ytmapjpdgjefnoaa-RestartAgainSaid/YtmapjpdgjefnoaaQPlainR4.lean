/- Reads that begin, end and are taken up again; plain mathematics, no program. -/
import Derived.Test.YtmapjpdgjefnoaaQPlainR3
set_option linter.unusedVariables false
set_option linter.unusedSimpArgs false
namespace Go.Q
open Classical

structure againI (x : Disk) (ts : List Tape) (op : List Prop) : Prop where
  ok : okDisk x
  apart : apartD x
  tl : ts.length = 8
  ol : op.length = 8
  th : ∀ k : Nat, k < 8 → (op[k]?.getD default ↔ thereD x k)
  tp : ∀ k : Nat, k < 8 → thereD x k → resT x k = ts[k]?.getD default
  lt : ∀ s ∈ x.begun, s.read < 8

theorem pair_few : ∀ {l : List Strt} {m k : Int}, l.Pairwise (fun a b => a.read < b.read) → (∀ s ∈ l, m ≤ s.read ∧ s.read < k) → (l.length : Int) ≤ max (k - m) 0
  | [], m, k, _, _ => by simp; omega
  | s :: l, m, k, h, hb => by
    rw [List.pairwise_cons] at h
    have hs := hb s (List.mem_cons_self ..)
    have := pair_few (m := s.read + 1) h.2 (fun q hq => ⟨by have := h.1 q hq; omega, (hb q (List.mem_cons_of_mem _ hq)).2⟩)
    simp only [List.length_cons]
    omega
theorem again_few {x : Disk} {ts : List Tape} {op : List Prop} (h : againI x ts op) : x.begun.length ≤ 8 := by
  have hr := rowsD_of h.ok
  have := pair_few (m := 0) (k := 8) hr.asc (fun s hs => ⟨(hr.elt s hs).read, h.lt s hs⟩)
  omega

theorem again_new {s : Int} (h : 1 ≤ s ∧ s ≤ 2147483646) : againI (newD s) (List.replicate 8 ⟨[], 0⟩) (List.replicate 8 False) := by
  obtain ⟨_, hn, h1⟩ := newD_ok h
  have hno : ∀ y, ¬ thereD (newD s) y := by rw [hn]; rintro y ⟨q, hq, _⟩; simp at hq
  refine ⟨h1, by rw [hn]; exact new_apart s, by simp, by simp, fun k hk => ?_, fun k hk ht => absurd ht (hno _), by rw [hn]; intro q hq; simp at hq⟩
  rw [List.getElem?_replicate, if_pos hk]
  exact ⟨fun hf => hf.elim, fun ht => absurd ht (hno _)⟩

variable {x : Disk} {ts : List Tape} {op : List Prop} {k : Nat}
theorem getD_set_neP {α : Type} [Inhabited α] {l : List α} {i j : Nat} {y : α} (h : i ≠ j) : (l.set i y)[j]?.getD default = l[j]?.getD default := by rw [List.getElem?_set_ne h]
theorem getD_set_selfP {α : Type} [Inhabited α] {l : List α} {i : Nat} {y : α} (h : i < l.length) : (l.set i y)[i]?.getD default = y := by rw [List.getElem?_set_self h]; rfl
theorem there_end (h : okDisk x) {u y : Int} (he : endE x u = 0) : thereD (endD x u) y ↔ thereD x y ∧ y ≠ u := by
  constructor
  · rintro ⟨s, hs, rfl⟩
    have := (end_mem h he).1 hs
    exact ⟨⟨s, this.1, rfl⟩, this.2⟩
  · rintro ⟨⟨s, hs, rfl⟩, hne⟩
    exact ⟨s, (end_mem h he).2 ⟨hs, hne⟩, rfl⟩
theorem again_end (h : againI x ts op) (hk : k < 8) (ho : op[k]?.getD default) : endE x k = 0 ∧ againI (endD x k) ts (op.set k False) := by
  have he : endE x k = 0 := (end_eq h.ok).2 ((h.th k hk).1 ho)
  refine ⟨he, end_ok h.ok, end_apart h.apart, h.tl, by rw [List.length_set]; exact h.ol, fun j hj => ?_, fun j hj ht => ?_, fun s hs => h.lt s (end_sub.subset hs)⟩
  · rw [there_end h.ok he]
    by_cases e : j = k
    · subst e
      rw [getD_set_selfP (by rw [h.ol]; exact hk)]
      exact ⟨fun hf => hf.elim, fun hc => hc.2 rfl⟩
    · rw [getD_set_neP (Ne.symm e), h.th j hj]
      exact ⟨fun ht => ⟨ht, by omega⟩, fun ht => ht.1⟩
  · have ht' := (there_end h.ok he).1 ht
    obtain ⟨s, hs, hr⟩ := ht'.1
    have h1 := res_of h.ok hs
    have h2 := res_of (end_ok (x := k) h.ok) ((end_mem h.ok he).2 ⟨hs, by rw [hr]; exact ht'.2⟩)
    rw [hr] at h1 h2
    rw [h2.2.2, end_seed, ← h.tp j hj ht'.1, h1.2.2]
theorem again_begin (h : againI x ts op) (hk : k < 8) {v p m : Int} (hb : beginE x k v p m = 0) : againI (beginD x k v p m) (ts.set k (beginT x k v p m)) (op.set k True) := by
  have hok := begin_ok (u := k) (v := v) (p := p) (n := m) h.ok
  refine ⟨hok, begin_apart h.ok h.apart, by rw [List.length_set]; exact h.tl, by rw [List.length_set]; exact h.ol, fun j hj => ?_, fun j hj ht => ?_, fun s hs => ?_⟩
  · rw [begin_there_iff hb]
    by_cases e : j = k
    · subst e
      rw [getD_set_selfP (by rw [h.ol]; exact hk)]
      exact ⟨fun _ => .inl rfl, fun _ => trivial⟩
    · rw [getD_set_neP (Ne.symm e), h.th j hj]
      exact ⟨fun ht => .inr ht, fun ht => ht.resolve_left (by omega)⟩
  · by_cases e : j = k
    · subst e
      rw [getD_set_selfP (by rw [h.tl]; exact hk)]
      have h2 := res_of hok ((begin_mem hb).2 (.inl rfl))
      rw [begin_T hb, show resT (beginD x j v p m) j = _ from h2.2.2, begin_seed]
    · rw [getD_set_neP (Ne.symm e)]
      have ht' : thereD x j := ((begin_there_iff hb).1 ht).resolve_left (by omega)
      obtain ⟨s, hs, hr⟩ := ht'
      have h1 := res_of h.ok hs
      have h2 := res_of hok ((begin_mem hb).2 (.inr hs))
      rw [hr] at h1 h2
      rw [h2.2.2, begin_seed, ← h.tp j hj ⟨s, hs, hr⟩, h1.2.2]
  · rcases (begin_mem hb).1 hs with rfl | hs
    · simp only; omega
    · exact h.lt s hs

end Go.Q
