/- Limits that are written one by one; plain mathematics, no program. -/
import Derived.Test.YtmapjpdgjefnoaaQPlainR2
set_option linter.unusedVariables false
set_option linter.unusedSimpArgs false
namespace Go.Q
open Classical

noncomputable def setL1 (a p : Int) (l : List Int) : Nat → List Int
  | 0 => l
  | k + 1 => if a ≤ k then ((setL1 a p l k).set k 1).set k p else (setL1 a p l k).set k 1
theorem setL1_len (a p : Int) (l : List Int) : ∀ k, (setL1 a p l k).length = l.length
  | 0 => rfl
  | k + 1 => by simp only [setL1]; split <;> simp [setL1_len a p l k]
theorem setL1_get (a p : Int) (l : List Int) : ∀ k, k ≤ l.length → ∀ j, j < k → (setL1 a p l k)[j]?.getD default = if a ≤ j then p else 1
  | 0, _, j, h => by omega
  | k + 1, hk, j, h => by
    have hl := setL1_len a p l k
    simp only [setL1]
    by_cases e : j = k
    · subst e
      split
      · rw [List.getElem?_set_self (by simp; omega)]; rfl
      · rw [List.getElem?_set_self (by omega)]; rfl
    · have ih := setL1_get a p l k (by omega) j (by omega)
      split
      · rw [List.getElem?_set_ne (Ne.symm e), List.getElem?_set_ne (Ne.symm e)]; exact ih
      · rw [List.getElem?_set_ne (Ne.symm e)]; exact ih
theorem setL1_all {a b p : Int} (ha : 0 ≤ a) (hb : 0 ≤ b) : setL1 a p (List.replicate (a + b).toNat 0) (a + b).toNat = List.replicate a.toNat 1 ++ List.replicate b.toNat p := by
  have hl := setL1_len a p (List.replicate (a + b).toNat 0) (a + b).toNat
  simp only [List.length_replicate] at hl
  refine list_extD (by rw [hl]; simp; omega) fun j hj => ?_
  rw [hl] at hj
  rw [setL1_get _ _ _ _ (by simp) j hj]
  split
  · rw [List.getElem?_append_right (by simp; omega), List.getElem?_replicate, if_pos (by simp; omega)]; rfl
  · rw [List.getElem?_append_left (by simp; omega), List.getElem?_replicate, if_pos (by omega)]; rfl
theorem drop_getD {α : Type} [Inhabited α] (l : List α) (a k : Nat) : (l.drop a)[k]?.getD default = l[a + k]?.getD default := by rw [List.getElem?_drop]

/-- What a law about tapes needs. -/
theorem tapes_of {seed p a b : Int} (hs : 1 ≤ seed ∧ seed ≤ 2147483646) (hp : 2 ≤ p ∧ p ≤ 65521) (ha : 0 ≤ a ∧ a ≤ 100) (hb : 0 ≤ b ∧ b ≤ 100) :
    newDE seed = 0 ∧ okDisk (newD seed) ∧ beginE (newD seed) 0 1 3 a = 0 ∧ okDisk (beginD (newD seed) 0 1 3 a) ∧ beginE (beginD (newD seed) 0 1 3 a) 1 1 p b = 0 ∧ (beginT (beginD (newD seed) 0 1 3 a) 1 1 p b).numbers.length = b.toNat ∧
    seededE seed (List.replicate a.toNat 1 ++ List.replicate b.toNat p) = 0 ∧ (seededT seed (List.replicate a.toNat 1 ++ List.replicate b.toNat p)).numbers.drop a.toNat = (beginT (beginD (newD seed) 0 1 3 a) 1 1 p b).numbers ∧
    (seededT seed (List.replicate a.toNat 1 ++ List.replicate b.toNat p)).numbers.length = a.toNat + b.toNat := by
  obtain ⟨h0, hn, h1⟩ := newD_ok hs
  have t1 : ¬ thereD (newD seed) 0 := by rw [hn]; rintro ⟨s, hs, _⟩; simp at hs
  have e1 := begin_eq (v := 1) (p := 3) (n := a) h1 (by omega) (by omega) (by omega) (by omega) t1
  rw [if_neg (by rw [hn]; simp; omega)] at e1
  have h2 := begin_ok (u := 0) (v := 1) (p := 3) (n := a) h1
  have t2 : ¬ thereD (beginD (newD seed) 0 1 3 a) 1 := by rw [begin_there_iff e1, hn]; rintro (h | ⟨s, hs, _⟩); (· omega); (· simp at hs)
  have hd : (beginD (newD seed) 0 1 3 a).drawn = a := by rw [begin_drawn e1, hn]; simp
  have e2 := begin_eq (v := 1) (p := p) (n := b) h2 (by omega) (by omega) hp (by omega) t2
  rw [if_neg (by rw [begin_len e1, hd, hn]; simp; omega)] at e2
  have hse : (beginD (newD seed) 0 1 3 a).seed = seed := by rw [begin_seed, hn]
  have hB : beginS (beginD (newD seed) 0 1 3 a) 1 1 p b = ⟨1, 1, p, a, b⟩ := by show (⟨1, 1, p, (beginD (newD seed) 0 1 3 a).drawn, b⟩ : Strt) = _; rw [hd]
  have hok : okS seed (beginS (beginD (newD seed) 0 1 3 a) 1 1 p b) := by rw [hB]; exact ⟨hs, hp, by simp only; omega, by simp only; omega⟩
  have hS := seeded_S hok
  rw [hB] at hS
  unfold limsS at hS
  simp only at hS
  have hT : (beginT (beginD (newD seed) 0 1 3 a) 1 1 p b).numbers = (tapeS seed (beginS (beginD (newD seed) 0 1 3 a) 1 1 p b)).numbers := by rw [begin_T e2, hse]
  have hlen : (beginT (beginD (newD seed) 0 1 3 a) 1 1 p b).numbers.length = b.toNat := by rw [hT, tapeS_len]
  rw [hB] at hT
  have hdr : (seededT seed (List.replicate a.toNat 1 ++ List.replicate b.toNat p)).numbers.drop a.toNat = (beginT (beginD (newD seed) 0 1 3 a) 1 1 p b).numbers := by rw [hT]; exact hS.2.1
  refine ⟨h0, h1, e1, h2, e2, hlen, hS.1, hdr, ?_⟩
  have := congrArg List.length hdr
  rw [List.length_drop, hlen] at this
  have := hS.2.2
  omega

theorem begin_drawn_le {d : Disk} {u v p n : Int} (hn : 0 ≤ n) : (beginD d u v p n).drawn ≤ d.drawn + n := by
  by_cases he : beginE d u v p n = 0
  · rw [begin_drawn he]; exact Int.le_refl _
  · rw [begin_err he]; omega

/-- What dice make. -/
structure diceD (m : Int) (x : Disk) : Prop where
  ok : okDisk x
  apart : apartD x
  few : x.drawn ≤ m
theorem diceD_new {s : Int} (h : 1 ≤ s ∧ s ≤ 2147483646) : diceD 0 (newD s) := by
  obtain ⟨_, hn, h1⟩ := newD_ok h
  refine ⟨h1, ?_, ?_⟩
  · rw [hn]; exact new_apart s
  · rw [hn]; exact Int.le_refl _
theorem diceD_begin {m k u v p n : Int} {x : Disk} (h : diceD m x) (hn : 0 ≤ n ∧ m + n ≤ k) : diceD k (beginD x u v p n) :=
  ⟨begin_ok h.ok, begin_apart h.ok h.apart, by have := begin_drawn_le (d := x) (u := u) (v := v) (p := p) (n := n) hn.1; have := h.few; omega⟩
theorem diceD_end {m u : Int} {x : Disk} (h : diceD m x) : diceD m (endD x u) := ⟨end_ok h.ok, end_apart h.apart, by rw [end_drawn]; exact h.few⟩

end Go.Q
