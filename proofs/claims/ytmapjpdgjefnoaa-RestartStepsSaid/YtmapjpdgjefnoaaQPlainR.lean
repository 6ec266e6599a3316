/- Disks and their tapes; plain mathematics, no program. -/
import Derived.Test.YtmapjpdgjefnoaaQPlainP
set_option linter.unusedVariables false
set_option linter.unusedSimpArgs false
namespace Go.Q
open Classical

def strOk (d : Disk) (j : Nat) : Prop :=
  0 ≤ (d.begun[j]?.getD default).read ∧ (0 < j → (d.begun[j - 1]?.getD default).read < (d.begun[j]?.getD default).read) ∧ 1 ≤ (d.begun[j]?.getD default).version ∧ (d.begun[j]?.getD default).version ≤ 2147483646 ∧
  2 ≤ (d.begun[j]?.getD default).p ∧ (d.begun[j]?.getD default).p ≤ 65521 ∧ 0 ≤ (d.begun[j]?.getD default).draws ∧ (d.begun[j]?.getD default).draws ≤ d.drawn ∧ 0 ≤ (d.begun[j]?.getD default).from' ∧ (d.begun[j]?.getD default).from' ≤ d.drawn - (d.begun[j]?.getD default).draws
structure okDisk (d : Disk) : Prop where
  seed : 1 ≤ d.seed ∧ d.seed ≤ 2147483646
  drawn : 0 ≤ d.drawn ∧ d.drawn ≤ 16384
  most : d.begun.length ≤ 64
  each : ∀ j, j < d.begun.length → strOk d j
def lastR (l : List Strt) (k : Nat) : Int := if k = 0 then -1 else (l[k - 1]?.getD default).read

/-- The numbers that a seed gives. -/
def lcg (s : Int) : Int := s * 48271 % 2147483647
def it : Nat → Int → Int
  | 0, s => s
  | k + 1, s => lcg (it k s)
def nums : Int → List Int → List Int
  | _, [] => []
  | s, l :: ls => lcg s % l :: nums (lcg s) ls
theorem it_lcg : ∀ (k : Nat) (s : Int), it k (lcg s) = lcg (it k s)
  | 0, _ => rfl
  | k + 1, s => by simp only [it, it_lcg k s]
theorem nums_app : ∀ (s : Int) (xs ys : List Int), nums s (xs ++ ys) = nums s xs ++ nums (it xs.length s) ys
  | _, [], _ => rfl
  | s, x :: xs, ys => by simp only [List.cons_append, nums, nums_app (lcg s) xs ys, List.length_cons, it, it_lcg]
theorem nums_len : ∀ (s : Int) (xs : List Int), (nums s xs).length = xs.length
  | _, [] => rfl
  | s, x :: xs => by simp only [nums, List.length_cons, nums_len (lcg s) xs]
theorem nums_take (s : Int) {xs : List Int} {k : Nat} (h : k < xs.length) : nums s (xs.take (k + 1)) = nums s (xs.take k) ++ [it (k + 1) s % (xs[k]?.getD default)] := by
  rw [take_snoc h, nums_app]
  simp only [nums, List.length_take, Nat.min_eq_left (show k ≤ xs.length by omega), it]
theorem it_bd {s : Int} (h : 1 ≤ s ∧ s < 2147483647) : ∀ k, 0 ≤ it k s ∧ it k s < 2147483647
  | 0 => by simp only [it]; omega
  | k + 1 => by simp only [it, lcg]; omega
theorem nums_drop {s : Int} {xs ys : List Int} : (nums s (xs ++ ys)).drop xs.length = nums (it xs.length s) ys := by
  rw [nums_app, show xs.length = (nums s xs).length from (nums_len s xs).symm, List.drop_left]

def okLim (ls : List Int) : Prop := ls.length ≤ 16384 ∧ ∀ l ∈ ls, 1 ≤ l ∧ l ≤ 2147483647
noncomputable def seededE (s : Int) (ls : List Int) : Int := if s < 1 ∨ 2147483647 ≤ s then 1 else if ¬ okLim ls then 4 else 0
noncomputable def seededT (s : Int) (ls : List Int) : Tape := if seededE s ls = 0 then ⟨nums s ls, 0⟩ else ⟨[], 0⟩
def limsS (s : Strt) : List Int := List.replicate s.from'.toNat 1 ++ List.replicate s.draws.toNat s.p
def tapeS (seed : Int) (s : Strt) : Tape := ⟨nums (it s.from'.toNat seed) (List.replicate s.draws.toNat s.p), 0⟩
/-- What a read's tape needs. -/
structure okS (seed : Int) (s : Strt) : Prop where
  seed : 1 ≤ seed ∧ seed ≤ 2147483646
  p : 2 ≤ s.p ∧ s.p ≤ 65521
  f : 0 ≤ s.from' ∧ s.from' ≤ 16384
  n : 0 ≤ s.draws ∧ s.from' + s.draws ≤ 16384
theorem okLim_S {seed : Int} {s : Strt} (h : okS seed s) : okLim (limsS s) := by
  have := h.f; have := h.n; have := h.p
  refine ⟨by simp [limsS]; omega, fun l hl => ?_⟩
  rcases List.mem_append.1 hl with hl | hl <;> (have := List.eq_of_mem_replicate hl; omega)
theorem seeded_S {seed : Int} {s : Strt} (h : okS seed s) : seededE seed (limsS s) = 0 ∧ (seededT seed (limsS s)).numbers.drop s.from'.toNat = (tapeS seed s).numbers ∧ s.from'.toNat ≤ (seededT seed (limsS s)).numbers.length := by
  have h1 : seededE seed (limsS s) = 0 := by unfold seededE; rw [if_neg (by have := h.seed; omega), if_neg (Classical.not_not.2 (okLim_S h))]
  refine ⟨h1, ?_, ?_⟩
  · unfold seededT
    rw [if_pos h1]
    have := nums_drop (s := seed) (xs := List.replicate s.from'.toNat 1) (ys := List.replicate s.draws.toNat s.p)
    simpa [limsS, tapeS] using this
  · unfold seededT
    rw [if_pos h1]
    simp only [nums_len, limsS, List.length_append, List.length_replicate]
    omega
theorem tapeS_len (seed : Int) (s : Strt) : (tapeS seed s).numbers.length = s.draws.toNat := by simp [tapeS, nums_len]
theorem nums_bd : ∀ (s p : Int) (n : Nat), 0 < p → ∀ x ∈ nums s (List.replicate n p), 0 ≤ x ∧ x < p
  | _, _, 0, _, x, hx => by simp [nums] at hx
  | s, p, n + 1, hp, x, hx => by
    rw [List.replicate_succ] at hx
    simp only [nums, List.mem_cons] at hx
    rcases hx with rfl | hx
    · exact ⟨Int.emod_nonneg _ (by omega), Int.emod_lt_of_pos _ hp⟩
    · exact nums_bd _ p n hp x hx

def newDE (s : Int) : Int := if s < 1 ∨ 2147483647 ≤ s then 1 else 0
def newD (s : Int) : Disk := if s < 1 ∨ 2147483647 ≤ s then ⟨0, 0, []⟩ else ⟨s, 0, []⟩
def thereD (d : Disk) (r : Int) : Prop := ∃ s ∈ d.begun, s.read = r
noncomputable def atD (d : Disk) (r : Int) : Nat := lead (fun s : Strt => s.read < r) d.begun
noncomputable def beginE (d : Disk) (r v p n : Int) : Int := if ¬ okDisk d then 2 else if r < 0 ∨ v < 1 ∨ 2147483646 < v ∨ p < 2 ∨ 65521 < p ∨ n < 0 then 1 else if thereD d r then 7 else if 64 ≤ d.begun.length ∨ 16384 - d.drawn < n then 4 else 0
abbrev beginS (d : Disk) (r v p n : Int) : Strt := ⟨r, v, p, d.drawn, n⟩
noncomputable def beginD (d : Disk) (r v p n : Int) : Disk := if beginE d r v p n = 0 then ⟨d.seed, d.drawn + n, d.begun.take (atD d r) ++ [beginS d r v p n] ++ d.begun.drop (atD d r)⟩ else d
noncomputable def beginT (d : Disk) (r v p n : Int) : Tape := if beginE d r v p n = 0 then tapeS d.seed (beginS d r v p n) else ⟨[], 0⟩
noncomputable def endE (d : Disk) (r : Int) : Int := if ¬ okDisk d then 2 else if thereD d r then 0 else 6
noncomputable def resS (d : Disk) (r : Int) : Strt := if endE d r = 0 then d.begun[atD d r]?.getD default else ⟨0, 0, 0, 0, 0⟩
noncomputable def resT (d : Disk) (r : Int) : Tape := if endE d r = 0 then tapeS d.seed (d.begun[atD d r]?.getD default) else ⟨[], 0⟩
noncomputable def endD (d : Disk) (r : Int) : Disk := if endE d r = 0 then ⟨d.seed, d.drawn, d.begun.take (atD d r) ++ d.begun.drop (atD d r + 1)⟩ else d

theorem reads_lt {d : Disk} (h : okDisk d) : ∀ b, b < d.begun.length → ∀ a, a < b → (d.begun[a]?.getD default).read < (d.begun[b]?.getD default).read := by
  intro b
  induction b with
  | zero => intro _ a ha; omega
  | succ b ih =>
    intro hb a ha
    have h1 := (h.each (b + 1) hb).2.1 (by omega)
    rw [Nat.add_sub_cancel] at h1
    by_cases e : a = b
    · subst e; exact h1
    · have := ih (by omega) a (by omega); omega
theorem find_disk {d : Disk} (h : okDisk d) (r : Int) : bsGo (fun h => cmpI (d.begun[h]?.getD default).read r < 0) 0 d.begun.length = atD d r ∧ ((atD d r < d.begun.length ∧ cmpI (d.begun[atD d r]?.getD default).read r = 0) ↔ thereD d r) :=
  find_sorted (key := Strt.read) (reads_lt h) r
theorem atD_le (d : Disk) (r : Int) : atD d r ≤ d.begun.length := lead_le _ _
theorem there_atD {d : Disk} (h : okDisk d) {r : Int} (ht : thereD d r) : atD d r < d.begun.length ∧ (d.begun[atD d r]?.getD default).read = r := by
  have := (find_disk h r).2.2 ht
  exact ⟨this.1, cmpI_zero.1 this.2⟩
theorem atD_of {d : Disk} (h : okDisk d) {r : Int} {i : Nat} (hi : i < d.begun.length) (hs : (d.begun[i]?.getD default).read = r) : atD d r = i ∧ thereD d r := by
  subst hs
  refine ⟨lead_at (by omega) (fun j hj => reads_lt h i hi j hj) (.inr (Int.lt_irrefl _)), d.begun[i]?.getD default, ?_, rfl⟩
  rw [List.getElem?_eq_getElem hi]
  exact List.getElem_mem ..
theorem okS_of {d : Disk} (h : okDisk d) {i : Nat} (hi : i < d.begun.length) : okS d.seed (d.begun[i]?.getD default) := by
  obtain ⟨_, _, _, _, _, _, _, _, _, _⟩ := h.each i hi
  have := h.drawn
  exact ⟨h.seed, ⟨by assumption, by assumption⟩, ⟨by assumption, by omega⟩, ⟨by assumption, by omega⟩⟩

def meetS (a b : Strt) : Prop := 0 < a.draws ∧ 0 < b.draws ∧ a.from' < b.from' + b.draws ∧ b.from' < a.from' + a.draws
def apartD (d : Disk) : Prop := ∀ i, i < d.begun.length → ∀ k, k < i → ¬ meetS (d.begun[i]?.getD default) (d.begun[k]?.getD default)
theorem Disk.ext' {a b : Disk} (h1 : a.seed = b.seed) (h2 : a.drawn = b.drawn) (h3 : a.begun = b.begun) : a = b := by cases a; cases b; simp_all
theorem Tape.ext' {a b : Tape} (h1 : a.numbers = b.numbers) (h2 : a.at' = b.at') : a = b := by cases a; cases b; simp_all

end Go.Q
