/- Pins; plain mathematics, no program. -/
import Derived.Test.YtmapjpdgjefnoaaQOwn3
set_option linter.unusedVariables false
set_option linter.unusedSimpArgs false
namespace Go.Q
open Classical

def keptOk (l : List Int) (j : Nat) : Prop := 1 ≤ l[j]?.getD default ∧ l[j]?.getD default ≤ 2147483646 ∧ (0 < j → l[j - 1]?.getD default < l[j]?.getD default)
def rowOk (kept : List Int) (l : List Pn) (j : Nat) : Prop := 0 ≤ (l[j]?.getD default).session ∧ (0 < j → (l[j - 1]?.getD default).session < (l[j]?.getD default).session) ∧ (l[j]?.getD default).version ∈ kept
structure okPins (p : Pins) : Prop where
  one : 1 ≤ p.kept.length
  most : p.kept.length ≤ 16
  reads : p.rows.length ≤ 64
  kept : ∀ j, j < p.kept.length → keptOk p.kept j
  rows : ∀ j, j < p.rows.length → rowOk p.kept p.rows j
def lastK (l : List Int) (k : Nat) : Int := if k = 0 then 0 else l[k - 1]?.getD default
def lastS (l : List Pn) (k : Nat) : Int := if k = 0 then -1 else (l[k - 1]?.getD default).session
def newestP (p : Pins) : Int := p.kept[p.kept.length - 1]?.getD default
noncomputable def namedP (p : Pins) (v : Int) : Nat := cntP (fun r : Pn => r.version = v) p.rows
def newE (v : Int) : Int := if v < 1 ∨ 2147483647 ≤ v then 1 else 0
def newP (v : Int) : Pins := if v < 1 ∨ 2147483647 ≤ v then ⟨[], []⟩ else ⟨[], [v]⟩

noncomputable def pubE (p : Pins) (v : Int) : Int := if ¬ okPins p then 2 else if v ≤ newestP p ∨ 2147483647 ≤ v then 46 else if 16 ≤ p.kept.length then 4 else 0
noncomputable def pubP (p : Pins) (v : Int) : Pins := if pubE p v = 0 then ⟨p.rows, p.kept ++ [v]⟩ else p

def thereP (p : Pins) (s : Int) : Prop := ∃ r ∈ p.rows, r.session = s
noncomputable def atP (p : Pins) (s : Int) : Nat := lead (fun r : Pn => r.session < s) p.rows
noncomputable def openE (p : Pins) (s : Int) : Int := if ¬ okPins p then 2 else if s < 0 then 1 else if thereP p s then 7 else if 64 ≤ p.rows.length then 4 else 0
noncomputable def openP (p : Pins) (s : Int) : Pins := if openE p s = 0 then ⟨p.rows.take (atP p s) ++ [⟨s, newestP p⟩] ++ p.rows.drop (atP p s), p.kept⟩ else p
noncomputable def openV (p : Pins) (s : Int) : Int := if openE p s = 0 then newestP p else 0
noncomputable def closeE (p : Pins) (s : Int) : Int := if ¬ okPins p then 2 else if thereP p s then 0 else 6
noncomputable def closeP (p : Pins) (s : Int) : Pins := if closeE p s = 0 then ⟨p.rows.take (atP p s) ++ p.rows.drop (atP p s + 1), p.kept⟩ else p
def goesP (p : Pins) (v : Int) : Prop := v ≠ newestP p ∧ namedP p v = 0
noncomputable def collP (p : Pins) : Pins := ⟨p.rows, flt (fun v => ¬ goesP p v) p.kept⟩
noncomputable def goneP (p : Pins) : List Int := flt (goesP p) p.kept

/-- Rows in order. -/
theorem rows_lt {kept : List Int} {l : List Pn} (h : ∀ j, j < l.length → rowOk kept l j) : ∀ b, b < l.length → ∀ a, a < b → (l[a]?.getD default).session < (l[b]?.getD default).session := by
  intro b
  induction b with
  | zero => intro _ a ha; omega
  | succ b ih =>
    intro hb a ha
    have h1 := (h (b + 1) hb).2.1 (by omega)
    rw [Nat.add_sub_cancel] at h1
    by_cases e : a = b
    · subst e; exact h1
    · have := ih (by omega) a (by omega); omega

theorem kept_lt {l : List Int} (h : ∀ j, j < l.length → keptOk l j) : ∀ b, b < l.length → ∀ a, a < b → l[a]?.getD default < l[b]?.getD default := by
  intro b
  induction b with
  | zero => intro _ a ha; omega
  | succ b ih =>
    intro hb a ha
    have h1 := (h (b + 1) hb).2.2 (by omega)
    rw [Nat.add_sub_cancel] at h1
    by_cases e : a = b
    · subst e; exact h1
    · have := ih (by omega) a (by omega); omega

theorem cmpI_neg {x y : Int} : cmpI x y < 0 ↔ x < y := by unfold cmpI; split <;> (try split) <;> omega
theorem cmpI_zero {x y : Int} : cmpI x y = 0 ↔ x = y := by unfold cmpI; split <;> (try split) <;> omega

/-- In a row in ascending order, a number is found where it belongs. -/
theorem find_sorted {α : Type} [Inhabited α] {key : α → Int} {l : List α} (h : ∀ b, b < l.length → ∀ a, a < b → key (l[a]?.getD default) < key (l[b]?.getD default)) (s : Int) :
    bsGo (fun h => cmpI (key (l[h]?.getD default)) s < 0) 0 l.length = lead (fun r => key r < s) l ∧
    ((lead (fun r => key r < s) l < l.length ∧ cmpI (key (l[lead (fun r => key r < s) l]?.getD default)) s = 0) ↔ ∃ r ∈ l, key r = s) := by
  have hle := lead_le (fun r => key r < s) l
  constructor
  · refine bsGo_at (Nat.zero_le _) (Nat.zero_le _) hle (fun a ha => ?_) (fun a ha hb => ?_)
    · rw [cmpI_neg]; exact lead_lt (q := fun r => key r < s) a ha
    · rw [cmpI_neg]
      have h1 := lead_end (q := fun r => key r < s) (xs := l) (by omega)
      by_cases e : lead (fun r => key r < s) l = a
      · rwa [e] at h1
      · have := h a hb _ (show lead (fun r => key r < s) l < a by omega)
        intro hc
        exact h1 (by omega)
  · rw [cmpI_zero]
    constructor
    · rintro ⟨h1, h2⟩
      refine ⟨l[lead (fun r => key r < s) l]?.getD default, ?_, h2⟩
      rw [List.getElem?_eq_getElem h1]
      exact List.getElem_mem ..
    · rintro ⟨r, hr, rfl⟩
      obtain ⟨i, hi⟩ := List.getElem?_of_mem hr
      have hil := (List.getElem?_eq_some_iff.1 hi).1
      have hg : l[i]?.getD default = r := by rw [hi]; rfl
      have : lead (fun x => key x < key r) l = i := by
        refine lead_at (by omega) (fun j hj => ?_) (.inr ?_)
        · rw [← hg]; exact h i hil j hj
        · rw [hg]; exact Int.lt_irrefl _
      rw [this, hg]
      exact ⟨hil, rfl⟩

theorem find_pins {p : Pins} (h : okPins p) (s : Int) : bsGo (fun h => cmpI (p.rows[h]?.getD default).session s < 0) 0 p.rows.length = atP p s ∧ ((atP p s < p.rows.length ∧ cmpI (p.rows[atP p s]?.getD default).session s = 0) ↔ thereP p s) :=
  find_sorted (key := Pn.session) (rows_lt h.rows) s

theorem atP_le (p : Pins) (s : Int) : atP p s ≤ p.rows.length := lead_le _ _

theorem there_at {p : Pins} (h : okPins p) {s : Int} (ht : thereP p s) : atP p s < p.rows.length ∧ (p.rows[atP p s]?.getD default).session = s := by
  have := (find_pins h s).2.2 ht
  exact ⟨this.1, cmpI_zero.1 this.2⟩

/-- The place of a session, found by going through. -/
theorem atP_of {p : Pins} (h : okPins p) {s : Int} {i : Nat} (hi : i < p.rows.length) (hs : (p.rows[i]?.getD default).session = s) : atP p s = i ∧ thereP p s := by
  subst hs
  refine ⟨lead_at (by omega) (fun j hj => rows_lt h.rows i hi j hj) (.inr (Int.lt_irrefl _)), p.rows[i]?.getD default, ?_, rfl⟩
  rw [List.getElem?_eq_getElem hi]
  exact List.getElem_mem ..

theorem newest_eq {p : Pins} (h : okPins p) {j : Nat} (hj : j < p.kept.length) : p.kept[j]?.getD default = newestP p ↔ j + 1 = p.kept.length := by
  unfold newestP
  constructor
  · intro e
    by_cases c : j + 1 = p.kept.length
    · exact c
    · have := kept_lt h.kept (p.kept.length - 1) (by omega) j (by omega)
      omega
  · intro e
    rw [show p.kept.length - 1 = j by omega]

end Go.Q
