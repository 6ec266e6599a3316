/- Roots tell lists of digests apart that differ in one; plain mathematics. -/
import Derived.Test.YtipjijlfpnjjfaaQPlainD
set_option linter.unusedVariables false
set_option linter.unusedSimpArgs false
namespace Go.Q
open Classical

theorem lin_inj {d e m : Int} (hd : goodD d) (he : goodD e) (h : (d * 1000003 + m) % 2147483647 = (e * 1000003 + m) % 2147483647) : d = e := by
  have h1 : rowStep d (m - 1) = rowStep e (m - 1) := by
    unfold rowStep modD
    have h2 := congrArg (fun t => (t + (m - 1) % 2147483647 + 1 - m) % 2147483647) h
    have h3 : ∀ x : Int, ((x * 1000003 + m) % 2147483647 + (m - 1) % 2147483647 + 1 - m) % 2147483647 = (x * 1000003 + (m - 1) % 2147483647 + 1) % 2147483647 := fun x => by omega
    rwa [h3, h3] at h2
  exact rowStep_inj hd he h1
theorem modD_good {x : Int} (h : goodD x) : modD x = x := by unfold goodD at h; unfold modD; omega
theorem nodeD_left {a b y : Int} (ha : goodD a) (hb : goodD b) (h : nodeD a y = nodeD b y) : a = b := by
  unfold nodeD at h
  rw [modD_good ha, modD_good hb, Int.add_assoc, Int.add_assoc] at h
  exact lin_inj ha hb h
theorem nodeD_right {a b x : Int} (ha : goodD a) (hb : goodD b) (h : nodeD x a = nodeD x b) : a = b := by
  unfold nodeD at h
  rw [modD_good ha, modD_good hb] at h
  unfold goodD at ha hb
  generalize modD x * 1000003 = m at h
  omega
theorem nodeD_good (a b : Int) : goodD (nodeD a b) := by have := nodeD_bd a b; unfold goodD; omega

theorem upD_set : ∀ (xs : List Int) (i : Nat) (b : Int), i < xs.length → (∀ x ∈ xs, goodD x) → goodD b →
    ∃ c, goodD c ∧ upD (xs.set i b) = (upD xs).set (i / 2) c ∧ (c = (upD xs)[i / 2]?.getD default → b = xs[i]?.getD default)
  | [], i, _, h, _, _ => by cases h
  | [x], 0, b, _, _, hb => ⟨b, hb, rfl, fun h => h⟩
  | [x], i + 1, _, h, _, _ => by simp at h
  | x :: y :: r, 0, b, _, hg, hb => ⟨nodeD b y, nodeD_good _ _, rfl, fun h => nodeD_left hb (hg x (by simp)) h⟩
  | x :: y :: r, 1, b, _, hg, hb => ⟨nodeD x b, nodeD_good _ _, rfl, fun h => nodeD_right hb (hg y (by simp)) h⟩
  | x :: y :: r, i + 2, b, h, hg, hb => by
    obtain ⟨c, h1, h2, h3⟩ := upD_set r i b (by simpa using h) (fun z hz => hg z (by simp [hz])) hb
    have e : (i + 2) / 2 = i / 2 + 1 := by omega
    refine ⟨c, h1, ?_, ?_⟩
    · show nodeD x y :: upD (r.set i b) = _
      rw [h2, e]
      rfl
    · rw [e]
      exact h3

theorem upD_good : ∀ (xs : List Int), (∀ x ∈ xs, goodD x) → ∀ x ∈ upD xs, goodD x
  | [], h => h
  | [x], h => h
  | x :: y :: r, h => fun z hz => by
    rcases List.mem_cons.1 hz with rfl | hz
    · exact nodeD_good _ _
    · exact upD_good r (fun w hw => h w (by simp [hw])) z hz

theorem rootD_inj (n : Nat) : ∀ (xs : List Int) (i : Nat) (b : Int), xs.length < n → i < xs.length → (∀ x ∈ xs, goodD x) → goodD b → rootD (xs.set i b) = rootD xs → b = xs[i]?.getD default := by
  induction n with
  | zero => intro xs i b h; omega
  | succ n ih =>
    intro xs i b hn hi hg hb h
    by_cases h2 : 2 ≤ xs.length
    · rw [rootD_up _ (by rw [List.length_set]; exact h2), rootD_up xs h2] at h
      obtain ⟨c, h3, h4, h5⟩ := upD_set xs i b hi hg hb
      rw [h4] at h
      have hl := upD_length xs
      exact h5 (ih (upD xs) (i / 2) c (by omega) (by omega) (upD_good xs hg) h3 h)
    · match xs, i, hi, h2 with
      | [x], 0, _, _ => exact h
      | x :: y :: r, _, _, h2 => simp at h2

theorem root_set {xs : List Int} {i : Nat} {b : Int} (hi : i < xs.length) (hg : ∀ x ∈ xs, goodD x) (hb : goodD b) : rootD (xs.set i b) = rootD xs ↔ b = xs[i]?.getD default := by
  refine ⟨rootD_inj (xs.length + 1) xs i b (by omega) hi hg hb, fun h => ?_⟩
  rw [h, List.getElem?_eq_getElem hi]
  simp

end Go.Q
