/- Small words for the walks: what is proved here holds of every program. -/
import Derived.Test.YtmapjpdgjefnoaaQOps4
set_option linter.unusedVariables false
set_option linter.unusedSimpArgs false
namespace Go.Q

theorem d_int {k : IntKind} {m n : Int} (h : m = n) : ∀ I v, (dInt k m).rel I v → (dInt k n).rel I v := fun _ _ e => h ▸ e
theorem d_B {p q : Prop} (h : p ↔ q) : ∀ I v, (dB p).rel I v → (dB q).rel I v := fun _ _ ⟨b, e, hb⟩ => ⟨b, e, hb.trans h⟩
theorem d_any {d : D} : ∀ I v, d.rel I v → dTop.rel I v := fun _ _ _ => trivial
theorem d_eq {d d' : D} (h : d = d') : ∀ I v, d.rel I v → d'.rel I v := fun _ _ e => h ▸ e
theorem d_nil {α : Type} {n : Nat} {f : α → List D} : ∀ I v, (dVal (.slice none 0 0)).rel I v → (dSl n f ([] : List α)).rel I v := by
  rintro I v rfl
  exact ⟨none, 0, rfl, Nat.le_refl _, Nat.zero_le _, Nat.zero_le _, fun i x hx => by simp at hx⟩
theorem relL_imp {I : Imm} : ∀ {ds es : List D} {vs : List Value}, ds.length = es.length → (∀ (i : Nat) d e, ds[i]? = some d → es[i]? = some e → ∀ v, d.rel I v → e.rel I v) → relL ds I vs → relL es I vs
  | [], [], [], _, _, _ => trivial
  | d :: ds, e :: es, v :: vs, hl, h, ⟨h1, h2⟩ => ⟨h 0 d e rfl rfl v h1, relL_imp (by simpa using hl) (fun i d' e' hd he => h (i + 1) d' e' (by simpa using hd) (by simpa using he)) h2⟩
  | [], _ :: _, _, hl, _, _ => by simp at hl
  | _ :: _, [], _, hl, _, _ => by simp at hl
  | [], [], _ :: _, _, _, h => by cases h
  | _ :: _, _ :: _, [], _, _, h => by cases h
theorem d_tup1 {a a' : D} (h1 : ∀ I v, a.rel I v → a'.rel I v) : ∀ I v, (dTup [a]).rel I v → (dTup [a']).rel I v := by
  rintro I v ⟨cs, e, hr⟩
  refine ⟨cs, e, ?_⟩
  cases hc : cs.toList with
  | nil => rw [hc] at hr; cases hr
  | cons u us => rw [hc] at hr; exact ⟨h1 _ _ hr.1, hr.2⟩
theorem relL2 {a b : D} {I : Imm} {vs : List Value} (h : relL [a, b] I vs) : ∃ u v, vs = [u, v] ∧ a.rel I u ∧ b.rel I v := by
  match vs, h with
  | [u, v], h => exact ⟨u, v, rfl, h.1, h.2.1⟩
  | [], h => cases h
  | [_], h => cases h.2
  | _ :: _ :: _ :: _, h => cases h.2.2
theorem d_tup2 {a a' b b' : D} (h1 : ∀ I v, a.rel I v → a'.rel I v) (h2 : ∀ I v, b.rel I v → b'.rel I v) : ∀ I v, (dTup [a, b]).rel I v → (dTup [a', b']).rel I v := by
  rintro I v ⟨cs, e, hr⟩
  obtain ⟨u, w, hc, g1, g2⟩ := relL2 hr
  exact ⟨cs, e, by rw [hc]; exact ⟨h1 _ _ g1, h2 _ _ g2, trivial⟩⟩
theorem dSl_len {α : Type} {n : Nat} {f : α → List D} {xs : List α} {I : Imm} {v : Value} (h : (dSl n f xs).rel I v) : xs.length ≤ 17592186044416 := by
  obtain ⟨_, _, _, _, _, h, _⟩ := h
  exact h
theorem d_sl {α β : Type} {n : Nat} {f : α → List D} {h : β → List D} {xs : List α} {ys : List β} (e : xs.map f = ys.map h) : ∀ I v, (dSl n f xs).rel I v → (dSl n h ys).rel I v := by
  rintro I v ⟨a, cap, h1, h2, h3, h4, h5⟩
  have hl : xs.length = ys.length := by have := congrArg List.length e; simpa using this
  rw [hl] at h1 h2 h4
  refine ⟨a, cap, h1, h2, h3, h4, fun i y hy => ?_⟩
  have hi : i < ys.length := (List.getElem?_eq_some_iff.1 hy).1
  have hx : xs[i]? = some (xs[i]'(by omega)) := by simp [hl, hi]
  have hfe : f (xs[i]'(by omega)) = h y := by
    have := congrArg (fun l => l[i]?) e
    simp only [List.getElem?_map, hx, hy, Option.map_some, Option.some.injEq] at this
    exact this
  have := h5 i _ hx
  rwa [hfe] at this
theorem mul_bd {a b A B : Int} (h1 : 0 ≤ a) (h2 : a ≤ A) (h3 : 0 ≤ b) (h4 : b ≤ B) : 0 ≤ a * b ∧ a * b ≤ A * B :=
  ⟨Int.mul_nonneg h1 h3, Int.mul_le_mul h2 h4 h3 (by omega)⟩

section
variable {P : Program} {f : FuncId} {N : Nat} {I0 : Imm} {g : G} {M : List Res} {k : List Item} {fn : Func}

theorem run_ret3P {t u s : Tmp} {d : D} (hf : P.funcs[f]? = some fn) (hr : fn.results = #[.tmp t, .tmp u, .tmp s]) {d1 d2 d3 : D} (hd1 : look g t = some d1) (hd2 : look g u = some d2) (hd3 : look g s = some d3) (hle : ∀ I v, (dTup [d1, d2, d3]).rel I v → d.rel I v) :
    Run P f N I0 (PostP I0 d M) g M (.code .ret :: k) :=
  ⟨fun _ a w _ _ hb hk hl hs hi => goes_ret hf hb hk hs.defers (results_tmp3 hr a.tmps P w) ⟨_, rfl, _, hl, hle _ _ ⟨_, rfl, hs.slot t d1 hd1, hs.slot u d2 hd2, hs.slot s d3 hd3, trivial⟩, hi⟩⟩
end
end Go.Q
