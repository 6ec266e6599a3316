/- A row of rows, of which one is the call's own: what is proved here holds of every program. -/
import Derived.Test.YtmapjpdgjefnoaaQKit10
set_option linter.unusedVariables false
set_option linter.unusedSimpArgs false
namespace Go.Q

instance : Inhabited D := ⟨dTop⟩

/-- Rows that are known, but for the one at k, of which the handle is known. -/
abbrev dBut (xs : List (List Int)) (k : Nat) (v : Value) : D := dSl 1 (fun d : D => [d]) ((xs.map (fun x => dInts x)).set k (dVal v))

theorem but_len (xs : List (List Int)) (k : Nat) (v : Value) : ((xs.map (fun x => dInts x)).set k (dVal v)).length = xs.length := by simp

theorem but_get {xs : List (List Int)} {k : Nat} {v : Value} (hk : k < xs.length) : ((xs.map (fun x => dInts x)).set k (dVal v))[k]?.getD default = dVal v := by
  rw [List.getElem?_set_self (by simpa using hk)]
  rfl

theorem but_up {xs : List (List Int)} {k : Nat} {v : Value} {ys : List Int} {J : Imm} {u : Value} (hk : k < xs.length) (h : (dBut xs k v).rel J u) (hr : (dInts ys).rel J v) : (dRows (xs.set k ys)).rel J u := by
  refine sl_up (by simp) (fun i d y hd hy => ⟨rfl, fun cs hc => ?_⟩) h
  match cs, hc with
  | [c], hc =>
    refine ⟨?_, trivial⟩
    rw [List.getElem?_set] at hd hy
    by_cases e : k = i
    · subst e
      rw [if_pos rfl, if_pos (by simpa using hk)] at hd
      rw [if_pos rfl, if_pos hk] at hy
      injection hd with hd
      injection hy with hy
      subst hd; subst hy
      rw [show c = v from hc.1]
      exact hr
    · rw [if_neg e, List.getElem?_map] at hd
      rw [if_neg e] at hy
      rw [hy] at hd
      injection hd with hd
      subst hd
      exact hc.1

theorem but_none {xs : List (List Int)} {k : Nat} {v : Value} {J : Imm} {u : Value} (hk : xs.length ≤ k) (h : (dBut xs k v).rel J u) : (dRows xs).rel J u := by
  refine sl_up (by simp) (fun i d y hd hy => ⟨rfl, fun cs hc => ?_⟩) h
  match cs, hc with
  | [c], hc =>
    refine ⟨?_, trivial⟩
    have hi := (List.getElem?_eq_some_iff.1 hy).1
    rw [List.getElem?_set, if_neg (by omega), List.getElem?_map, hy] at hd
    injection hd with hd
    subst hd
    exact hc.1

theorem none_but {xs : List (List Int)} {k : Nat} {v : Value} {J : Imm} {u : Value} (hk : xs.length ≤ k) (h : (dRows xs).rel J u) : (dBut xs k v).rel J u := by
  refine sl_up (by simp) (fun i y d hy hd => ⟨rfl, fun cs hc => ?_⟩) h
  match cs, hc with
  | [c], hc =>
    refine ⟨?_, trivial⟩
    have hi := (List.getElem?_eq_some_iff.1 hy).1
    rw [List.getElem?_set, if_neg (by omega), List.getElem?_map, hy] at hd
    injection hd with hd
    subst hd
    exact hc.1

/-- Rows, of which the one at k stays the call's own, if there is one. -/
theorem spec_freezeAny {P : Program} {f : FuncId} {Ds : List D} {T T' : Nat} {xs : List (List Int)} (k : Nat)
    (h : Spec P f Ds [] (fun s : Value × List (Value × List Int) => s.2.map (·.2) = xs) (fun s => dVal s.1) (fun s => rRow s.1 T 1 (fun u => [dSlV u]) (s.2.map (·.1)) :: s.2.map (rOf T' 1 (fun x => [dInt .i64 x])))) :
    Spec P f Ds [] (fun _ : Value => True) (fun v => dBut xs k v) (fun v => [rRow v T' 1 (fun x => [dInt .i64 x]) (xs[k]?.getD default)]) := by
  by_cases hk : k < xs.length
  · exact spec_freezeBut k hk h
  · have hd : xs[k]?.getD default = [] := by rw [List.getElem?_eq_none (by omega)]; rfl
    intro I M w vs hv hi
    refine (spec_freezeRows h I M w vs hv hi).mono ?_
    rintro e w' ⟨v, rfl, J, h1, h2, h3⟩
    refine ⟨v, rfl, .slice none 0 0, trivial, J, h1, none_but (by omega) h2, ?_⟩
    rw [hd]
    exact nil_ok h3

end Go.Q
