/- A row of rows, of which one is the call's own: what is proved here holds of every program. -/
import Derived.Test.YtipjijlfpnjjfaaQKit10
set_option linter.unusedVariables false
set_option linter.unusedSimpArgs false
namespace Go.Q

instance : Inhabited D := ⟨dTop⟩

/-- Rows that are known, but for the one at k, of which the handle is known. -/
abbrev dBut (xs : List (List Int)) (k : Nat) (v : Value) : D := dSl 1 (fun d : D => [d]) ((xs.map (fun x => dInts x)).set k (dVal v))

theorem but_len (xs : List (List Int)) (k : Nat) (v : Value) : ((xs.map (fun x => dInts x)).set k (dVal v)).length = xs.length := by simp

theorem but_get {xs : List (List Int)} {k : Nat} {v : Value} (hk : k < xs.length) : ((xs.map (fun x => dInts x)).set k (dVal v))[k]?.getD default = dVal v := by
  rw [List.getElem?_set_self (by simpa using hk)]
  rfl

theorem but_up {xs : List (List Int)} {k : Nat} {v : Value} {ys : List Int} {J : Imm} {u : Value} (hk : k < xs.length) (h : (dBut xs k v).rel J u) (hr : (dInts ys).rel J v) : (dRows (xs.set k ys)).rel J u := by
  refine sl_up (by simp) (fun i d y hd hy => ⟨rfl, fun cs hc => ?_⟩) h
  match cs, hc with
  | [c], hc =>
    refine ⟨?_, trivial⟩
    rw [List.getElem?_set] at hd hy
    by_cases e : k = i
    · subst e
      rw [if_pos rfl, if_pos (by simpa using hk)] at hd
      rw [if_pos rfl, if_pos hk] at hy
      injection hd with hd
      injection hy with hy
      subst hd; subst hy
      rw [show c = v from hc.1]
      exact hr
    · rw [if_neg e, List.getElem?_map] at hd
      rw [if_neg e] at hy
      rw [hy] at hd
      injection hd with hd
      subst hd
      exact hc.1

end Go.Q
