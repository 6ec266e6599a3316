/- Arrays: what is proved here holds of every program. -/
import Derived.Test.YtmapjpdgjefnoaaQKit11
set_option linter.unusedVariables false
set_option linter.unusedSimpArgs false
namespace Go.Q

variable {P : Program} {f : FuncId} {N : Nat} {I0 : Imm} {R : Ending → World → Prop} {g : G} {M : List Res} {k : List Item} {dst : Option Tmp} {ty : TypeId} {pos : String} {after : Array Edge} {gd : Option (Nat × Bool)}

theorem fill_congr {p q : Nat → Option (Nat × Nat)} : ∀ {parts : List (Nat × Value)} {ar r : Array Value}, (∀ i s, q i = some s → p i = some s) → Instr.fill q ar parts = some r → Instr.fill p ar parts = some r
  | [], _, _, _, h => h
  | (i, v) :: parts, ar, r, hpq, h => by
    unfold Instr.fill at h ⊢
    cases hq : q i with
    | none => simp [hq] at h
    | some s =>
      rw [hpq i s hq]
      simp only [hq] at h
      split at h
      · cases h
      · rename_i hn
        simp only
        rw [if_neg hn]
        exact fill_congr hpq h

def arrPl (pl : List (Nat × Nat)) : Bool := pl.zipIdx.all fun q => Nat.beq q.1.1 q.2 && Nat.beq q.1.2 1
theorem arrPl_get {pl : List (Nat × Nat)} (h : arrPl pl = true) {i : Nat} {s : Nat × Nat} (hs : pl[i]? = some s) : s = (i, 1) := by
  have h1 := List.all_eq_true.1 h (s, i) (List.mem_zipIdx_iff_getElem?.2 (by simpa using hs))
  simp only [Bool.and_eq_true] at h1
  exact Prod.ext (Nat.eq_of_beq_eq_true h1.1) (Nat.eq_of_beq_eq_true h1.2)

/-- An array literal of one-cell elements. -/
theorem loc_buildA {t e : TypeId} {len : Nat} (pl : List (Nat × Nat)) (hu : P.underlying t = some (.array len e)) (hpl : arrPl pl = true) [hv : TyV P e false 1] {bytes : Nat} {zc : Array Value} [hz : TyZ P t bytes (.agg zc)] {ps : List (Nat × Operand)} {out : List D} (hf : Fills g pl ps (zeroDs (.agg zc)) out) :
    LocP P ⟨dst, .build t ps.toArray, ty, pos, after, gd⟩ g N M (dAgg out) :=
  locP_of_run fun I a w hs hi => by
    have hzr := zeroDs_rel I (.agg zc) (by simp)
    obtain ⟨ar', h1, h2⟩ := hf.run hs hzr
    refine ⟨.agg ar', ?_, _, rfl, h2⟩
    have h3 := hz.eq
    cases hui : P.info? t with
    | none => simp [hui] at h3
    | some i =>
      simp only [hui, Option.map_some, Option.some.injEq, Prod.mk.injEq] at h3
      have hs' := hv.size_eq
      cases hue : P.info? e with
      | none => simp [hue] at hs'
      | some ie =>
        simp only [hue, Option.map_some, Option.some.injEq] at hs'
        have hb : P.built t (ps.toArray.map fun (p : Nat × Operand) => (p.1, a.eval p.2)).toList = some ar' := by
          unfold Program.built
          simp only [hui, hu, h3.2, hue]
          refine fill_congr (q := (pl.toArray[·]?)) (fun j s hj => ?_) (by simpa using h1)
          have := arrPl_get hpl (by simpa using hj)
          rw [this, hs', Nat.mul_one]
        simp only [execOp, Sem.run_bind, run_build w t _ _ hb, Result.andThen_ok]
        rfl

/-- The place of an array's element. -/
theorem loc_indexArr {t e : TypeId} {len : Nat} (hu : P.underlying t = some (.array len e)) [hv : TyV P e false 1] {x y : Operand} {ds : List D} {kd : IntKind} {i : Int} (hx : opd g x = some (dBox ds)) (hy : opd g y = some (dInt kd i)) (hi : 0 ≤ i ∧ i < len) :
    LocP P ⟨dst, .indexAddr t x y, ty, pos, after, gd⟩ g N M (dBox (ds.drop i.toNat)) :=
  locP_of_run fun I a w hs hinv => by
    obtain ⟨p, hp, hat⟩ := opd_sound hs hx
    have hyv : a.eval y = .int kd i := opd_sound hs hy
    refine ⟨.pointer (some (p.add i.toNat)), ?_, _, rfl, at_drop _ hat⟩
    simp [execOp, Instr.indexAt, hp, hyv, asIntOf, run_underlying hu, Instr.sureAddr, hi, run_sizeOf hv]

end Go.Q
