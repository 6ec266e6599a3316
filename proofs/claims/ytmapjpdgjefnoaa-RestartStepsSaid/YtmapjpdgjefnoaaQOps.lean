/- The rules of single operations: what is proved here holds of every program. -/
import Derived.Test.YtmapjpdgjefnoaaQLogic
set_option linter.unusedVariables false
set_option linter.unusedSimpArgs false
namespace Go.Q

/-! ### What the rules ask of types -/

class TyV (P : Program) (t : TypeId) (agg : outParam Bool) (n : outParam Nat) : Prop where
  agg_eq : (P.underlying t).map (fun | .struct _ | .array _ _ => true | _ => false) = some agg
  size_eq : (P.info? t).map (·.size) = some n
class TySl (P : Program) (t : TypeId) (e : outParam TypeId) : Prop where
  eq : P.underlying t = some (.slice e)
class TyStr (P : Program) (t : TypeId) : Prop where
  eq : P.underlying t = some .string
class TyBool (P : Program) (t : TypeId) : Prop where
  eq : P.underlying t = some .bool
class TyInt (P : Program) (t : TypeId) (k : outParam IntKind) : Prop where
  eq : P.underlying t = some (.int k)
def fldOf (P : Program) (s : TypeId) (i : Nat) : Option (Nat × Nat × Bool) :=
  match P.underlying s with
  | some (.struct fs) => (fs[i]?).bind fun f => ((P.info? f.type).map (·.size)).bind fun n => ((P.underlying f.type).map (fun | .struct _ | .array _ _ => true | _ => false)).map fun b => (f.offset, n, b)
  | _ => none
class TyFld (P : Program) (s : TypeId) (i : Nat) (off n : outParam Nat) (agg : outParam Bool) : Prop where
  is : fldOf P s i = some (off, n + 1, agg)
theorem TyFld.eq {P : Program} {s : TypeId} {i off n : Nat} {agg : Bool} (h : TyFld P s i off n agg) :
    ∃ fs f, P.underlying s = some (.struct fs) ∧ fs[i]? = some f ∧ f.offset = off ∧ (P.info? f.type).map (·.size) = some (n + 1) ∧ (P.underlying f.type).map (fun | .struct _ | .array _ _ => true | _ => false) = some agg := by
  have := h.is
  unfold fldOf at this
  split at this
  · rename_i fs hu
    cases h1 : fs[i]? with
    | none => simp [h1] at this
    | some f =>
      cases h2 : (P.info? f.type).map (·.size) with
      | none => rw [h1, Option.bind_some, h2] at this; cases this
      | some n' =>
        cases h3 : (P.underlying f.type).map (fun | .struct _ | .array _ _ => true | _ => false) with
        | none => rw [h1, Option.bind_some, h2, Option.bind_some, h3] at this; cases this
        | some b =>
          rw [h1, Option.bind_some, h2, Option.bind_some, h3] at this
          simp only [Option.map_some, Option.some.injEq, Prod.mk.injEq] at this
          obtain ⟨r1, r2, r3⟩ := this
          exact ⟨fs, f, hu, h1, r1, by rw [h2, r2], by rw [h3, r3]⟩
  · cases this
class TyZ (P : Program) (t : TypeId) (bytes : outParam Nat) (z : outParam Value) : Prop where
  eq : (P.info? t).map (fun i => (i.bytes, i.zero)) = some (bytes, some z)
/-- A Go function with a body. -/
class TyFn (P : Program) (f : FuncId) : Prop where
  is : (P.funcs[f]?).map (fun fn => (fn.name == "runtime.NumGoroutine", fn.body.isNone)) = some (false, false)
theorem TyFn.eq {P : Program} {f : FuncId} (h : TyFn P f) : ∃ fn, P.funcs[f]? = some fn ∧ (fn.name == "runtime.NumGoroutine") = false ∧ fn.body.isNone = false := by
  have := h.is
  cases h1 : P.funcs[f]? with
  | none => simp [h1] at this
  | some fn => rw [h1] at this; simp only [Option.map_some, Option.some.injEq, Prod.mk.injEq] at this; exact ⟨fn, rfl, this.1, this.2⟩

section
variable {P : Program}

theorem run_isAgg {t : TypeId} {agg : Bool} {n : Nat} (h : TyV P t agg n) (w : World) : (isAgg t).run P w = .ok agg w := by
  have h1 := h.agg_eq
  cases hu : P.underlying t with
  | none => simp [hu] at h1
  | some d =>
    simp only [hu, Option.map_some, Option.some.injEq] at h1
    subst h1
    unfold isAgg
    simp only [Sem.run_bind, run_underlying hu, Result.andThen_ok]
    cases d <;> rfl

theorem run_sizeOf' {t : TypeId} {n : Nat} (h1 : (P.info? t).map (·.size) = some n) (w : World) : (sizeOf t).run P w = .ok n w := by
  cases hu : P.info? t with
  | none => simp [hu] at h1
  | some i =>
    simp only [hu, Option.map_some, Option.some.injEq] at h1
    simp [sizeOf, typeInfo, hu, h1]

theorem run_sizeOf {t : TypeId} {agg : Bool} {n : Nat} (h : TyV P t agg n) (w : World) : (sizeOf t).run P w = .ok n w := run_sizeOf' h.size_eq w

/-- What a value of known cells is. -/
def cellsD (agg : Bool) (ds : List D) : D := if agg then dAgg ds else ds.headD dTop

end

variable {P : Program} {g : G} {N : Nat} {M : List Res} {dst : Option Tmp} {ty : TypeId} {pos : String} {after : Array Edge} {gd : Option (Nat × Bool)}

theorem loc_move {x : Operand} {d : D} (hx : opd g x = some d) : LocP P ⟨dst, .move x, ty, pos, after, gd⟩ g N M d :=
  locP_of_run fun I a w hs _ => ⟨a.eval x, rfl, opd_sound hs hx⟩

theorem loc_assign {x : Operand} {d : D} (hx : opd g x = some d) : LocP P ⟨dst, .assign x, ty, pos, after, gd⟩ g N M d :=
  locP_of_run fun I a w hs _ => ⟨a.eval x, rfl, opd_sound hs hx⟩

/-- 'p || q' -/
theorem loc_or {c b : Operand} {p q : Prop} (hc : opd g c = some (dB p)) (hb : opd g b = some (dIf (¬ p) (dB q))) : LocP P ⟨dst, .pick c (.const (.bool true)) b, ty, pos, after, gd⟩ g N M (dB (p ∨ q)) :=
  locP_of_run fun I a w hs _ => by
    obtain ⟨t, ht, hp⟩ := opd_sound hs hc
    have hq := opd_sound hs hb
    cases t with
    | true => exact ⟨.bool true, by simp [execOp, ht, asBool, show a.eval (.const (.bool true)) = .bool true from rfl], true, rfl, by simp [hp.1 rfl]⟩
    | false =>
      have hnp : ¬ p := fun h => by simpa using hp.2 h
      obtain ⟨u, hu, hq⟩ := hq.1 hnp
      exact ⟨.bool u, by simp [execOp, ht, asBool, hu], u, rfl, by simp [hq, hnp]⟩

/-- 'p && q' -/
theorem loc_and {c b : Operand} {p q : Prop} (hc : opd g c = some (dB p)) (hb : opd g b = some (dIf p (dB q))) : LocP P ⟨dst, .pick c b (.const (.bool false)), ty, pos, after, gd⟩ g N M (dB (p ∧ q)) :=
  locP_of_run fun I a w hs _ => by
    obtain ⟨t, ht, hp⟩ := opd_sound hs hc
    have hq := opd_sound hs hb
    cases t with
    | false =>
      have hnp : ¬ p := fun h => by simpa using hp.2 h
      exact ⟨.bool false, by simp [execOp, ht, asBool, show a.eval (.const (.bool false)) = .bool false from rfl], false, rfl, by simp [hnp]⟩
    | true =>
      obtain ⟨u, hu, hq⟩ := hq.1 (hp.1 rfl)
      exact ⟨.bool u, by simp [execOp, ht, asBool, hu], u, rfl, by simp [hq, hp.1 rfl]⟩

theorem loc_not {t : TypeId} {x : Operand} {p : Prop} (hx : opd g x = some (dB p)) : LocP P ⟨dst, .unOp .not t x, ty, pos, after, gd⟩ g N M (dB (¬ p)) :=
  locP_of_run fun I a w hs _ => by
    obtain ⟨b, hb, hp⟩ := opd_sound hs hx
    exact ⟨.bool (!b), by simp [execOp, Op.unary, hb], !b, rfl, by rw [← hp]; simp⟩

/-! ### Integers -/

theorem run_binOp_int {op : BinOp} {t t' : TypeId} {x y : Operand} {a : Act} {k : IntKind} {m n : Int} {v : Value} {w : World} (hx : a.eval x = .int k m) (hy : a.eval y = .int k n)
    (h : (binOp op t (.int k m) (.int k n)).run P w = .ok v w) : (execOp a.eval ⟨dst, .binOp op t x y t', ty, pos, after, gd⟩).run P w = .ok (.value v) w := by
  have e : eqGuard op t x y (.int k m) (.int k n) = pure () := by
    unfold eqGuard
    cases op <;> rfl
  simp [execOp, hx, hy, e, h]

section
variable {t t' : TypeId} {x y : Operand} {k : IntKind} {m n : Int}

theorem loc_addW (hx : opd g x = some (dInt k m)) (hy : opd g y = some (dInt k n)) : LocP P ⟨dst, .binOp .add t x y t', ty, pos, after, gd⟩ g N M (dInt k (k.wrap (m + n))) :=
  locP_of_run fun I a w hs _ => ⟨_, run_binOp_int (opd_sound hs hx) (opd_sound hs hy) (by simp [binOp, Op.intArith]), rfl⟩
theorem loc_subW (hx : opd g x = some (dInt k m)) (hy : opd g y = some (dInt k n)) : LocP P ⟨dst, .binOp .sub t x y t', ty, pos, after, gd⟩ g N M (dInt k (k.wrap (m - n))) :=
  locP_of_run fun I a w hs _ => ⟨_, run_binOp_int (opd_sound hs hx) (opd_sound hs hy) (by simp [binOp, Op.intArith]), rfl⟩
theorem loc_mulW (hx : opd g x = some (dInt k m)) (hy : opd g y = some (dInt k n)) : LocP P ⟨dst, .binOp .mul t x y t', ty, pos, after, gd⟩ g N M (dInt k (k.wrap (m * n))) :=
  locP_of_run fun I a w hs _ => ⟨_, run_binOp_int (opd_sound hs hx) (opd_sound hs hy) (by simp [binOp, Op.intArith]), rfl⟩
theorem loc_quoW (hx : opd g x = some (dInt k m)) (hy : opd g y = some (dInt k n)) (h0 : n ≠ 0) : LocP P ⟨dst, .binOp .quo t x y t', ty, pos, after, gd⟩ g N M (dInt k (k.wrap (m.tdiv n))) :=
  locP_of_run fun I a w hs _ => ⟨_, run_binOp_int (opd_sound hs hx) (opd_sound hs hy) (by simp [binOp, Op.intDiv, h0]), rfl⟩
theorem loc_remW (hx : opd g x = some (dInt k m)) (hy : opd g y = some (dInt k n)) (h0 : n ≠ 0) : LocP P ⟨dst, .binOp .rem t x y t', ty, pos, after, gd⟩ g N M (dInt k (m.tmod n)) :=
  locP_of_run fun I a w hs _ => ⟨_, run_binOp_int (opd_sound hs hx) (opd_sound hs hy) (by simp [binOp, Op.intDiv, h0]), rfl⟩

theorem LocP.conv {o : Oper} {d d' : D} (h : LocP P o g N M d) (hd : d = d') : LocP P o g N M d' := hd ▸ h

theorem loc_add (hx : opd g x = some (dInt .i64 m)) (hy : opd g y = some (dInt .i64 n)) (h : -9223372036854775808 ≤ m + n ∧ m + n ≤ 9223372036854775807) : LocP P ⟨dst, .binOp .add t x y t', ty, pos, after, gd⟩ g N M (dInt .i64 (m + n)) :=
  (loc_addW hx hy).conv (by rw [IntWalk.i64_in _ h])
theorem loc_sub (hx : opd g x = some (dInt .i64 m)) (hy : opd g y = some (dInt .i64 n)) (h : -9223372036854775808 ≤ m - n ∧ m - n ≤ 9223372036854775807) : LocP P ⟨dst, .binOp .sub t x y t', ty, pos, after, gd⟩ g N M (dInt .i64 (m - n)) :=
  (loc_subW hx hy).conv (by rw [IntWalk.i64_in _ h])
theorem loc_mul (hx : opd g x = some (dInt .i64 m)) (hy : opd g y = some (dInt .i64 n)) (h : -9223372036854775808 ≤ m * n ∧ m * n ≤ 9223372036854775807) : LocP P ⟨dst, .binOp .mul t x y t', ty, pos, after, gd⟩ g N M (dInt .i64 (m * n)) :=
  (loc_mulW hx hy).conv (by rw [IntWalk.i64_in _ h])
theorem loc_quo (hx : opd g x = some (dInt .i64 m)) (hy : opd g y = some (dInt .i64 n)) (h : 0 ≤ m ∧ m ≤ 9223372036854775807 ∧ 1 ≤ n) : LocP P ⟨dst, .binOp .quo t x y t', ty, pos, after, gd⟩ g N M (dInt .i64 (m / n)) :=
  (loc_quoW hx hy (by omega)).conv (by rw [IntWalk.i64_quo _ _ h])
theorem loc_rem (hx : opd g x = some (dInt .i64 m)) (hy : opd g y = some (dInt .i64 n)) (h : 0 ≤ m ∧ 1 ≤ n) : LocP P ⟨dst, .binOp .rem t x y t', ty, pos, after, gd⟩ g N M (dInt .i64 (m % n)) :=
  (loc_remW hx hy (by omega)).conv (by rw [IntWalk.rem_in _ _ h.1])

theorem loc_lss (hx : opd g x = some (dInt k m)) (hy : opd g y = some (dInt k n)) : LocP P ⟨dst, .binOp .lss t x y t', ty, pos, after, gd⟩ g N M (dB (m < n)) :=
  locP_of_run fun I a w hs _ => ⟨_, run_binOp_int (opd_sound hs hx) (opd_sound hs hy) (by simp [binOp, Op.intCmp]; rfl), _, rfl, by simp⟩
theorem loc_leq (hx : opd g x = some (dInt k m)) (hy : opd g y = some (dInt k n)) : LocP P ⟨dst, .binOp .leq t x y t', ty, pos, after, gd⟩ g N M (dB (m ≤ n)) :=
  locP_of_run fun I a w hs _ => ⟨_, run_binOp_int (opd_sound hs hx) (opd_sound hs hy) (by simp [binOp, Op.intCmp]; rfl), _, rfl, by simp⟩
theorem loc_gtr (hx : opd g x = some (dInt k m)) (hy : opd g y = some (dInt k n)) : LocP P ⟨dst, .binOp .gtr t x y t', ty, pos, after, gd⟩ g N M (dB (n < m)) :=
  locP_of_run fun I a w hs _ => ⟨_, run_binOp_int (opd_sound hs hx) (opd_sound hs hy) (by simp [binOp, Op.intCmp]; rfl), _, rfl, by simp⟩
theorem loc_geq (hx : opd g x = some (dInt k m)) (hy : opd g y = some (dInt k n)) : LocP P ⟨dst, .binOp .geq t x y t', ty, pos, after, gd⟩ g N M (dB (n ≤ m)) :=
  locP_of_run fun I a w hs _ => ⟨_, run_binOp_int (opd_sound hs hx) (opd_sound hs hy) (by simp [binOp, Op.intCmp]; rfl), _, rfl, by simp⟩
theorem loc_eql (hx : opd g x = some (dInt k m)) (hy : opd g y = some (dInt k n)) : LocP P ⟨dst, .binOp .eql t x y t', ty, pos, after, gd⟩ g N M (dB (m = n)) :=
  locP_of_run fun I a w hs _ => ⟨_, run_binOp_int (opd_sound hs hx) (opd_sound hs hy) (by simp [binOp, Op.intCmp]; rfl), _, rfl, by simp⟩
theorem loc_neq (hx : opd g x = some (dInt k m)) (hy : opd g y = some (dInt k n)) : LocP P ⟨dst, .binOp .neq t x y t', ty, pos, after, gd⟩ g N M (dB (m ≠ n)) :=
  locP_of_run fun I a w hs _ => ⟨_, run_binOp_int (opd_sound hs hx) (opd_sound hs hy) (by simp [binOp, Op.intCmp]; rfl), _, rfl, by simp⟩

end

/-! ### Memory that no longer changes -/

theorem at_cell {I : Imm} {M : List Res} {w : World} (hi : Inv I M w) {a : Addr} {ds : List D} (h : I.at a ds) (i : Nat) (d : D) (hd : ds[i]? = some d) : ∃ v, w.cell? (a.add i) = some v ∧ d.rel I v := by
  obtain ⟨hsp, cs, T, fz, hb, hr⟩ := h
  obtain ⟨v, hv, hd'⟩ := relL_get hr i d hd
  refine ⟨v, ?_, hd'⟩
  have hh := hi.imm _ _ hb
  have hlt : i < ds.length := (List.getElem?_eq_some_iff.1 hd).1
  rw [List.getElem?_take, if_pos hlt, List.getElem?_drop, Array.getElem?_toList] at hv
  have hadd : a.add i = ⟨a.block, a.off + i, none⟩ := by
    obtain ⟨b, o, s⟩ := a
    simp only at hsp
    subst hsp
    exact Addr.add_lit b o i
  rw [hadd]
  simp [World.cell?, hh, hv]

theorem run_load_at {I : Imm} {M : List Res} {w : World} (hi : Inv I M w) {a : Addr} {d : D} {ds : List D} (h : I.at a (d :: ds)) : ∃ v, (load a).run P w = .ok v w ∧ d.rel I v := by
  obtain ⟨v, hv, hd⟩ := at_cell hi h 0 d rfl
  rw [Addr.add_zero'] at hv
  exact ⟨v, by simp [hv], hd⟩

theorem at_take {I : Imm} {a : Addr} {ds : List D} (n : Nat) (h : I.at a ds) : I.at a (ds.take n) := by
  obtain ⟨hsp, cs, T, fz, hb, hr⟩ := h
  refine ⟨hsp, cs, T, fz, hb, ?_⟩
  have := relL_take n hr
  rw [List.take_take] at this
  rw [List.length_take]
  exact this

theorem at_drop {I : Imm} {a : Addr} {ds : List D} (n : Nat) (h : I.at a ds) : I.at (a.add n) (ds.drop n) := by
  obtain ⟨hsp, cs, T, fz, hb, hr⟩ := h
  have hadd : a.add n = ⟨a.block, a.off + n, none⟩ := by
    obtain ⟨b, o, s⟩ := a
    simp only at hsp
    subst hsp
    exact Addr.add_lit b o n
  rw [hadd]
  refine ⟨rfl, cs, T, fz, hb, ?_⟩
  have := relL_drop n hr
  rw [List.drop_take, List.drop_drop] at this
  rw [List.length_drop]
  exact this

theorem run_loadCells_at {I : Imm} {M : List Res} {w : World} (hi : Inv I M w) {a : Addr} {ds : List D} (h : I.at a ds) : ∃ cs : List Value, (loadCells a ds.length).run P w = .ok cs.toArray w ∧ relL ds I cs := by
  obtain ⟨hsp, cs, T, fz, hb, hr⟩ := h
  have hlen := relL_length hr
  refine ⟨_, ?_, hr⟩
  have := run_loadCells_list (P := P) w a ((cs.toList.drop a.off).take ds.length) (fun j v hj => by
    obtain ⟨u, hu, _⟩ := at_cell hi ⟨hsp, cs, T, fz, hb, hr⟩ j (ds[j]'(by rw [hlen]; exact (List.getElem?_eq_some_iff.1 hj).1)) (by simp)
    rw [hu]
    have hh := hi.imm _ _ hb
    have hadd : a.add j = ⟨a.block, a.off + j, none⟩ := by
      obtain ⟨b, o, s⟩ := a
      simp only at hsp
      subst hsp
      exact Addr.add_lit b o j
    rw [hadd] at hu
    simp only [World.cell?, hh] at hu
    rw [List.getElem?_take] at hj
    split at hj
    · rw [List.getElem?_drop, Array.getElem?_toList] at hj
      simp at hu
      rw [hj] at hu
      exact hu.symm
    · cases hj)
  rwa [← hlen] at this

theorem loc_load1 {t : TypeId} [ht : TyV P t false 1] {x : Operand} {d : D} {ds : List D} (hx : opd g x = some (dBox (d :: ds))) : LocP P ⟨dst, .load t x, ty, pos, after, gd⟩ g N M d :=
  locP_of_run fun I a w hs hi => by
    obtain ⟨p, hp, hat⟩ := opd_sound hs hx
    obtain ⟨v, hv, hd⟩ := run_load_at (P := P) hi hat
    exact ⟨v, by simp [execOp, hp, Instr.loadAt, Instr.sureAddr, loadVar, run_isAgg ht, -run_load, hv], hd⟩

theorem loc_loadN {t : TypeId} {n : Nat} [ht : TyV P t true n] {x : Operand} {ds : List D} (hx : opd g x = some (dBox ds)) (hn : Nat.ble n ds.length = true) : LocP P ⟨dst, .load t x, ty, pos, after, gd⟩ g N M (dAgg (ds.take n)) :=
  locP_of_run fun I a w hs hi => by
    obtain ⟨p, hp, hat⟩ := opd_sound hs hx
    obtain ⟨cs, hv, hd⟩ := run_loadCells_at (P := P) hi (at_take n hat)
    have hl : (ds.take n).length = n := by rw [List.length_take]; exact Nat.min_eq_left (Nat.le_of_ble_eq_true hn)
    rw [hl] at hv
    exact ⟨.agg cs.toArray, by simp [execOp, hp, Instr.loadAt, Instr.sureAddr, loadVar, run_isAgg ht, run_sizeOf ht, hv], _, rfl, by simpa using hd⟩

theorem loc_fieldAddr {s : TypeId} {i off n : Nat} {agg : Bool} [hf : TyFld P s i off n agg] {x : Operand} {ds : List D} (hx : opd g x = some (dBox ds)) : LocP P ⟨dst, .fieldAddr s x i, ty, pos, after, gd⟩ g N M (dBox (ds.drop off)) :=
  locP_of_run fun I a w hs hi => by
    obtain ⟨p, hp, hat⟩ := opd_sound hs hx
    obtain ⟨fs, fd, hu, hfi, hoff, hsz, _⟩ := hf.eq
    refine ⟨.pointer (some (p.add off)), ?_, _, rfl, at_drop off hat⟩
    simp [execOp, hp, Instr.fieldAt, run_underlying hu, hfi, Instr.sureAddr, fieldPlace, run_sizeOf' hsz, hoff]

theorem loc_field1 {s : TypeId} {i off : Nat} [hf : TyFld P s i off 0 false] {x : Operand} {ds : List D} {d : D} (hx : opd g x = some (dAgg ds)) (hd : ds[off]? = some d) : LocP P ⟨dst, .field s x i, ty, pos, after, gd⟩ g N M d :=
  locP_of_run fun I a w hs hi => by
    obtain ⟨cs, hp, hr⟩ := opd_sound hs hx
    obtain ⟨fs, fd, hu, hfi, hoff, hsz, hag⟩ := hf.eq
    obtain ⟨v, hv, hd'⟩ := relL_get hr off d hd
    refine ⟨v, ?_, hd'⟩
    have h1 := run_isAgg (P := P) (t := fd.type) ⟨hag, hsz⟩ w
    simp [execOp, hp, Instr.field, run_underlying hu, hfi, asAgg, part, h1, hoff]
    simp at hv
    simp [hv]

theorem loc_fieldN {s : TypeId} {i off n : Nat} [hf : TyFld P s i off n true] {x : Operand} {ds : List D} (hx : opd g x = some (dAgg ds)) : LocP P ⟨dst, .field s x i, ty, pos, after, gd⟩ g N M (dAgg ((ds.drop off).take (n + 1))) :=
  locP_of_run fun I a w hs hi => by
    obtain ⟨cs, hp, hr⟩ := opd_sound hs hx
    obtain ⟨fs, fd, hu, hfi, hoff, hsz, hag⟩ := hf.eq
    refine ⟨.agg (cs.extract off (off + (n + 1))), ?_, _, rfl, ?_⟩
    · have h1 := run_isAgg (P := P) (t := fd.type) ⟨hag, hsz⟩ w
      have h2 := run_sizeOf' (P := P) hsz w
      simp [execOp, hp, Instr.field, run_underlying hu, hfi, asAgg, part, h1, h2, hoff]
    · have := relL_take (n + 1) (relL_drop off hr)
      rw [Array.toList_extract]
      simpa [List.extract_eq_take_drop] using this

theorem loc_extract {x : Operand} {i : Nat} {ds : List D} {d : D} (hx : opd g x = some (dTup ds)) (hd : ds[i]? = some d) : LocP P ⟨dst, .extract x i, ty, pos, after, gd⟩ g N M d :=
  locP_of_run fun I a w hs hi => by
    obtain ⟨cs, hp, hr⟩ := opd_sound hs hx
    obtain ⟨v, hv, hd'⟩ := relL_get hr i d hd
    simp at hv
    exact ⟨v, by simp [execOp, hp, Instr.extract, hv], hd'⟩

/-! ### Slices that no longer change -/

theorem loc_len {t : TypeId} {e : TypeId} [ht : TySl P t e] {x : Operand} {α : Type} {n : Nat} {f : α → List D} {xs : List α} (hx : opd g x = some (dSl n f xs)) :
    LocP P ⟨dst, .call ⟨.builtin .len, #[x], #[t]⟩, ty, pos, after, gd⟩ g N M (dInt .i64 (xs.length : Nat)) :=
  locP_of_run fun I a w hs hi => by
    obtain ⟨b, cap, hp, _⟩ := opd_sound hs hx
    refine ⟨.int .i64 xs.length, ?_, rfl⟩
    simp [execOp, resolve, invoke, builtin, Builtin.len_, hp, run_underlying ht.eq, goInt]

theorem loc_lenStr {t : TypeId} [ht : TyStr P t] {x : Operand} {s : ByteArray} (hx : opd g x = some (dStr s)) :
    LocP P ⟨dst, .call ⟨.builtin .len, #[x], #[t]⟩, ty, pos, after, gd⟩ g N M (dInt .i64 (s.size : Nat)) :=
  locP_of_run fun I a w hs hi => by
    have hp := opd_sound hs hx
    refine ⟨.int .i64 s.size, ?_, rfl⟩
    simp [execOp, resolve, invoke, builtin, Builtin.len_, show a.eval x = .string s from hp, run_underlying ht.eq, goInt]

/-- An element's place, the index a natural number. -/
theorem loc_index {t : TypeId} {e : TypeId} [ht : TySl P t e] {x y : Operand} {α : Type} [Inhabited α] {n : Nat} {agg : Bool} [hv : TyV P e agg n] {f : α → List D} {xs : List α} {i : Nat} (hx : opd g x = some (dSl n f xs)) (hy : opd g y = some (dInt .i64 (i : Nat))) (hi : i < xs.length) :
    LocP P ⟨dst, .indexAddr t x y, ty, pos, after, gd⟩ g N M (dBox (f (xs[i]?.getD default))) :=
  locP_of_run fun I a w hs hinv => by
    obtain ⟨b, cap, hp, _, _, _, hel⟩ := opd_sound hs hx
    have hyv := opd_sound hs hy
    obtain ⟨_, p, hb, hsp, hat⟩ := hel i xs[i] (by simp [hi])
    subst hb
    refine ⟨.pointer (some (p.add (i * n))), ?_, _, rfl, by simpa [hi] using hat⟩
    have h3 : ¬ (xs.length ≤ i) := by omega
    simp [execOp, Instr.indexAt, hp, show a.eval y = .int .i64 i from hyv, asIntOf, run_underlying ht.eq, h3, run_sizeOf hv]

/-- An element's place, the index any number in range. -/
theorem loc_indexI {t : TypeId} {e : TypeId} [ht : TySl P t e] {x y : Operand} {α : Type} [Inhabited α] {n : Nat} {agg : Bool} [hv : TyV P e agg n] {f : α → List D} {xs : List α} {k : IntKind} {i : Int} (hx : opd g x = some (dSl n f xs)) (hy : opd g y = some (dInt k i)) (hi : 0 ≤ i ∧ i < xs.length) :
    LocP P ⟨dst, .indexAddr t x y, ty, pos, after, gd⟩ g N M (dBox (f (xs[i.toNat]?.getD default))) :=
  locP_of_run fun I a w hs hinv => by
    obtain ⟨b, cap, hp, _, _, _, hel⟩ := opd_sound hs hx
    have hyv := opd_sound hs hy
    have hi' : i.toNat < xs.length := by omega
    obtain ⟨_, p, hb, hsp, hat⟩ := hel i.toNat xs[i.toNat] (by simp [hi'])
    subst hb
    refine ⟨.pointer (some (p.add (i.toNat * n))), ?_, _, rfl, by simpa [hi'] using hat⟩
    simp [execOp, Instr.indexAt, hp, show a.eval y = .int k i from hyv, asIntOf, run_underlying ht.eq, hi, run_sizeOf hv]

/-! ### Calls -/

theorem execOp_call_slot {a : Act} {f : FuncId} {c : Operand} {xs : List Operand} {cap : Array Value} (hc : a.eval c = .func (.func f) #[] cap) (ats : Array TypeId) :
    execOp a.eval ⟨dst, .call ⟨.value c, xs.toArray, ats⟩, ty, pos, after, gd⟩ = callFunc f ((xs.map a.eval).toArray ++ cap) := by
  simp [execOp, resolve, Deferred.ofValue, hc, invoke]

theorem run_callFunc {f : FuncId} (h : TyFn P f) (args : Array Value) (w : World) : (callFunc f args).run P w = .ok (.enter f args) w := by
  obtain ⟨fn, h1, h2, h3⟩ := h.eq
  have h4 : ¬ (fn.name = "runtime.NumGoroutine") := by simpa using h2
  have h5 : fn.body ≠ none := by intro e; simp [e] at h3
  simp [callFunc, h1, h4, h5]

theorem loc_call {f : FuncId} [hf : TyFn P f] {xs : List Operand} {ats : Array TypeId} {Ds : List D} {d : D} (hs : SpecP P f Ds d) (hx : opds g xs = some Ds) :
    LocP P ⟨dst, .call ⟨.value (.func f), xs.toArray, ats⟩, ty, pos, after, gd⟩ g N M d := by
  constructor
  intro I a w K Q hsl hi hK
  unfold Oper.wp
  rw [execOp_call_slot (c := .func f) (f := f) (cap := #[]) rfl, Array.append_empty, run_callFunc hf]
  refine Calls.mono (hs I M w _ (opds_sound hsl hx) hi) ?_
  rintro e w' ⟨v, rfl, J, h1, h2, h3⟩
  exact hK v w' J h1 h2 h3

theorem loc_callM {f : FuncId} [hf : TyFn P f] {xs : List Operand} {ats : Array TypeId} {Ds : List D} {Min : List Res} {σ : Type} {φ : σ → Prop} {d : σ → D} {Mout : σ → List Res} (hs : Spec P f Ds Min φ d Mout) (hx : opds g xs = some Ds) :
    LocM P ⟨dst, .call ⟨.value (.func f), xs.toArray, ats⟩, ty, pos, after, gd⟩ g N Min φ d Mout := by
  constructor
  intro F I a w K Q hsl hi hK
  unfold Oper.wp
  rw [execOp_call_slot (c := .func f) (f := f) (cap := #[]) rfl, Array.append_empty, run_callFunc hf]
  refine Calls.mono (hs I F w _ (opds_sound hsl hx) hi) ?_
  rintro e w' ⟨v, rfl, s, h0, J, h1, h2, h3⟩
  exact hK s v w' J h0 h1 h2 h3

end Go.Q
