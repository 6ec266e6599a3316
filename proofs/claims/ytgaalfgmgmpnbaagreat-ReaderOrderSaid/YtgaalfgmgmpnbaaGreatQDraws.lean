/- The lowest bit; the lesser of two: what is proved here holds of every program. -/
import Derived.Test.YtgaalfgmgmpnbaaGreatQRound
import Derived.Test.YtgaalfgmgmpnbaaGreatQDraw2
import Derived.Test.YtgaalfgmgmpnbaaGreatQPlainA
set_option linter.unusedVariables false
set_option linter.unusedSimpArgs false
namespace Go.Q
variable {P : Program} {N : Nat} {g : G} {M : List Res}
variable {dst : Option Tmp} {ty : TypeId} {pos : String} {after : Array Edge} {gd : Option (Nat × Bool)} {x y : Operand} {t t' : TypeId} {m n : Int}
theorem loc_and1 (hx : opd g x = some (dInt .i64 m)) (hy : opd g y = some (dInt .i64 1)) (h : 0 ≤ m ∧ m < 9223372036854775808) : LocP P ⟨dst, .binOp .and t x y t', ty, pos, after, gd⟩ g N M (dInt .i64 (m % 2)) :=
 locP_of_run fun I a w hs _ => by
  refine ⟨_, run_binOp_int (opd_sound hs hx) (opd_sound hs hy) (by simp [binOp, Op.intBits]; rfl), ?_⟩
  obtain ⟨c, rfl⟩ := Int.eq_ofNat_of_zero_le h.1
  have e1 : (BitVec.ofInt 64 (c : Int)).toNat = c := by rw [BitVec.toNat_ofInt]; omega
  have e2 : (BitVec.ofInt 64 (1 : Int)).toNat = 1 := by decide
  show Value.int .i64 (IntKind.i64.wrap ((BitVec.ofInt 64 (c : Int) &&& BitVec.ofInt 64 1).toNat : Nat)) = _
  rw [BitVec.toNat_and, e1, e2, Nat.and_one_is_mod, IntWalk.i64_in _ (by omega)]
  congr 1
theorem loc_max (hx : opd g x = some (dInt .i64 m)) (hy : opd g y = some (dInt .i64 n)) : LocP P ⟨dst, .call ⟨.builtin .max, #[x, y], #[t, t']⟩, ty, pos, after, gd⟩ g N M (dInt .i64 (max m n)) :=
 locP_of_run fun I a w hs _ => by
  have h1 := opd_sound hs hx
  have h2 := opd_sound hs hy
  refine ⟨.int .i64 (max m n), ?_, rfl⟩
  simp [execOp, resolve, invoke, builtin, show a.eval x = .int .i64 m from h1, show a.eval y = .int .i64 n from h2, run_max_int2]
  rw [Int.max_def]
  split <;> split <;> first | rfl | omega | (congr 1; omega)
section
variable {dst : Option Tmp}
theorem loc_buildOwn {t e : TypeId} [ht : TySl P t e] {bytes n : Nat} {z : Value} {agg : Bool} [hz : TyZ P e bytes z] [hv : TyV P e agg n] {len : Nat} {α : Type} {f' : α → List D} {xs : List α} {ps : List (Nat × Operand)} {lls : List (List D)}
  (hps : ps = ((ps.map (·.2)).zipIdx 0).map fun p => (p.2, p.1)) (hlen : ps.length = len) (hp : Parts g (ps.map (·.2)) lls) (hx : lls = xs.map f') (hn : (lls.all fun l => Nat.beq l.length n) = true) (hbig : (Nat.ble (len * n) 16777216 && Nat.ble len 16777216) = true) :
  LocM P ⟨dst, .buildSlice t len ps.toArray, ty, pos, after, gd⟩ g N [] (fun _ : Nat => True) (fun b => dVal (.slice (some ⟨b, 0, none⟩) len len)) (fun b => [rRow (.slice (some ⟨b, 0, none⟩) len len) e n f' xs]) := by
  constructor
  intro F I a w K Q hs hi hK
  obtain ⟨css, h1, h2, h3⟩ := hp.vals hs
  obtain ⟨i, hin, hiz, his, hib⟩ := info_of_z hz hv
  simp only [Bool.and_eq_true] at hbig
  have hlm := Nat.le_of_ble_eq_true hbig.2
  have hlls : ∀ l ∈ lls, l.length = n := fun l hl => Nat.eq_of_beq_eq_true (List.all_eq_true.1 hn l hl)
  have hcs : ∀ cs ∈ css, cs.length = n := by
   intro cs hcs
   obtain ⟨j, hj⟩ := List.getElem?_of_mem hcs
   have hjl : j < lls.length := by rw [← h1]; exact (List.getElem?_eq_some_iff.1 hj).1
   obtain ⟨cs', h4, h5⟩ := h3 j lls[j] (by simp [hjl])
   rw [hj] at h4
   injection h4 with h4
   subst h4
   rw [← relL_length h5]
   exact hlls _ (List.getElem_mem ..)
  have hcl : css.length = len := by rw [← h2]; simp [hlen]
  let vs := (ps.map (·.2)).map a.eval
  have hvs : ∀ v ∈ vs, v.cells.size = n := by
   intro v hv
   obtain ⟨x, hx, rfl⟩ := List.mem_map.1 hv
   have := hcs ((a.eval x).cells.toList) (by rw [← h2]; exact List.mem_map.2 ⟨x, hx, rfl⟩)
   simpa using this
  let ar : Array Value := (Array.range (len * n)).map ((if len * n = 0 then #[] else z.cells)[· % (if len * n = 0 then #[] else z.cells).size]!)
  have hars : ar.size = len * n := by simp [ar]
  obtain ⟨ar', hf, hr⟩ := run_fill vs 0 ar hvs (by rw [hars]; simp [vs, hlen])
  have hal : ar'.toList = css.flatten := by
   rw [hr]
   simp only [Nat.zero_mul, List.take_zero, List.nil_append, Nat.zero_add]
   have hvl : vs.length = len := by simp [vs, hlen]
   rw [hvl, List.drop_eq_nil_of_le (by simp [hars]), List.append_nil, ← h2]
   simp [vs, List.flatMap, List.map_map, Function.comp_def]
  have hrun : (execOp a.eval ⟨dst, .buildSlice t len ps.toArray, ty, pos, after, gd⟩).run P w = .ok (.value (.slice (some ⟨w.heap.size, 0, none⟩) len len)) (w.alloc (.cells ar' e)) := by
   have hmap : (ps.toArray.map fun (p : Nat × Operand) => (p.1, a.eval p.2)).toList = (vs.zipIdx 0).map fun p => (p.2, p.1) := by
    rw [Array.toList_map]
    have : ∀ (xs : List Operand) (k : Nat), ((xs.zipIdx k).map fun p => (p.2, p.1)).map (fun (p : Nat × Operand) => (p.1, a.eval p.2)) = ((xs.map a.eval).zipIdx k).map fun p => (p.2, p.1) := by
     intro xs
     induction xs with
     | nil => intro k; rfl
     | cons x xs ih => intro k; simp only [List.zipIdx_cons, List.map_cons]; rw [ih]
    rw [← this, ← hps]
   have hsz := run_sizeOf hv w
   have hsl := run_underlying ht.eq w
   have hb : ¬ (16777216 < len * n) := by have := Nat.le_of_ble_eq_true hbig.1; omega
   simp only [execOp, Instr.buildSlice, Sem.run_bind, hsl, Result.andThen_ok, hsz]
   rw [if_neg (by simpa using hb)]
   have hf2 : Instr.fill (fun i => some (i * n, n)) ar (ps.toArray.map fun (p : Nat × Operand) => (p.1, a.eval p.2)).toList = some ar' := by rw [hmap]; exact hf
   by_cases h0 : len * n = 0
   ·have har : ar = (Array.range (len * n)).map ((#[] : Array Value)[· % (#[] : Array Value).size]!) := by simp only [ar, if_pos h0]
    rw [har] at hf2
    rw [if_pos h0]
    simp only [Sem.run_bind, Sem.run_pure, Result.andThen_ok, hf2]
    simp [newRow]
   ·have har : ar = (Array.range (len * n)).map (z.cells[· % z.cells.size]!) := by simp only [ar, if_neg h0]
    rw [har] at hf2
    rw [if_neg h0]
    have hzv : (zeroValue e).run P w = .ok z w := by simp [zeroValue, typeInfo, hin, hiz]
    simp only [Sem.run_bind, Sem.run_pure, Result.andThen_ok, hzv, hf2]
    simp [newRow]
  have hrel := relL_flat h1 h3
  rw [← hal] at hrel
  have hlle : lls.length = len := by rw [← h1, hcl]
  have hfl : relL (lls.flatMap fun l => l) I ar'.toList := by simpa [List.flatMap] using hrel
  have hxl : xs.length = len := by rw [← hlle, hx]; simp
  have hfl2 : relL (xs.flatMap f') I ar'.toList := by rw [hx] at hfl; simpa [List.flatMap, List.map_map, Function.comp_def] using hfl
  have hxn : ∀ x ∈ xs, (f' x).length = n := fun x hxm => hlls _ (by rw [hx]; exact List.mem_map_of_mem hxm)
  have hsz2 : ar'.size = len * n := by
   have e1 := relL_length hfl2
   rw [flatMap_length hxn, hxl] at e1
   simpa using e1.symm
  unfold Oper.wp
  rw [hrun]
  refine hK w.heap.size _ _ I trivial I.le_refl rfl (hi.allocOwn _ _ rfl ⟨w.heap.size, len, ar', by rw [hxl], rfl, hsz2, by omega, by simp only [maxLen]; omega, by unfold lenMax; omega, hxn, ?_⟩)
  rw [hxl, ← hsz2, List.take_of_length_le (by simp)]
  exact hfl2
end
theorem LocP.imp {o : Oper} {d d' : D} (h : LocP P o g N M d) (hd : ∀ I v, d.rel I v → d'.rel I v) : LocP P o g N M d' :=
 ⟨fun I a w K Q hs hi hK => h.go I a w K Q hs hi fun v w' J h1 h2 h3 => hK v w' J h1 (hd _ _ h2) h3⟩
theorem relL3 {a b c : D} {I : Imm} {vs : List Value} (h : relL [a, b, c] I vs) : ∃ u v x, vs = [u, v, x] ∧ a.rel I u ∧ b.rel I v ∧ c.rel I x := by
 match vs, h with
 | [u, v, x], ⟨h1, h2, h3, _⟩ => exact ⟨u, v, x, rfl, h1, h2, h3⟩
theorem d_tup3 {a a' b b' c c' : D} (h1 : ∀ I v, a.rel I v → a'.rel I v) (h2 : ∀ I v, b.rel I v → b'.rel I v) (h3 : ∀ I v, c.rel I v → c'.rel I v) : ∀ I v, (dTup [a, b, c]).rel I v → (dTup [a', b', c']).rel I v := by
 rintro I v ⟨cs, e, r⟩
 obtain ⟨u, w, x, e2, r1, r2, r3⟩ := relL3 r
 exact ⟨cs, e, by rw [e2]; exact ⟨h1 _ _ r1, h2 _ _ r2, h3 _ _ r3, trivial⟩⟩
theorem d_toTape {d : D} {t t' : Tape} (e : t = t') (h : ∀ I v, d.rel I v → (dTape t').rel I v) : ∀ I v, d.rel I v → (dTape t).rel I v := e ▸ h
theorem d_toInts {d : D} {t t' : List Int} (e : t = t') (h : ∀ I v, d.rel I v → (dInts t').rel I v) : ∀ I v, d.rel I v → (dInts t).rel I v := e ▸ h
theorem d_toRows {d : D} {t t' : List (List Int)} (e : t = t') (h : ∀ I v, d.rel I v → (dRows t').rel I v) : ∀ I v, d.rel I v → (dRows t).rel I v := e ▸ h
end Go.Q

namespace Go.Q
variable {P : Program} {N : Nat} {g : G} {M : List Res}
variable {dst : Tmp} {ty : TypeId} {pos : String} {after : Array Edge} {gd : Option (Nat × Bool)} {x y : Operand}
theorem LocM.frzB {o : Oper} {T n : Nat} {α : Type} {f' : α → List D} {xs : List α} {Fv : Nat → Value} {r : Nat → Res} (h : LocM P o g N [] (fun _ : Nat => True) (fun b => dVal (Fv b)) (fun b => [r b]))
  (hr : ∀ b I F w, Inv I (r b :: F) w → Inv I (rRow (Fv b) T n f' xs :: F) w) : LocP P o g N M (dSl n f' xs) := by
 constructor
 intro I a w K Q hs hi hK
 refine h.go M I a w K Q hs hi fun v u w' J _ h1 h2 h3 => ?_
 obtain ⟨J', h4, h5, h6⟩ := row_freeze (hr _ _ _ _ h3)
 refine hK u w' J' (h1.trans h4) ?_ h6
 rw [show u = Fv v from h2]
 exact h5
theorem loc_makeFrz {t e : TypeId} [ht : TySl P t e] {bytes : Nat} {z : Value} [hz : TyZ P e bytes z] [hv : TyV P e false 1] {m : Int} (hx : opd g x = some (dInt .i64 m)) (hy : opd g y = some (dInt .i64 m)) (hm : 0 ≤ m ∧ m ≤ 17592186044416) (hb : m * bytes ≤ 281474976710656)
  {α : Type} (d : α → D) (e0 : α) (he : zeroDs z = [d e0]) (hzt : ∀ vs, z ≠ .tuple vs) : LocP P ⟨some dst, .makeSlice t x y, ty, pos, after, gd⟩ g N M (dSl 1 (fun e => [d e]) (List.replicate m.toNat e0)) :=
 (loc_makeSlice hx hy hm hb d e0 he hzt).frzB (fun b I F w h => h)
theorem inv_bufUp {b T n : Nat} {els els' : List (List D)} {I : Imm} {F : List Res} {w : World} (h2 : Inv I (rBuf b T n els :: F) w) (hl : ∀ e ∈ els', e.length = n) (hup : ∀ J vs, relL els.flatten J vs → relL els'.flatten J vs) : Inv I (rBuf b T n els' :: F) w := by
 refine ⟨h2.os, h2.tape, h2.output, h2.imm, fun r hr => ?_, h2.apart⟩
 rcases List.mem_cons.1 hr with rfl | hr
 ·obtain ⟨hb, o, h3, cs, h4, h5, h6⟩ := h2.own _ (List.mem_cons_self ..)
  exact ⟨hb, o, h3, cs, h4, hl, hup _ _ h6⟩
 ·exact h2.own r (List.mem_cons_of_mem _ hr)
theorem loc_makeFrzN {t e n : Nat} {ag : Bool} [ht : TySl P t e] {bytes : Nat} {z : Value} [hz : TyZ P e bytes z] [hv : TyV P e ag n] {k : Int} {m : Nat} (hx : opd g x = some (dInt .i64 k)) (hy : opd g y = some (dInt .i64 k)) (hk : k = (m : Nat)) (hm : 0 < m ∧ m ≤ 17592186044416) (hb : (m : Int) * bytes ≤ 281474976710656)
  (hl : Nat.beq (zeroDs z).length n = true) (h0 : 0 < n) (hzt : ∀ vs, z ≠ .tuple vs) {α : Type} (f' : α → List D) (e0 : α) (hup : ∀ J vs, relL (zeroDs z) J vs → relL (f' e0) J vs) (hfl : (f' e0).length = n) :
  LocP P ⟨some dst, .makeSlice t x y, ty, pos, after, gd⟩ g N M (dSl n f' (List.replicate m e0)) := by
 subst hk
 have hml : m ≤ maxLen ∧ m ≤ lenMax := by unfold maxLen lenMax; omega
 refine (loc_makeSliceN hx hy hm hb hl h0 hzt).frzB (T := e) (fun b I F w h => ?_)
 have h1 := inv_bufUp (els' := (List.replicate m e0).map f') h (fun q hq => by obtain ⟨_, hr, rfl⟩ := List.mem_map.1 hq; rw [List.eq_of_mem_replicate hr]; exact hfl) (by
  rw [List.map_replicate]
  exact fun J vs hv => relL_repUp hup (by rw [hfl]; exact Nat.eq_of_beq_eq_true hl) m J vs hv)
 exact inv_shut h1 (els' := []) (by simp) (by simp) (by simp) hml.1 (by simpa using hml.2)
end Go.Q

namespace Go.Q
variable {P : Program} {N : Nat} {g : G} {σ : Type} {l : List Oper} {us : List Info} {C : Ch σ}
variable {fs : List (Nat × (σ → D) × (σ → D))} {vs : List (List (σ → Res))} {os : List (Nat × (σ → D))} {i : Nat} {M : List Res} {I0 : Imm} {f : FuncId} {R : Goal} {k : List Item}
variable {id : Nat} {rest : List Oper} {urest : List Info} {dst : Tmp} {op : Op} {ty : TypeId} {pos : String} {after : Array Edge} {need : List (Nat × Option (Nat × Bool))} {anc : List Nat} {c : σ → G}
end Go.Q

namespace Go.Q
variable {P : Program} {N : Nat} {g : G} {M : List Res}
variable {dst : Option Tmp} {ty : TypeId} {pos : String} {after : Array Edge} {gd : Option (Nat × Bool)}
def dIface (t : TypeId) (d : D) : D := ⟨fun I v => ∃ u, v = .iface t u ∧ d.rel I u, fun h ⟨u, e, r⟩ => ⟨u, e, d.mono h r⟩⟩
instance (t : TypeId) (d : D) : One (dIface t d) := ⟨fun ⟨_, h, _⟩ => by rw [h]; exact ⟨rfl, rfl⟩⟩
class TyConc (P : Program) (t : TypeId) : Prop where
 eq : ∀ w : World, ∀ v, (Instr.makeInterface t v).run P w = .ok (.iface t v) w
class TyMeth (P : Program) (t : TypeId) (name : String) (f : FuncId) : Prop where
 eq : ∀ (w : World) (v : Value) (args : Array Value), (callMethod (.iface t v) name args).run P w = (callFunc f (#[v] ++ args)).run P w
theorem loc_makeIface {t : TypeId} [ht : TyConc P t] {x : Operand} {d : D} (hx : opd g x = some d) : LocP P ⟨dst, .makeInterface t x, ty, pos, after, gd⟩ g N M (dIface t d) :=
 locP_of_run fun I a w hs hi => ⟨.iface t (a.eval x), by simp [execOp, ht.eq], _, rfl, opd_sound hs hx⟩
def dMeth (P : Program) (name : String) (Ds : List D) (d : D) : D :=
  ⟨fun I v => ∃ (t : TypeId) (u : Value) (f : FuncId) (dr : D), v = .iface t u ∧ TyMeth P t name f ∧ TyFn P f ∧ dr.rel I u ∧ SpecP P f (dr :: Ds) d,
   fun h ⟨t, u, f, dr, e, h1, h2, h3, h4⟩ => ⟨t, u, f, dr, e, h1, h2, dr.mono h h3, h4⟩⟩
theorem iface_meth {t : TypeId} {name : String} {f : FuncId} {dr d : D} {Ds : List D} [hm : TyMeth P t name f] [hf : TyFn P f] (hs : SpecP P f (dr :: Ds) d) : ∀ I v, (dIface t dr).rel I v → (dMeth P name Ds d).rel I v :=
 fun _ _ ⟨u, e, hr⟩ => ⟨t, u, f, dr, e, hm, hf, hr, hs⟩
theorem loc_invokeM {name : String} {x : Operand} {xs : List Operand} {ats : Array TypeId} {Ds : List D} {d' : D} (hr : opd g x = some (dMeth P name Ds d')) (hx : opds g xs = some Ds) :
  LocP P ⟨dst, .call ⟨.invoke x name, xs.toArray, ats⟩, ty, pos, after, gd⟩ g N M d' := by
 constructor
 intro I a w K Q hsl hi hK
 obtain ⟨t, u, f, dr, hu, hm, hf, hd, hs⟩ := opd_sound hsl hr
 unfold Oper.wp
 have he : (execOp a.eval ⟨dst, .call ⟨.invoke x name, xs.toArray, ats⟩, ty, pos, after, gd⟩).run P w = .ok (.enter f (u :: xs.map a.eval).toArray) w := by
  have h1 : (callFunc f (#[u] ++ (xs.map a.eval).toArray)).run P w = .ok (.enter f (#[u] ++ (xs.map a.eval).toArray)) w := run_callFunc hf _ w
  have h2 := hm.eq w u (xs.map a.eval).toArray
  rw [h1] at h2
  have ht : List.take xs.length (xs.map a.eval) = xs.map a.eval := List.take_of_length_le (by simp)
  simpa [execOp, resolve, invoke, hu, ht] using h2
 rw [he]
 refine Calls.mono (hs I M w (u :: xs.map a.eval) ⟨hd, opds_sound hsl hx⟩ hi) ?_
 rintro e w' ⟨v, rfl, J, h1, h2, h3⟩
 exact hK v w' J h1 h2 h3
end Go.Q

namespace Go.Q
variable {P : Program} {g : G} {N : Nat} {M : List Res} {dst : Option Tmp} {ty : TypeId} {pos : String} {after : Array Edge} {gd : Option (Nat × Bool)}
abbrev fU8 : Int → List D := fun x => [dInt .u8 x]
def dBy (xs : List Int) : D :=
  ⟨fun I v => ∃ a cap, v = .slice a xs.length cap ∧ xs.length ≤ cap ∧ cap ≤ maxLen ∧ xs.length ≤ 140737488355328 ∧ (∀ i x, xs[i]? = some x → ∃ p, a = some p ∧ p.spot = none ∧ I.at (p.add (i * 1)) [dInt .u8 x]),
   fun h ⟨a, cap, e, h1, h2, h3, h4⟩ => ⟨a, cap, e, h1, h2, h3, fun i x hx => let ⟨p, h6, h7, h8⟩ := h4 i x hx; ⟨p, h6, h7, Imm.at_mono h h8⟩⟩⟩
theorem dBy_sl {xs : List Int} (h : xs.length ≤ 17592186044416) : ∀ I v, (dBy xs).rel I v → (dSl 1 fU8 xs).rel I v := by
 rintro I v ⟨a, cap, e, h1, h2, h3, h4⟩
 exact ⟨a, cap, e, h1, h2, h, fun i x hx => let ⟨p, h5, h6, h7⟩ := h4 i x hx; ⟨rfl, p, h5, h6, h7⟩⟩
theorem loc_lenBy {t e : TypeId} [ht : TySl P t e] {x : Operand} {xs : List Int} (hx : opd g x = some (dBy xs)) : LocP P ⟨dst, .call ⟨.builtin .len, #[x], #[t]⟩, ty, pos, after, gd⟩ g N M (dInt .i64 (xs.length : Nat)) :=
 locP_of_run fun I a w hs hi => by
  obtain ⟨b, cap, hp, _⟩ := opd_sound hs hx
  exact ⟨.int .i64 xs.length, by simp [execOp, resolve, invoke, builtin, Builtin.len_, hp, run_underlying ht.eq, goInt], rfl⟩
theorem loc_sliceToBy {t e : TypeId} {agg : Bool} {n : Nat} [ht : TySl P t e] [hv : TyV P e agg n] {x hi : Operand} {xs : List Int} {kd : IntKind} {j : Int} (hx : opd g x = some (dBy xs)) (hy : opd g hi = some (dInt kd j)) (h : 0 ≤ j ∧ j ≤ xs.length ∧ j ≤ 17592186044416) :
  LocP P ⟨dst, .slice t x none (some hi) none, ty, pos, after, gd⟩ g N M (dSl 1 fU8 (xs.take j.toNat)) :=
 locP_of_run fun I a w hs hinv => by
  obtain ⟨b, cap, hp, h1, h2, h3, h4⟩ := opd_sound hs hx
  have hyv : a.eval hi = .int kd j := opd_sound hs hy
  have hc : (0 ≤ j ∧ j ≤ (cap : Int)) := by omega
  refine ⟨.slice (if cap = 0 then b else b.map (·.add 0)) j.toNat cap, ?_, b, cap, ?_, by rw [List.length_take]; omega, h2, by rw [List.length_take]; unfold lenMax; omega, fun i x hx => ?_⟩
  ·simp [execOp, Instr.sliceAt, Instr.slice, hp, hyv, run_underlying ht.eq, Instr.sliceBounds, Instr.sliceBound, asIntOf, hc, run_sizeOf hv]
  ·have : (if cap = 0 then b else b.map (·.add 0)) = b := by
    split
    ·rfl
    ·cases b with
     | none => rfl
     | some p => simp [Addr.add_zero']
   rw [this, List.length_take]
   congr 1
   omega
  ·rw [List.getElem?_take] at hx
   split at hx
   ·obtain ⟨p, h5, h6, h7⟩ := h4 i x hx
    exact ⟨rfl, p, h5, h6, h7⟩
   ·cases hx

theorem loc_orH {c0 : Prop} (hg : c0) {c b : Operand} {p q : Prop} (hc : opd g c = some (dIf c0 (dB p))) (hb : opd g b = some (dIf (c0 ∧ ¬ p) (dB q))) : LocP P ⟨dst, .pick c (.const (.bool true)) b, ty, pos, after, gd⟩ g N M (dB (p ∨ q)) :=
 locP_of_run fun I a w hs _ => by
  obtain ⟨t, ht, hp⟩ := (opd_sound hs hc).1 hg
  have hq := opd_sound hs hb
  cases t with
  | true => exact ⟨.bool true, by simp [execOp, ht, asBool, show a.eval (.const (.bool true)) = .bool true from rfl], true, rfl, by simp [hp.1 rfl]⟩
  | false =>
   have hnp : ¬ p := fun h => by simpa using hp.2 h
   obtain ⟨u, hu, hq⟩ := hq.1 ⟨hg, hnp⟩
   exact ⟨.bool u, by simp [execOp, ht, asBool, hu], u, rfl, by simp [hq, hnp]⟩
end Go.Q

namespace Go.Q
variable {P : Program} {f : FuncId}
theorem relL_swap {v : Value} {d : D} {B : List D} {J J' : Imm} (hle : J.le J') (hd : d.rel J' v) : ∀ {A : List D} {vs : List Value}, relL (A ++ dSlV v :: B) J vs → relL (A ++ d :: B) J' vs
 | [], [], h => h.elim
 | [], u :: us, h => by
  obtain ⟨⟨e, _⟩, h2⟩ := h
  subst e
  exact ⟨hd, relL_mono hle h2⟩
 | a :: A, [], h => h.elim
 | a :: A, u :: us, h => ⟨D.mono _ hle h.1, relL_swap hle hd (A := A) h.2⟩
variable {Ds : List D} {Min : List Res} {A : List D} {T1 n1 T2 n2 : Nat} {α β : Type} {f1 : α → List D} {f2 : β → List D} {xs1 : List α} {xs2 : List β}
theorem els_get {α : Type} [Inhabited α] {xs : List α} {f' : α → List D} {r : List (List D)} {q i : Nat} (h : i < xs.length) (hq : q = i) : (xs.map f' ++ r)[q]? = some (f' (xs[i]?.getD default)) := by
 subst hq
 rw [List.getElem?_append_left (by simpa using h), List.getElem?_map, List.getElem?_eq_getElem h]
 rfl
theorem els_same {α : Type} [Inhabited α] {xs : List α} {f' : α → List D} {r : List (List D)} {q i : Nat} {e : List D} (h : i < xs.length) (hq : q = i) (he : e = f' (xs[i]?.getD default)) : (xs.map f' ++ r).set q e = xs.map f' ++ r := by
 subst hq he
 have h2 : q < (xs.map f' ++ r).length := by simp; omega
 refine List.ext_getElem? fun j => ?_
 rw [List.getElem?_set]
 split
 ·rename_i e; subst e; try rw [if_pos h2]
  exact (els_get h rfl).symm
 ·rfl
theorem spec_rowV {φ : Value → Prop} {xs : List α} (h : Spec P f Ds Min (σ := Value) φ (fun v => dVal v) (fun v => [rRow v T1 n1 f1 xs])) : Spec P f Ds Min (σ := Value) φ (fun v => dSlV v) (fun v => [rRow v T1 n1 f1 xs]) := by
 intro I F w vs hv hi
 refine (h I F w vs hv hi).mono ?_
 rintro e w' ⟨v, rfl, s, hφ, J, h1, h2, h3⟩
 refine ⟨_, rfl, s, hφ, J, h1, ⟨h2, ?_⟩, h3⟩
 rw [show v = s from h2]
 rcases row_cases h3 with ⟨h4, _⟩ | ⟨b', cap, cs', h4, _⟩
 ·exact ⟨_, _, _, h4⟩
 ·exact ⟨_, _, _, h4⟩
theorem set_self {α : Type} [Inhabited α] {xs : List α} {i : Nat} (h : i < xs.length) : xs.set i (xs[i]?.getD default) = xs := by
 refine List.ext_getElem? fun j => ?_
 rw [List.getElem?_set]
 split
 ·rename_i e; subst e; try rw [if_pos h]
  rw [List.getElem?_eq_getElem h]; rfl
 ·rfl
end Go.Q

namespace Go.Q
variable {P : Program} {f : FuncId} {N : Nat} {I0 : Imm} {R : Goal} {g : G} {M : List Res} {k : List Item}
end Go.Q

namespace Go.Q
structure GoN (n : Nat) (P : Prop) : Prop where
 go : P
structure Left (Q : Prop) : Prop where
 q : Q
theorem GoN.zero {P : Prop} (h : Left P) : GoN 0 P := ⟨h.q⟩
theorem oneAll_nil : OneAll [] := inferInstance
theorem oneAll_cons {d : D} {ds : List D} [h1 : One d] (h2 : OneAll ds) : OneAll (d :: ds) := inferInstance
theorem fills_one {g : G} {pl : List (Nat × Nat)} {i off : Nat} {x : Operand} {d : D} {ps : List (Nat × Operand)} {zs out : List D} (h1 : pl[i]? = some (off, 1)) (h2 : opd g x = some d) (h3 : Nat.blt off zs.length = true) (h4 : One d) (h5 : Fills g pl ps (zs.set off d) out) : Fills g pl ((i, x) :: ps) zs out := .one h1 h2 h3 h5
theorem ly {P : Program} {o : Oper} {g : G} {N : Nat} {M : List Res} {d : D} (h : LocP P o g N M d := by
  first
  | exact loc_move rfl
  | exact loc_assign rfl
  | (show LocP _ ⟨_, Op.load _ _, _, _, _, _⟩ _ _ _ _
     first
     | exact loc_load1 rfl
     | exact loc_loadN rfl rfl
     | exact loc_loadOwnN rfl (by repeat (first | exact In.here | refine In.there ?_)) (by rfl)
     | exact loc_loadOwn1 rfl (by repeat (first | exact In.here | refine In.there ?_)) (by rfl)
     | exact loc_loadRow1 rfl (by repeat (first | exact In.here | refine In.there ?_)) (by first | omega | assumption))
  | (show LocP _ ⟨_, Op.fieldAddr _ _ _, _, _, _, _⟩ _ _ _ _
     first | exact loc_fieldAddr rfl | exact loc_fieldAddrOwn rfl)
  | (show LocP _ ⟨_, Op.indexAddr _ _ _, _, _, _, _⟩ _ _ _ _
     first
     | exact loc_index rfl rfl (by first | omega | assumption)
     | exact loc_indexI rfl rfl (by first | omega | assumption)
     | exact loc_indexRow rfl rfl (by first | omega | assumption)
     | exact loc_indexRowI rfl rfl (by first | omega | assumption))
  | (show LocP _ ⟨_, Op.binOp _ _ _ _ _, _, _, _, _⟩ _ _ _ _
     first
     | exact loc_add rfl rfl (by first | omega | assumption)
     | exact loc_sub rfl rfl (by first | omega | assumption)
     | exact loc_mul rfl rfl (by first | omega | assumption)
     | exact loc_lss rfl rfl
     | exact loc_eql rfl rfl
     | exact loc_neq rfl rfl
     | exact loc_gtr rfl rfl
     | exact loc_geq rfl rfl
     | exact loc_leq rfl rfl
     | exact loc_rem rfl rfl (by first | omega | assumption)
     | exact loc_quo rfl rfl (by first | omega | assumption)
     | exact loc_addU rfl rfl (by first | omega | assumption)
     | exact loc_subU rfl rfl (by first | omega | assumption)
     | exact loc_mulU rfl rfl (by first | omega | assumption)
     | exact loc_addW rfl rfl
     | exact loc_subW rfl rfl
     | exact loc_mulW rfl rfl
     | exact loc_remW rfl rfl (by first | omega | assumption)
     | exact loc_quoW rfl rfl (by first | omega | assumption))
  | (show LocP _ ⟨_, Op.extract _ _, _, _, _, _⟩ _ _ _ _
     exact loc_extract rfl rfl)
  | (show LocP _ ⟨_, Op.box _ _, _, _, _, _⟩ _ _ _ _
     first | exact loc_boxN rfl | exact loc_box1 rfl)
  | (show LocP _ ⟨_, Op.field _ _ _, _, _, _, _⟩ _ _ _ _
     first | exact loc_field1 rfl rfl | exact loc_fieldN rfl)
  | (show LocP _ ⟨_, Op.pick _ _ _, _, _, _, _⟩ _ _ _ _
     first | exact loc_or rfl rfl | exact loc_and rfl rfl)
  | exact loc_not rfl
  | (show LocP _ ⟨_, Op.call _, _, _, _, _⟩ _ _ _ _
     first
     | exact loc_len rfl
     | exact loc_lenOwn rfl
     | exact loc_lenRow rfl (by repeat (first | exact In.here | refine In.there ?_)))
  | (show LocP _ ⟨_, Op.build _ _, _, _, _, _⟩ _ _ _ _
     exact loc_build (by repeat (first | exact Fills.nil | (apply fills_one; exact rfl; exact rfl; exact rfl; infer_instance) | (apply Fills.agg; exact rfl; exact rfl; exact rfl; exact rfl))))
  | (show LocP _ ⟨_, Op.nilCheck _, _, _, _, _⟩ _ _ _ _
     first | exact loc_nilCheck rfl | exact loc_nilCheckOwn rfl)
  | exact loc_makeIface rfl
  | exact loc_makeFunc rfl) : LocP P o g N M d := h
section
variable {P : Program} {f : FuncId} {N : Nat} {I0 : Imm} {R : Goal} {g : G} {M : List Res} {k : List Item} {n : Nat}
variable {ty : TypeId} {pos : String} {after : Array Edge} {ops : Array Oper} {rest : List Oper} {dst : Tmp} {op : Op} {d : D}
theorem GoN.seq {x y : Code} (h : GoN n (Run P f N I0 R g M (.code x :: .code y :: k))) : GoN (n + 1) (Run P f N I0 R g M (.code (.seq x y) :: k)) := ⟨run_seq h.go⟩
theorem GoN.region {id : Nat} {l : List Oper} (h : GoN n (RunL P f N I0 R g M l.toArray l k)) : GoN (n + 1) (Run P f N I0 R g M (.code (.region id l.toArray false) :: k)) := ⟨run_region h.go⟩
theorem GoN.nil (h : GoN n (Run P f N I0 R g M k)) : GoN (n + 1) (RunL P f N I0 R g M ops [] k) := ⟨run_nil h.go⟩
theorem GoN.skip (h : GoN n (Run P f N I0 R g M k)) : GoN (n + 1) (Run P f N I0 R g M (.code .skip :: k)) := ⟨run_skip h.go⟩
theorem GoN.block {id : Nat} {x : Code} (h : GoN n (Run P f N I0 R g M (.code x :: .inBlock id :: k))) : GoN (n + 1) (Run P f N I0 R g M (.code (.block id x) :: k)) := ⟨run_block h.go⟩
theorem GoN.inBlock {id : Nat} (h : GoN n (Run P f N I0 R g M k)) : GoN (n + 1) (Run P f N I0 R g M (.inBlock id :: k)) := ⟨run_inBlock h.go⟩
theorem GoN.exit {id : Nat} {k' : List Item} (he : exitTo id k = some k') (h : GoN n (Run P f N I0 R g M k')) : GoN (n + 1) (Run P f N I0 R g M (.code (.exit id) :: k)) := ⟨run_exit he h.go⟩
theorem GoN.opr (hd : LocP P ⟨some dst, op, ty, pos, after, none⟩ g N M d) (hN : Nat.blt dst N = true) (h : GoN n (RunL P f N I0 R ((dst, d) :: g) M ops rest k)) : GoN (n + 1) (RunL P f N I0 R g M ops (⟨some dst, op, ty, pos, after, none⟩ :: rest) k) := ⟨run_op hd hN h.go⟩
theorem GoN.leave {c : Prop} {gt : G} {l : List Oper} (h : GoN n (RunL P f N I0 R g M ops l k)) : GoN (n + 1) (RunLG P f N I0 R c gt g M ops l k) := ⟨run_gleave h.go⟩
theorem GoN.gop {l : List Oper} {gs : Tmp} {j : Nat} {want : Bool} {dg : D} {c : Prop} {gt : G} (hj : (l[j]?).bind (·.dst) = some gs) (hg : look g gs = some dg) (hgd : guardD want dg c)
  (hd : c → LocP P ⟨some dst, op, ty, pos, after, some (j, want)⟩ gt N M d) (hN : Nat.blt dst N = true) (h : GoN n (RunLG P f N I0 R c ((dst, d) :: gt) ((dst, dIf c d) :: g) M l.toArray rest k)) :
  GoN (n + 1) (RunLG P f N I0 R c gt g M l.toArray (⟨some dst, op, ty, pos, after, some (j, want)⟩ :: rest) k) := ⟨run_gop hj hg hgd hd hN h.go⟩
theorem GoN.gfirst {l : List Oper} {gs : Tmp} {j : Nat} {want : Bool} {dg : D} {c : Prop} (hj : (l[j]?).bind (·.dst) = some gs) (hg : look g gs = some dg) (hgd : guardD want dg c)
  (hd : c → LocP P ⟨some dst, op, ty, pos, after, some (j, want)⟩ g N M d) (hN : Nat.blt dst N = true) (h : GoN n (RunLG P f N I0 R c ((dst, d) :: g) ((dst, dIf c d) :: g) M l.toArray rest k)) :
  GoN (n + 1) (RunL P f N I0 R g M l.toArray (⟨some dst, op, ty, pos, after, some (j, want)⟩ :: rest) k) := ⟨run_gfirst hj hg hgd hd hN h.go⟩
theorem GoN.store1 {t T : TypeId} [ht : TyV P t false 1] {b kk : Nat} {ds : List D} {d : D} {x y : Operand} {C : Res → List Res} {F : List Res} (hx : opd g x = some (dVal (ptr b kk))) (hy : opd g y = some d) (ho : One d) (hs : Sel (rCells b T ds) M C F) (hk : Nat.blt kk ds.length = true)
  (h : GoN n (RunL P f N I0 R g (C (rCells b T (ds.set kk d))) ops rest k)) : GoN (n + 1) (RunL P f N I0 R g M ops (⟨none, .store t x y, ty, pos, after, none⟩ :: rest) k) := ⟨run_store1 (ho := ho) hx hy hs hk h.go⟩
theorem GoN.storeN {t T : TypeId} {m : Nat} [ht : TyV P t true m] {b kk : Nat} {ds es : List D} {x y : Operand} {C : Res → List Res} {F : List Res} (hx : opd g x = some (dVal (ptr b kk))) (hy : opd g y = some (dAgg es)) (ho : OneAll es) (hs : Sel (rCells b T ds) M C F) (hk : (Nat.beq es.length m && Nat.ble (kk + m) ds.length) = true)
  (h : GoN n (RunL P f N I0 R g (C (rCells b T (ds.take kk ++ es ++ ds.drop (kk + es.length)))) ops rest k)) : GoN (n + 1) (RunL P f N I0 R g M ops (⟨none, .store t x y, ty, pos, after, none⟩ :: rest) k) := ⟨run_storeN (ho := ho) hx hy hs hk h.go⟩
end
section
variable {P : Program} {N : Nat} {g : G} {σ : Type} {l : List Oper} {us : List Info} {C : Ch σ} {n : Nat}
variable {fs : List (Nat × (σ → D) × (σ → D))} {vs : List (List (σ → Res))} {os : List (Nat × (σ → D))} {i : Nat} {M : List Res} {I0 : Imm} {f : FuncId} {R : Goal} {k : List Item}
variable {id : Nat} {rest : List Oper} {urest : List Info} {dst : Tmp} {op : Op} {ty : TypeId} {pos : String} {after : Array Edge} {need : List (Nat × Option (Nat × Bool))} {anc : List Nat} {d : σ → D} {c : σ → G}
theorem GoN.dq (hix : nElem C.X i = false) (hcx : ∀ s, CtxR g fs s need (c s)) (h : ∀ s, C.good anc s → ∀ M, LocP P ⟨some dst, op, ty, pos, after, none⟩ (c s) N M (d s)) (hc : AllX C.X fun x => nElem anc x = true ∨ ∀ s s', C.E x s s' → d s = d s')
  (next : GoN n (DR P f N I0 R g M l us C id k ((i, d, d) :: fs) vs ((dst, d) :: os) (i + 1) rest urest)) :
  GoN (n + 1) (DR P f N I0 R g M l us C id k fs vs os i (⟨some dst, op, ty, pos, after, none⟩ :: rest) (⟨need, anc, none⟩ :: urest)) := ⟨dq_pure hix hcx h hc next.go⟩
theorem GoN.dqr {r p : Nat} {v : σ → Res} {old : List (σ → Res)} (hix : nElem C.X i = false) (hcx : ∀ s, CtxR g fs s need (c s)) (hv : vs[r]? = some (v :: old)) (hp : old.length = p)
  (h : ∀ s, C.good anc s → ∀ M, In (v s) M → LocP P ⟨some dst, op, ty, pos, after, none⟩ (c s) N M (d s)) (hc : AllX C.X fun x => nElem anc x = true ∨ ∀ s s', C.E x s s' → d s = d s')
  (next : GoN n (DR P f N I0 R g M l us C id k ((i, d, d) :: fs) vs ((dst, d) :: os) (i + 1) rest urest)) :
  GoN (n + 1) (DR P f N I0 R g M l us C id k fs vs os i (⟨some dst, op, ty, pos, after, none⟩ :: rest) (⟨need, anc, some (r, p, false)⟩ :: urest)) := ⟨dq_read hix hcx hv hp h hc next.go⟩
theorem GoN.dqg {j : Nat} {want : Bool} {dg : σ → D} {cc : σ → Prop} (hix : nElem C.X i = false) (hcx : ∀ s, CtxR g fs s need (c s)) (hg : (lk fs j).map (·.1) = some dg) (hgd : ∀ s, guardD want (dg s) (cc s))
  (h : ∀ s, C.good anc s → cc s → ∀ M, LocP P ⟨some dst, op, ty, pos, after, some (j, want)⟩ (c s) N M (d s)) (hc : AllX C.X fun x => nElem anc x = true ∨ ∀ s s', C.E x s s' → dIf (cc s) (d s) = dIf (cc s') (d s'))
  (next : GoN n (DR P f N I0 R g M l us C id k ((i, (fun s => dIf (cc s) (d s)), d) :: fs) vs ((dst, (fun s => dIf (cc s) (d s))) :: os) (i + 1) rest urest)) :
  GoN (n + 1) (DR P f N I0 R g M l us C id k fs vs os i (⟨some dst, op, ty, pos, after, some (j, want)⟩ :: rest) (⟨need, anc, none⟩ :: urest)) := ⟨dq_gpure hix hcx hg hgd h hc next.go⟩
end
theorem au (n : Nat) {P Q : Prop} (k : Q) (h : Left Q → GoN n P := by
 intro q
 repeat (first
 | exact GoN.zero q
 | (apply GoN.opr; exact ly; exact rfl)
 | apply GoN.seq
 | apply GoN.region
 | apply GoN.nil
 | apply GoN.skip
 | apply GoN.block
 | apply GoN.inBlock
 | (apply GoN.exit; exact rfl)
 | (apply GoN.gop; exact rfl; exact rfl; exact gdI.ok; (intro hg; exact ly); exact rfl)
 | apply GoN.leave
 | (apply GoN.gfirst; exact rfl; exact rfl; exact gdI.ok; (intro hg; exact ly); exact rfl)
 | (apply GoN.store1; exact rfl; exact rfl; infer_instance; (repeat (first | exact Sel.here | apply Sel.there)); exact rfl)
 | (apply GoN.storeN; exact rfl; exact rfl; (repeat (first | exact oneAll_nil | apply oneAll_cons | infer_instance)); (repeat (first | exact Sel.here | apply Sel.there)); exact rfl))) : P := (h ⟨k⟩).go
theorem da (n : Nat) {P Q : Prop} (k : Q) (h : Left Q → GoN n P := by
 intro q
 repeat (first
 | exact GoN.zero q
 | (apply GoN.dq; exact rfl; (intro s; (repeat (first | exact CtxR.nil | (apply CtxR.op; exact rfl) | (apply CtxR.g; exact rfl) | (apply CtxR.opU; exact rfl)))); (intro s hs M; exact ly); (repeat (first | exact .nil | refine .cons (.inr fun _ _ _ => rfl) ?_ | refine .cons (.inl rfl) ?_ | refine .cons (.inr (fun | (a, b), (c, d), h => by first | (have h : d = b := h; subst h; exact rfl) | (have h : c = a := h; subst h; exact rfl))) ?_ | refine .cons (.inr (fun | (a, b, c), (d, e, f), h => by first | (have h : (e, f) = (b, c) := h; cases h; exact rfl) | (have h : d = a ∧ f = c := h; obtain ⟨rfl, rfl⟩ := h; exact rfl) | (have h : d = a ∧ e = b := h; obtain ⟨rfl, rfl⟩ := h; exact rfl))) ?_)))
 | (apply GoN.dqr; exact rfl; (intro s; (repeat (first | exact CtxR.nil | (apply CtxR.op; exact rfl) | (apply CtxR.g; exact rfl) | (apply CtxR.opU; exact rfl)))); exact rfl; exact rfl; (intro s hs M hm; first | exact loc_loadOwnN rfl hm (by rfl) | exact loc_loadOwn1 rfl hm (by rfl) | exact loc_loadRow1 rfl hm (by first | omega | assumption) | exact loc_lenRow rfl hm); (repeat (first | exact .nil | refine .cons (.inr fun _ _ _ => rfl) ?_ | refine .cons (.inl rfl) ?_ | refine .cons (.inr (fun | (a, b), (c, d), h => by first | (have h : d = b := h; subst h; exact rfl) | (have h : c = a := h; subst h; exact rfl))) ?_ | refine .cons (.inr (fun | (a, b, c), (d, e, f), h => by first | (have h : (e, f) = (b, c) := h; cases h; exact rfl) | (have h : d = a ∧ f = c := h; obtain ⟨rfl, rfl⟩ := h; exact rfl) | (have h : d = a ∧ e = b := h; obtain ⟨rfl, rfl⟩ := h; exact rfl))) ?_)))
 | (apply GoN.dqg; exact rfl; (intro s; (repeat (first | exact CtxR.nil | (apply CtxR.op; exact rfl) | (apply CtxR.g; exact rfl) | (apply CtxR.opU; exact rfl)))); exact rfl; (intro s; exact gdI.ok); (intro s hs hg M; exact ly); (repeat (first | exact .nil | refine .cons (.inr fun _ _ _ => rfl) ?_ | refine .cons (.inl rfl) ?_ | refine .cons (.inr (fun | (a, b), (c, d), h => by first | (have h : d = b := h; subst h; exact rfl) | (have h : c = a := h; subst h; exact rfl))) ?_ | refine .cons (.inr (fun | (a, b, c), (d, e, f), h => by first | (have h : (e, f) = (b, c) := h; cases h; exact rfl) | (have h : d = a ∧ f = c := h; obtain ⟨rfl, rfl⟩ := h; exact rfl) | (have h : d = a ∧ e = b := h; obtain ⟨rfl, rfl⟩ := h; exact rfl))) ?_))))) : P := (h ⟨k⟩).go
end Go.Q

namespace Go.Q
open Go.Proofs
open Classical
noncomputable abbrev bsF {α : Type} [Inhabited α] (cm : α → Int) (xs : List α) : Nat := bsGo (fun h => cm (xs[h]?.getD default) < 0) 0 xs.length
theorem cloneIM_spec (xs : List (Int)) (hb : xs.length * 8 ≤ 140737488355328) : Spec Tryz.prog 87 [dSl 1 fI xs] [] (σ := Value) (fun _ => True) (fun v => dVal v) (fun v => [rRow v 3 1 fI xs]) := by
  refine spec_of_body Tryz.func87 rfl rfl (fun I F => ?_)
  refine au 1 ?_
  refine run_fact (s := 0) rfl (fun _ _ h => dSl_len h) (fun hlen => ?_)
  refine au 7 ?_
  refine run_ex (loc_eqlNil rfl) rfl (fun e1 he1 => ?_)
  refine au 1 ?_
  refine run_cond rfl (fun h2 => ?_) (fun h2 => ?_)
  ·
   refine au 4 ?_
   refine run_ret (.slice none 0 0) Tryz.func87 rfl rfl ?_ (trivial) (fun _ _ h => by rw [he1 (by assumption)]; exact nil_ok h)
   exact fun _ _ h => h
  ·
   refine au 3 ?_
   refine run_new (loc_build0 fI) rfl (fun b3 _ => ?_)
   refine au 1 ?_
   refine run_append rfl (.here) rfl (by rfl) (by first | omega | (simp [lenMax]; omega) | (simp [lenMax]; done) | assumption) (by first | omega | (simp [lenMax]; omega) | (simp [lenMax]; done) | assumption) rfl (fun v4 => ?_)
   refine au 2 ?_
   refine run_ret (v4) Tryz.func87 rfl rfl ?_ (trivial) (fun _ _ h => h)
   exact fun _ _ h => h
theorem cloneI_spec (xs : List (Int)) (hb : xs.length * 8 ≤ 140737488355328) : SpecP Tryz.prog 87 [dSl 1 fI xs] (dSl 1 fI xs) := spec_freeze (cloneIM_spec xs hb)
theorem cloneRM_spec (xs : List (List Int)) (hb : xs.length * 24 ≤ 140737488355328) : Spec Tryz.prog 131 [dSl 1 fR xs] [] (σ := Value) (fun _ => True) (fun v => dVal v) (fun v => [rRow v 44 1 fR xs]) := by
  refine spec_of_body Tryz.func131 rfl rfl (fun I F => ?_)
  refine au 1 ?_
  refine run_fact (s := 0) rfl (fun _ _ h => dSl_len h) (fun hlen => ?_)
  refine au 7 ?_
  refine run_ex (loc_eqlNil rfl) rfl (fun e1 he1 => ?_)
  refine au 1 ?_
  refine run_cond rfl (fun h2 => ?_) (fun h2 => ?_)
  ·
   refine au 4 ?_
   refine run_ret (.slice none 0 0) Tryz.func131 rfl rfl ?_ (trivial) (fun _ _ h => by rw [he1 (by assumption)]; exact nil_ok h)
   exact fun _ _ h => h
  ·
   refine au 3 ?_
   refine run_new (loc_build0 fR) rfl (fun b3 _ => ?_)
   refine au 1 ?_
   refine run_append rfl (.here) rfl (by rfl) (by first | omega | (simp [lenMax]; omega) | (simp [lenMax]; done) | assumption) (by first | omega | (simp [lenMax]; omega) | (simp [lenMax]; done) | assumption) rfl (fun v4 => ?_)
   refine au 2 ?_
   refine run_ret (v4) Tryz.func131 rfl rfl ?_ (trivial) (fun _ _ h => h)
   exact fun _ _ h => h
theorem cloneAnM_spec (xs : List (Ans)) (hb : xs.length * 32 ≤ 140737488355328) : Spec Tryz.prog 132 [dSl 2 cAns xs] [] (σ := Value) (fun _ => True) (fun v => dVal v) (fun v => [rRow v 136 2 cAns xs]) := by
  refine spec_of_body Tryz.func132 rfl rfl (fun I F => ?_)
  refine au 1 ?_
  refine run_fact (s := 0) rfl (fun _ _ h => dSl_len h) (fun hlen => ?_)
  refine au 7 ?_
  refine run_ex (loc_eqlNil rfl) rfl (fun e1 he1 => ?_)
  refine au 1 ?_
  refine run_cond rfl (fun h2 => ?_) (fun h2 => ?_)
  ·
   refine au 4 ?_
   refine run_ret (.slice none 0 0) Tryz.func132 rfl rfl ?_ (trivial) (fun _ _ h => by rw [he1 (by assumption)]; exact nil_ok h)
   exact fun _ _ h => h
  ·
   refine au 3 ?_
   refine run_new (loc_build0 cAns) rfl (fun b3 _ => ?_)
   refine au 1 ?_
   refine run_append rfl (.here) rfl (by rfl) (by first | omega | (simp [lenMax]; omega) | (simp [lenMax]; done) | assumption) (by first | omega | (simp [lenMax]; omega) | (simp [lenMax]; done) | assumption) rfl (fun v4 => ?_)
   refine au 2 ?_
   refine run_ret (v4) Tryz.func132 rfl rfl ?_ (trivial) (fun _ _ h => h)
   exact fun _ _ h => h
theorem equalI_spec (xs ys : List (Int)) : SpecP Tryz.prog 72 [dSl 1 fI xs, dSl 1 fI ys] (dB (xs = ys)) := by
  refine specP_of_body Tryz.func72 rfl rfl (fun I M => ?_)
  refine au 8 ?_
  first | refine runL_fact (s := 6) rfl (fun _ _ h => dSl_len h) (fun hlen1 => ?_) | skip
  refine au 2 ?_
  first | refine runL_fact (s := 8) rfl (fun _ _ h => dSl_len h) (fun hlen2 => ?_) | skip
  refine au 3 ?_
  refine run_cond rfl (fun h3 => ?_) (fun h3 => ?_)
  ·
   refine au 4 ?_
   refine run_retP Tryz.func72 rfl rfl ?_
   exact d_B ⟨False.elim, fun h => by subst h; omega⟩
  ·
   refine au 5 ?_
   first | refine runL_fact (s := 11) rfl (fun _ _ h => dSl_len h) (fun hlen4 => ?_) | skip
   refine au 4 ?_
   refine run_loopC (σ := Nat) (ks := [0, 1, 12]) (.cons rfl (.cons rfl (.cons rfl (.nil)))) (fun k => [(13, dInt .i64 (k : Nat))]) (fun k => k ≤ xs.length ∧ (∀ j, j < k → xs[j]?.getD default = ys[j]?.getD default)) (fun k => xs.length - k) (0) (⟨by omega, fun j hj => by omega⟩) (.cons rfl (by first | exact fun _ _ h => h | exact d_int (by omega) | exact d_int (by simp) | exact d_intN (by omega) | exact d_any) .nil) ?_
   rintro k ⟨hk, hbk⟩ ih5
   refine au 5 ?_
   refine run_cond rfl (fun h6 => ?_) (fun h6 => ?_)
   ·
    refine au 9 ?_
    refine dr_start _ (.none) [⟨[(0, none)], [], none⟩,
        ⟨[(5, none)], [], none⟩,
        ⟨[(16, some (0, false)), (17, some (1, false))], [0, 1], none⟩,
        ⟨[(18, some (2, false))], [0, 1, 2], none⟩,
        ⟨[(1, none)], [], none⟩,
        ⟨[(5, none)], [], none⟩,
        ⟨[(20, some (4, false)), (21, some (5, false))], [4, 5], none⟩,
        ⟨[(22, some (6, false))], [4, 5, 6], none⟩,
        ⟨[(19, some (3, false)), (23, some (7, false))], [0, 1, 2, 3, 4, 5, 6, 7], none⟩] [] _ rfl rfl ?_
    refine da 9 ?_
    refine dq_end (rs := []) () rfl (fun _ => rfl) (.nil) rfl (fun _ => rfl) (fun _ _ => ?_)
    dsimp only [outG, outM, List.map, List.set, id]
    refine run_cond rfl (fun h7 => ?_) (fun h7 => ?_)
    ·
     have hne : ¬ xs[k]?.getD default = ys[k]?.getD default := fun e => by rw [e] at h7; simp at h7
     refine au 4 ?_
     refine run_retP Tryz.func72 rfl rfl ?_
     exact d_B ⟨False.elim, fun h => by subst h; contradiction⟩
    ·
     have heq : xs[k]?.getD default = ys[k]?.getD default := Classical.not_not.1 h7
     refine au 6 ?_
     exact run_againC ih5 (k + 1) (⟨by omega, fun j hj => by by_cases e : j = k; (· subst e; exact heq); (· exact hbk j (by omega))⟩) (by omega) (.cons rfl (by first | exact fun _ _ h => h | exact d_int (by omega) | exact d_int (by simp) | exact d_intN (by omega) | exact d_any) .nil) (.cons rfl (fun _ _ x => x) (.cons rfl (fun _ _ x => x) (.cons rfl (fun _ _ x => x) (.nil))))
   ·
    refine au 5 ?_
    refine run_retP Tryz.func72 rfl rfl ?_
    exact d_B ⟨fun _ => list_extD (by omega) (fun j hj => hbk j (by omega)), fun _ => trivial⟩
theorem indexFuncI_spec (q : Int → Prop) (xs : List (Int)) : SpecP Tryz.prog 173 [dSl 1 fI xs, dFun Tryz.prog (fun x : Int => [dInt .i64 x]) (fun x => dB (q x))] (dInt .i64 (idxP q xs)) := by
  refine specP_of_body Tryz.func173 rfl rfl (fun I M => ?_)
  refine au 8 ?_
  first | refine runL_fact (s := 6) rfl (fun _ _ h => dSl_len h) (fun hlen1 => ?_) | skip
  refine au 4 ?_
  refine run_loopC (σ := Nat) (ks := [0, 1, 7]) (.cons rfl (.cons rfl (.cons rfl (.nil)))) (fun k => [(8, dInt .i64 (k : Nat))]) (fun k => k ≤ xs.length ∧ (∀ j, j < k → ¬ q (xs[j]?.getD default))) (fun k => xs.length - k) (0) (⟨by omega, fun j hj => by omega⟩) (.cons rfl (by first | exact fun _ _ h => h | exact d_int (by omega) | exact d_int (by simp) | exact d_intN (by omega) | exact d_any) .nil) ?_
  rintro k ⟨hk, hbk⟩ ih2
  refine au 5 ?_
  refine run_cond rfl (fun h3 => ?_) (fun h3 => ?_)
  ·
   refine au 15 ?_
   refine run_op (loc_callFun (xs[k]?.getD default) rfl rfl) rfl ?_
   refine au 1 ?_
   refine run_cond rfl (fun h4 => ?_) (fun h4 => ?_)
   ·
    refine au 5 ?_
    refine run_retP Tryz.func173 rfl rfl ?_
    exact d_int (idxP_at (by omega) hbk (by assumption)).symm
   ·
    refine au 6 ?_
    exact run_againC ih2 (k + 1) (⟨by omega, fun j hj => by by_cases e : j = k; (· subst e; assumption); (· exact hbk j (by omega))⟩) (by omega) (.cons rfl (by first | exact fun _ _ h => h | exact d_int (by omega) | exact d_int (by simp) | exact d_intN (by omega) | exact d_any) .nil) (.cons rfl (fun _ _ x => x) (.cons rfl (fun _ _ x => x) (.cons rfl (fun _ _ x => x) (.nil))))
  ·
   refine au 5 ?_
   refine run_retP Tryz.func173 rfl rfl ?_
   exact d_int (idxP_none (forall_getD (fun j hj => hbk j (by omega)))).symm
theorem containsFuncI_spec (q : Int → Prop) (xs : List (Int)) : SpecP Tryz.prog 138 [dSl 1 fI xs, dFun Tryz.prog (fun x : Int => [dInt .i64 x]) (fun x => dB (q x))] (dB (∃ x ∈ xs, q x)) := by
 refine specP_of_body Tryz.func138 rfl rfl (fun I M => ?_)
 refine au 8 ?_
 refine run_op (loc_call (indexFuncI_spec q xs) rfl) rfl ?_
 refine au 3 ?_
 refine run_retP Tryz.func138 rfl rfl ?_
 exact d_B idxP_nonneg
instance : TyOver Tryz.prog 111 33 := ⟨_, 4, Tryz.func111, by kernel_rfl, by kernel_rfl, by kernel_rfl, by kernel_rfl⟩
end Go.Q

namespace Go.Q
open Classical
theorem fe_mod (x y p : Int) : (x * (y % p)) % p = x * y % p := by rw [Int.mul_emod, Int.emod_emod, ← Int.mul_emod]
theorem fm_mod (x y p : Int) : (x % p * y) % p = x * y % p := by rw [Int.mul_emod, Int.emod_emod, ← Int.mul_emod]
theorem pow_emod (a p : Int) : ∀ n : Nat, (a % p) ^ n % p = a ^ n % p
 | 0 => by simp
 | n + 1 => by rw [Int.pow_succ, Int.pow_succ, Int.mul_emod, pow_emod a p n, Int.emod_emod, ← Int.mul_emod]
theorem mod_bd {p : Int} (x : Int) (h : 0 < p) : 0 ≤ x % p ∧ x % p < p := ⟨Int.emod_nonneg _ (by omega), Int.emod_lt_of_pos _ h⟩
def powM (p a : Int) (n : Nat) : Int := a ^ n % p
theorem pow_even (a : Int) (n : Nat) : (a * a) ^ n = a ^ (2 * n) := by
 rw [Int.pow_mul]
 congr 1
 rw [show a ^ 2 = a * a by rw [show (2 : Nat) = 1 + 1 from rfl, Int.pow_succ, Int.pow_succ, Int.pow_zero, Int.one_mul]]
theorem pow_step0 (p x a : Int) (n : Nat) (h : n % 2 = 0) : x * (a * a % p) ^ (n / 2) % p = x * a ^ n % p := by
 rw [← fe_mod, pow_emod, fe_mod, pow_even, show 2 * (n / 2) = n by omega]
theorem pow_step1 (p x a : Int) (n : Nat) (h : n % 2 = 1) : x * a % p * (a * a % p) ^ (n / 2) % p = x * a ^ n % p := by
 rw [fm_mod, ← fe_mod, pow_emod, fe_mod, pow_even, Int.mul_assoc]
 congr 2
 rw [show n = 2 * (n / 2) + 1 by omega, Int.pow_succ, Int.mul_comm, show (2 * (n / 2) + 1) / 2 = n / 2 by omega]
def addT (p x : Int) : List Int → List Int → List Int
 | t :: ts, a :: asL => (t + x * a % p) % p :: addT p x ts asL
 | ts, [] => ts
 | [], _ :: _ => []
theorem addT_nil (p x : Int) (ts : List Int) : addT p x ts [] = ts := by cases ts <;> rfl
theorem addT_len (p x : Int) : ∀ ts asL : List Int, (addT p x ts asL).length = ts.length
 | t :: ts, a :: asL => by simp [addT, addT_len p x ts asL]
 | [], [] => rfl
 | t :: ts, [] => rfl
 | [], _ :: _ => rfl
theorem addT_get (p x : Int) : ∀ (ts asL : List Int) (k : Nat), asL.length ≤ k → (addT p x ts asL)[k]?.getD default = ts[k]?.getD default
 | t :: ts, a :: asL, k, h => by
  cases k with
  | zero => simp at h
  | succ k => simpa [addT] using addT_get p x ts asL k (by simpa using h)
 | [], [], k, h => rfl
 | t :: ts, [], k, h => rfl
 | [], _ :: _, k, h => rfl
theorem addT_take (p x : Int) : ∀ (ts asL : List Int) (k : Nat), k < asL.length → k < ts.length → addT p x ts (asL.take (k + 1)) = (addT p x ts (asL.take k)).set k ((ts[k]?.getD default + x * (asL[k]?.getD default) % p) % p)
 | t :: ts, a :: asL, 0, _, _ => by simp [addT, addT_nil]
 | t :: ts, a :: asL, k + 1, h1, h2 => by
  have := addT_take p x ts asL k (by simpa using h1) (by simpa using h2)
  simp only [List.take_succ_cons, addT, this, List.set_cons_succ]
  simp
theorem addT_has {p x : Int} (hp : 0 < p) : ∀ {ts asL : List Int}, (∀ t ∈ ts, hasP p t) → ∀ t ∈ addT p x ts asL, hasP p t
 | t :: ts, a :: asL, h, u, hu => by
  simp only [addT, List.mem_cons] at hu
  rcases hu with rfl | hu
  ·exact mod_bd _ hp
  ·exact addT_has hp (fun v hv => h v (List.mem_cons_of_mem _ hv)) u hu
 | [], [], h, u, hu => h u hu
 | t :: ts, [], h, u, hu => h u hu
 | [], _ :: _, h, u, hu => (by cases hu)
def valP (p : Int) : List Int → Int → Int
 | [], _ => 0
 | c :: cs, x => (valP p cs x * x % p + c) % p
theorem valP_bd {p x : Int} (hp : 0 < p) : ∀ cs : List Int, 0 ≤ valP p cs x ∧ valP p cs x < p
 | [] => ⟨Int.le_refl _, hp⟩
 | _ :: _ => mod_bd _ hp
def backL (cs : List Int) : List (Int × Nat) := cs.zipIdx.reverse
theorem backL_len (cs : List Int) : (backL cs).length = cs.length := by simp [backL]
theorem backL_get {cs : List Int} {i : Nat} {q : Int × Nat} (h : (backL cs)[i]? = some q) : i < cs.length ∧ q = (cs[cs.length - 1 - i]?.getD default, cs.length - 1 - i) := by
 have hi : i < (backL cs).length := (List.getElem?_eq_some_iff.1 h).1
 rw [backL_len] at hi
 refine ⟨hi, ?_⟩
 unfold backL at h
 rw [List.getElem?_reverse (by simpa using hi)] at h
 simp only [List.length_zipIdx, List.getElem?_zipIdx, Nat.zero_add] at h
 rw [List.getElem?_eq_getElem (by omega)] at h
 simp at h
 rw [List.getElem?_eq_getElem (by omega), ← h]
 rfl
theorem drop_back {cs : List Int} {i : Nat} (h : i < cs.length) : cs.drop (cs.length - (i + 1)) = (cs[cs.length - 1 - i]?.getD default) :: cs.drop (cs.length - i) := by
 rw [List.drop_eq_getElem_cons (by omega), List.getElem?_eq_getElem (by omega)]
 simp only [Option.getD_some]
 congr 2 <;> omega

def okTape (t : Tape) : Prop := t.numbers.length ≤ 16384 ∧ 0 ≤ t.at' ∧ t.at' ≤ t.numbers.length
noncomputable def stepE (n : Int) : List Int → Nat → Int
 | _, 0 => 0
 | [], _ + 1 => 3
 | x :: xs, k + 1 => if hasP n x then stepE n xs k else 8
theorem stepE_0 (n : Int) (xs : List Int) : stepE n xs 0 = 0 := by cases xs <;> rfl
theorem stepE_short {n : Int} : ∀ {xs : List Int} {c : Nat}, (∀ x ∈ xs, hasP n x) → xs.length < c → stepE n xs c = 3
 | [], c + 1, _, _ => rfl
 | x :: xs, 0, _, h => by simp at h
 | x :: xs, c + 1, h, hl => by
  rw [stepE, if_pos (h x (List.mem_cons_self ..))]
  exact stepE_short (fun y hy => h y (List.mem_cons_of_mem _ hy)) (by simpa using hl)
theorem stepE_bad {n : Int} : ∀ {xs : List Int} {c i : Nat}, i < xs.length → i < c → (∀ j, j < i → hasP n (xs[j]?.getD default)) → ¬ hasP n (xs[i]?.getD default) → stepE n xs c = 8
 | x :: xs, c + 1, 0, _, _, _, h => by rw [stepE, if_neg (by simpa using h)]
 | x :: xs, c + 1, i + 1, h1, h2, hb, h => by
  rw [stepE, if_pos (by simpa using hb 0 (by omega))]
  exact stepE_bad (i := i) (by simpa using h1) (by omega) (fun j hj => by simpa using hb (j + 1) (by omega)) (by simpa using h)
theorem stepE_ok {n : Int} : ∀ {xs : List Int} {c : Nat}, c ≤ xs.length → (∀ j, j < c → hasP n (xs[j]?.getD default)) → stepE n xs c = 0
 | _, 0, _, _ => by cases ‹List Int› <;> rfl
 | [], c + 1, h, _ => by simp at h
 | x :: xs, c + 1, h, hb => by
  rw [stepE, if_pos (by simpa using hb 0 (by omega))]
  exact stepE_ok (by simpa using h) (fun j hj => by simpa using hb (j + 1) (by omega))
theorem stepE_zero {n : Int} : ∀ {xs : List Int} {c : Nat}, stepE n xs c = 0 → c ≤ xs.length ∧ ∀ x ∈ xs.take c, hasP n x
 | _, 0, _ => ⟨Nat.zero_le _, by simp⟩
 | [], c + 1, h => by cases h
 | x :: xs, c + 1, h => by
  rw [stepE] at h
  split at h
  ·rename_i hx
   obtain ⟨h1, h2⟩ := stepE_zero h
   exact ⟨by simpa using h1, fun y hy => by rcases List.mem_cons.1 (by simpa using hy) with rfl | hy; (· exact hx); (· exact h2 y hy)⟩
  ·cases h
theorem stepE_add {n : Int} : ∀ {xs : List Int} {a b : Nat}, stepE n xs a = 0 → stepE n xs (a + b) = stepE n (xs.drop a) b
 | _, 0, b, _ => by rw [Nat.zero_add, List.drop_zero]
 | [], a + 1, b, h => by cases h
 | x :: xs, a + 1, b, h => by
  rw [stepE] at h
  split at h
  ·rename_i hx
   rw [show a + 1 + b = (a + b) + 1 by omega, stepE, if_pos hx, List.drop_succ_cons]
   exact stepE_add h
  ·cases h
theorem stepE_more {n : Int} : ∀ {xs : List Int} {a b : Nat}, stepE n xs a ≠ 0 → stepE n xs (a + b) = stepE n xs a
 | xs, 0, b, h => absurd (stepE_0 n xs) h
 | [], a + 1, b, _ => by rw [show a + 1 + b = (a + b) + 1 by omega]; rfl
 | x :: xs, a + 1, b, h => by
  rw [show a + 1 + b = (a + b) + 1 by omega]
  rw [stepE] at h ⊢
  rw [stepE]
  split
  ·rename_i hx
   rw [if_pos hx] at h
   exact stepE_more h
  ·rfl
noncomputable def drawE (t : Tape) (n c : Int) : Int := if ¬ okTape t then 2 else if ¬ (1 ≤ n ∧ n ≤ 2147483647) ∨ c < 0 then 1 else stepE n (t.numbers.drop t.at'.toNat) c.toNat
noncomputable def drawT (t : Tape) (n c : Int) : Tape := if drawE t n c = 0 then ⟨t.numbers, t.at' + c⟩ else ⟨[], 0⟩
noncomputable def drawL (t : Tape) (n c : Int) : List Int := if drawE t n c = 0 then (t.numbers.drop t.at'.toNat).take c.toNat else []
theorem drawE_zero {t : Tape} {n c : Int} (h : drawE t n c = 0) : okTape t ∧ (1 ≤ n ∧ n ≤ 2147483647) ∧ 0 ≤ c ∧ t.at' + c ≤ t.numbers.length ∧ (drawL t n c).length = c.toNat ∧ ∀ x ∈ drawL t n c, hasP n x := by
 have h0 := h
 unfold drawE at h
 split at h
 ·cases h
 ·rename_i h1
  split at h
  ·cases h
  ·rename_i h2
   obtain ⟨h3, h4⟩ := stepE_zero h
   have h5 := Classical.not_not.1 h1
   have h6 := h5.2
   rw [List.length_drop] at h3
   refine ⟨h5, by omega, by omega, by omega, ?_, ?_⟩
   ·unfold drawL; rw [if_pos h0, List.length_take, List.length_drop]; omega
   ·unfold drawL; rw [if_pos h0]; exact h4
theorem drawT_ok {t : Tape} {n c : Int} (h : drawE t n c = 0) : drawT t n c = ⟨t.numbers, t.at' + c⟩ ∧ okTape (drawT t n c) := by
 obtain ⟨h1, h2, h3, h4, _⟩ := drawE_zero h
 have e : drawT t n c = ⟨t.numbers, t.at' + c⟩ := by unfold drawT; rw [if_pos h]
 refine ⟨e, ?_⟩
 rw [e]
 exact ⟨h1.1, by have := h1.2.1; simp only; omega, h4⟩
end Go.Q

namespace Go.Q
open Classical
end Go.Q

namespace Go.Q
open Classical
end Go.Q

namespace Go.Q
open Go.Proofs
open Classical
theorem has_spec (p x : Int) : SpecP Tryz.prog 140 [dInt .i64 p, dInt .i64 x] (dB (hasP p x)) := by
 refine specP_of_body Tryz.func140 rfl rfl (fun I M => ?_)
 refine au 16 ?_
 refine run_retP Tryz.func140 rfl rfl ?_
 exact fun _ _ h => h
theorem all1_spec (p x : Int) : SpecP Tryz.prog 139 [dInt .i64 x, dBox [dInt .i64 p]] (dB (¬ hasP p x)) := by
 refine specP_of_body Tryz.func139 rfl rfl (fun I M => ?_)
 refine au 8 ?_
 refine run_op (loc_call (has_spec _ _) rfl) rfl ?_
 refine au 3 ?_
 refine run_retP Tryz.func139 rfl rfl ?_
 exact fun _ _ h => h
theorem all_spec (p : Int) (xs : List Int) : SpecP Tryz.prog 99 [dInt .i64 p, dInts xs] (dB (∀ x ∈ xs, hasP p x)) := by
 refine specP_of_body Tryz.func99 rfl rfl (fun I M => ?_)
 refine au 9 ?_
 refine runL_recast (s := 6) rfl (clo_fun (Ds := fun x : Int => [dInt .i64 x]) (d := fun x => dB (¬ hasP p x)) (fun x => all1_spec p x)) ?_
 refine run_op (loc_call (containsFuncI_spec (fun x => ¬ hasP p x) _) rfl) rfl ?_
 refine au 3 ?_
 refine run_retP Tryz.func99 rfl rfl ?_
 exact d_B (by simp)
theorem of_spec (p : Int) : SpecP Tryz.prog 98 [dAgg [dInt .i64 p]] (dTup [dInt .i64 (ofP p), dB (okP p)]) := by
  refine specP_of_body Tryz.func98 rfl rfl (fun I M => ?_)
  refine au 19 ?_
  refine run_cond rfl (fun h1 => ?_) (fun h1 => ?_)
  ·
   refine au 5 ?_
   refine run_ret2P Tryz.func98 rfl rfl rfl ?_
   exact d_tup2 (d_int (by unfold ofP; rw [if_neg (by unfold okP; omega)])) (d_B (by unfold okP; simp; omega))
  ·
   refine au 7 ?_
   refine run_loopC (σ := Int) (ks := [1]) (.cons rfl (.nil)) (fun d => [(4, dInt .i64 d)]) (fun d => 2 ≤ d ∧ d ≤ 256 ∧ ∀ e : Int, 2 ≤ e → e < d → p % e ≠ 0) (fun d => (p + 2 - d).toNat) (2) (⟨by omega, by omega, fun e h1 h2 => by omega⟩) (.cons rfl (by first | exact fun _ _ h => h | exact d_int (by omega) | exact d_int (by simp) | exact d_intN (by omega) | exact d_any) .nil) ?_
   rintro d ⟨hd1, hd2, hb⟩ ih2
   have hm := mul_bd (a := d) (b := d) (A := 256) (B := 256) (by omega) hd2 (by omega) hd2
   refine au 10 ?_
   refine run_cond rfl (fun h3 => ?_) (fun h3 => ?_)
   ·
    refine au 11 ?_
    refine run_cond rfl (fun h4 => ?_) (fun h4 => ?_)
    ·
     refine au 5 ?_
     refine run_ret2P Tryz.func98 rfl rfl rfl ?_
     exact d_tup2 (d_int (by unfold ofP; rw [if_neg (fun h => h.2.2 d hd1 (by assumption) (by assumption))])) (d_B ⟨False.elim, fun h => h.2.2 d hd1 (by assumption) (by assumption)⟩)
    ·
     refine au 7 ?_
     exact run_againC ih2 (d + 1) (⟨by omega, by by_cases e : d = 256; (· subst e; omega); (· omega), fun e h1 h2 => by by_cases e2 : e = d; (· subst e2; assumption); (· exact hb e h1 (by omega))⟩) (by have := Int.mul_le_mul_of_nonneg_left hd1 (show 0 ≤ d by omega); omega) (.cons rfl (by first | exact fun _ _ h => h | exact d_int (by omega) | exact d_int (by simp) | exact d_intN (by omega) | exact d_any) .nil) (.cons rfl (fun _ _ x => x) (.nil))
   ·
    refine au 8 ?_
    refine run_ret2P Tryz.func98 rfl rfl rfl ?_
    have hok : okP p := ⟨by omega, by omega, fun e h1 h2 => hb e h1 (by by_cases e3 : e < d; (· exact e3); (· exfalso; have := mul_bd (a := d) (b := d) (A := e) (B := e) (by omega) (by omega) (by omega) (by omega); omega))⟩
    exact d_tup2 (d_int (by unfold ofP; rw [if_pos hok])) (d_B (by simp [hok]))
theorem rcheck3_spec (p : Int) : SpecP Tryz.prog 116 [dAgg [dInt .i64 p]] (dInt .i64 (errP p)) := by
  refine specP_of_body Tryz.func116 rfl rfl (fun I M => ?_)
  refine au 18 ?_
  refine run_cond rfl (fun h1 => ?_) (fun h1 => ?_)
  ·
   refine au 4 ?_
   refine run_retP Tryz.func116 rfl rfl ?_
   exact d_int (by unfold errP; rw [if_neg (by unfold okP; omega)])
  ·
   refine au 7 ?_
   refine run_loopC (σ := Int) (ks := [1]) (.cons rfl (.nil)) (fun d => [(3, dInt .i64 d)]) (fun d => 2 ≤ d ∧ d ≤ 256 ∧ ∀ e : Int, 2 ≤ e → e < d → p % e ≠ 0) (fun d => (p + 2 - d).toNat) (2) (⟨by omega, by omega, fun e h1 h2 => by omega⟩) (.cons rfl (by first | exact fun _ _ h => h | exact d_int (by omega) | exact d_int (by simp) | exact d_intN (by omega) | exact d_any) .nil) ?_
   rintro d ⟨hd1, hd2, hb⟩ ih2
   have hm := mul_bd (a := d) (b := d) (A := 256) (B := 256) (by omega) hd2 (by omega) hd2
   refine au 10 ?_
   refine run_cond rfl (fun h3 => ?_) (fun h3 => ?_)
   ·
    refine au 11 ?_
    refine run_cond rfl (fun h4 => ?_) (fun h4 => ?_)
    ·
     refine au 4 ?_
     refine run_retP Tryz.func116 rfl rfl ?_
     exact d_int (by unfold errP; rw [if_neg (fun h => h.2.2 d hd1 (by assumption) (by assumption))])
    ·
     refine au 7 ?_
     exact run_againC ih2 (d + 1) (⟨by omega, by by_cases e : d = 256; (· subst e; omega); (· omega), fun e h1 h2 => by by_cases e2 : e = d; (· subst e2; assumption); (· exact hb e h1 (by omega))⟩) (by have := Int.mul_le_mul_of_nonneg_left hd1 (show 0 ≤ d by omega); omega) (.cons rfl (by first | exact fun _ _ h => h | exact d_int (by omega) | exact d_int (by simp) | exact d_intN (by omega) | exact d_any) .nil) (.cons rfl (fun _ _ x => x) (.nil))
   ·
    refine au 5 ?_
    refine run_retP Tryz.func116 rfl rfl ?_
    have hok : okP p := ⟨by omega, by omega, fun e h1 h2 => hb e h1 (by by_cases e3 : e < d; (· exact e3); (· exfalso; have := mul_bd (a := d) (b := d) (A := e) (B := e) (by omega) (by omega) (by omega) (by omega); omega))⟩
    exact d_int (by unfold errP; rw [if_pos hok])
theorem errP_zero {p : Int} : errP p = 0 ↔ okP p := by unfold errP; split <;> simp [*]
theorem fcheck_spec (p : Int) : SpecP Tryz.prog 106 [dAgg [dInt .i64 p]] (dInt .i64 (errP p)) := by
  refine specP_of_body Tryz.func106 rfl rfl (fun I M => ?_)
  refine au 9 ?_
  refine run_op (loc_call (of_spec _) rfl) rfl ?_
  refine au 11 ?_
  refine run_cond rfl (fun h1 => ?_) (fun h1 => ?_)
  ·
   refine au 4 ?_
   refine run_retP Tryz.func106 rfl rfl ?_
   exact d_int (by unfold errP; rw [if_neg (by assumption)])
  ·
   refine au 5 ?_
   refine run_retP Tryz.func106 rfl rfl ?_
   exact d_int (by unfold errP; rw [if_pos (Classical.not_not.1 (by assumption))])
theorem fadd_spec (p a b : Int) (h : 2 ≤ p ∧ p ≤ 65521) (ha : 0 ≤ a ∧ a ≤ 65521) (hb : 0 ≤ b ∧ b ≤ 65521) : SpecP Tryz.prog 177 [dInt .i64 p, dInt .i64 a, dInt .i64 b] (dInt .i64 ((a + b) % p)) := by
 refine specP_of_body Tryz.func177 rfl rfl (fun I M => ?_)
 refine au 13 ?_
 refine run_retP Tryz.func177 rfl rfl ?_
 exact fun _ _ h => h
theorem fmul_spec (p a b : Int) (h : 2 ≤ p ∧ p ≤ 65521) (ha : 0 ≤ a ∧ a ≤ 65521) (hb : 0 ≤ b ∧ b ≤ 65521) : SpecP Tryz.prog 178 [dInt .i64 p, dInt .i64 a, dInt .i64 b] (dInt .i64 (a * b % p)) := by
 have hm := mul_bd ha.1 ha.2 hb.1 hb.2
 refine specP_of_body Tryz.func178 rfl rfl (fun I M => ?_)
 refine au 13 ?_
 refine run_retP Tryz.func178 rfl rfl ?_
 exact fun _ _ h => h
theorem power_spec (p a : Int) (n : Nat) (h : 2 ≤ p ∧ p ≤ 65521) (ha : 0 ≤ a ∧ a ≤ 65521) (hn : n ≤ 65521) : SpecP Tryz.prog 149 [dInt .i64 p, dInt .i64 a, dInt .i64 (n : Nat)] (dInt .i64 (powM p a n)) := by
  refine specP_of_body Tryz.func149 rfl rfl (fun I M => ?_)
  refine au 10 ?_
  refine run_loopC (σ := Int × Int × Nat) (ks := [0]) (.cons rfl (.nil)) (fun s => [(1, dInt .i64 s.2.1), (2, dInt .i64 (s.2.2 : Nat)), (7, dInt .i64 s.1)]) (fun s => (0 ≤ s.1 ∧ s.1 < p) ∧ (0 ≤ s.2.1 ∧ s.2.1 ≤ 65521) ∧ s.2.2 ≤ 65521 ∧ s.1 * s.2.1 ^ s.2.2 % p = powM p a n) (fun s => s.2.2) ((1, a, n)) (⟨⟨by omega, by simp only; omega⟩, ha, hn, by rw [Int.one_mul]; rfl⟩) (.cons rfl (by first | exact fun _ _ h => h | exact d_int (by omega) | exact d_int (by simp) | exact d_intN (by omega) | exact d_any) (.cons rfl (by first | exact fun _ _ h => h | exact d_int (by omega) | exact d_int (by simp) | exact d_intN (by omega) | exact d_any) (.cons rfl (by first | exact fun _ _ h => h | exact d_int (by omega) | exact d_int (by simp) | exact d_intN (by omega) | exact d_any) .nil))) ?_
  rintro s ⟨hx, hb, hm, he⟩ ih1
  have hbb := mod_bd (s.2.1 * s.2.1) (show 0 < p by omega)
  have hxb := mod_bd (s.1 * s.2.1) (show 0 < p by omega)
  refine au 6 ?_
  refine run_cond rfl (fun h2 => ?_) (fun h2 => ?_)
  ·
   refine au 7 ?_
   refine run_op (loc_and1 rfl rfl (by first | omega | assumption)) rfl ?_
   refine au 2 ?_
   refine run_joinC (σ := Int) (ks := [0, 1, 2]) (.cons rfl (.cons rfl (.cons rfl (.nil)))) (fun y => [(7, dInt .i64 y)]) (fun y => (0 ≤ y ∧ y < p) ∧ y * (s.2.1 * s.2.1 % p) ^ (s.2.2 / 2) % p = powM p a n) (fun j3 => ?_) ?_
   ·
    refine run_cond rfl (fun h4 => ?_) (fun h4 => ?_)
    ·
     refine au 4 ?_
     refine run_op (loc_call (fmul_spec _ _ _ h (by omega) (by omega)) rfl) rfl ?_
     refine au 2 ?_
     exact run_atC j3 (s.1 * s.2.1 % p) (⟨hxb, by rw [pow_step1 p s.1 s.2.1 s.2.2 (by omega), he]⟩) (.cons rfl (by first | exact fun _ _ h => h | exact d_int (by omega) | exact d_int (by simp) | exact d_intN (by omega) | exact d_any) .nil) (.cons rfl (fun _ _ x => x) (.cons rfl (fun _ _ x => x) (.cons rfl (fun _ _ x => x) (.nil))))
    ·
     refine au 1 ?_
     exact run_atC j3 (s.1) (⟨hx, by rw [pow_step0 p s.1 s.2.1 s.2.2 (by omega), he]⟩) (.cons rfl (by first | exact fun _ _ h => h | exact d_int (by omega) | exact d_int (by simp) | exact d_intN (by omega) | exact d_any) .nil) (.cons rfl (fun _ _ x => x) (.cons rfl (fun _ _ x => x) (.cons rfl (fun _ _ x => x) (.nil))))
   rintro y ⟨hy, hye⟩
   refine au 4 ?_
   refine run_op (loc_call (fmul_spec _ _ _ h (by omega) (by omega)) rfl) rfl ?_
   refine au 5 ?_
   refine run_op (loc_shrN (c := 1) (q := 2) rfl rfl rfl (by decide) (by first | omega | assumption) (by decide)) rfl ?_
   refine au 2 ?_
   exact run_againC ih1 ((y, s.2.1 * s.2.1 % p, s.2.2 / 2)) (⟨hy, by simp only; omega, by simp only; omega, hye⟩) (by simp only; omega) (.cons rfl (by first | exact fun _ _ h => h | exact d_int (by omega) | exact d_int (by simp) | exact d_intN (by omega) | exact d_any) (.cons rfl (by first | exact fun _ _ h => h | exact d_int (by omega) | exact d_int (by simp) | exact d_intN (by omega) | exact d_any) (.cons rfl (by first | exact fun _ _ h => h | exact d_int (by omega) | exact d_int (by simp) | exact d_intN (by omega) | exact d_any) .nil))) (.cons rfl (fun _ _ x => x) (.nil))
  ·
   refine au 6 ?_
   refine run_retP Tryz.func149 rfl rfl ?_
   exact d_int (by rw [← he, show s.2.2 = 0 by omega, Int.pow_zero, Int.mul_one, Int.emod_eq_of_lt hx.1 hx.2])
theorem addTimes_spec (p x : Int) (v : Value) (to l : List Int) (h : 2 ≤ p ∧ p ≤ 65521) (hx : 0 ≤ x ∧ x ≤ 65521) (ht : ∀ t ∈ to, hasP p t) (hl : ∀ t ∈ l, hasP p t) (hlen : l.length ≤ to.length) : Spec Tryz.prog 148 [dInt .i64 p, dVal v, dInt .i64 x, dInts l] [rRow v 3 1 fI to] (σ := Unit) (fun _ => True) (fun _ => dTop) (fun _ => [rRow v 3 1 fI (addT p x to l)]) := by
  refine spec_of_body Tryz.func148 rfl rfl (fun I F => ?_)
  refine au 3 ?_
  first | refine runL_fact (s := 10) rfl (fun _ _ h => dSl_len h) (fun hlen1 => ?_) | skip
  refine au 4 ?_
  have hnil : addT p x to [] = to := addT_nil p x to
  refine run_weaken (M' := rRow v 3 1 fI (addT p x to (l.take 0)) :: F) (fun _ _ _ hs hi => ⟨hs, by rw [List.take_zero, hnil]; exact hi⟩) ?_
  refine run_loopF (σ := Nat) (ks := [0, 1, 2, 10, 11]) (.cons rfl (.cons rfl (.cons rfl (.cons rfl (.cons rfl (.nil)))))) (fun k => [(12, dInt .i64 (k : Nat))]) (fun k => [rRow v 3 1 fI (addT p x to (l.take k))]) (fun k => k ≤ l.length) (fun k => l.length - k) (0) (Nat.zero_le _) (.cons rfl (by first | exact fun _ _ h => h | exact d_int (by omega) | exact d_int (by simp) | exact d_intN (by omega) | exact d_any) .nil) (rfl) ?_
  intro k hk ih2
  have hal := addT_len p x to (l.take k)
  refine au 5 ?_
  refine run_cond rfl (fun h3 => ?_) (fun h3 => ?_)
  ·
   refine au 11 ?_
   have h1 := ht (to[k]?.getD default) (getD_mem (by omega))
   have h2 := hl (l[k]?.getD default) (getD_mem (by omega))
   unfold hasP at h1 h2
   have h3 := mod_bd (x * (l[k]?.getD default)) (show 0 < p by omega)
   have h4 := addT_get p x to (l.take k) k (by rw [List.length_take]; omega)
   refine run_rowForm .here (by omega) (fun b cap hv => ?_)
   subst hv
   refine dr_start _ (.none) [⟨[(1, none)], [], none⟩,
       ⟨[(8, none)], [], none⟩,
       ⟨[(0, none)], [], none⟩,
       ⟨[(1, none)], [], none⟩,
       ⟨[(8, none)], [], none⟩,
       ⟨[(20, some (3, false)), (21, some (4, false))], [3, 4], none⟩,
       ⟨[(22, some (5, false))], [3, 4, 5], some (0, 0, false)⟩,
       ⟨[(0, none)], [], none⟩,
       ⟨[(2, none)], [], none⟩,
       ⟨[(9, none)], [], none⟩,
       ⟨[(24, some (7, false)), (25, some (8, false)), (26, some (9, false))], [7, 8, 9], none⟩,
       ⟨[(19, some (2, false)), (23, some (6, false)), (27, some (10, false))], [2, 3, 4, 5, 6, 7, 8, 9, 10], none⟩,
       ⟨[(17, some (0, false)), (18, some (1, false))], [0, 1, 2, 3, 4, 5, 6, 7, 8, 9, 10, 11], none⟩,
       ⟨[(29, some (12, false)), (28, some (11, false))], [0, 1, 2, 3, 4, 5, 6, 7, 8, 9, 10, 11, 12], some (0, 0, true)⟩] [_] _ rfl rfl ?_
   refine da 10 ?_
   refine dq_pure rfl (fun s => .op rfl (.op rfl (.op rfl (.nil)))) (fun s hs _ => loc_call (fmul_spec _ _ _ h (by omega) (by omega)) rfl) (by exact .nil) ?_
   refine dq_pure rfl (fun s => .op rfl (.op rfl (.op rfl (.nil)))) (fun s hs _ => loc_call (fadd_spec _ _ _ h (by omega) (by omega)) rfl) (by exact .nil) ?_
   refine da 1 ?_
   refine dq_write0 rfl (fun s => .op rfl (.op rfl (.nil))) rfl rfl (fun s hs => loc_storeRow1 _ rfl rfl rfl (by first | omega | assumption)) (by exact .nil) ?_
   refine dq_end (rs := [_]) () rfl (fun _ => rfl) (.nil) rfl (fun _ => rfl) (fun _ _ => ?_)
   dsimp only [outG, outM, List.map, List.set, id]
   refine au 5 ?_
   exact run_againF ih2 (k + 1) (by omega) (by omega) (.cons rfl (by first | exact fun _ _ h => h | exact d_int (by omega) | exact d_int (by simp) | exact d_intN (by omega) | exact d_any) .nil) (.cons rfl (fun _ _ x => x) (.cons rfl (fun _ _ x => x) (.cons rfl (fun _ _ x => x) (.cons rfl (fun _ _ x => x) (.cons rfl (fun _ _ x => x) (.nil)))))) (by simp only [appR]; rw [addT_take p x to l k (by omega) (by omega)]; congr 4; omega)
  ·
   refine au 1 ?_
   refine run_ret0End (()) Tryz.func148 rfl  ?_ (trivial) (fun _ _ h => by rw [List.take_of_length_le (by omega)] at h; exact h)
   exact fun _ _ _ => trivial
theorem back1_iter (cs : List Int) : ∀ (I : Imm) (lb : List Value), relL [dBox [dInts cs]] I lb → IterOk Tryz.prog 235 lb (α := Int × Nat) (fun q => [dInt .i64 (q.2 : Nat), dInt .i64 q.1]) (backL cs) ([]) I := by
  refine iter_of_body Tryz.func235 rfl rfl (fun l σ φ Mo F s0 I h0 hy => ?_)
  refine au 3 ?_
  first | refine runL_fact (s := 4) rfl (fun _ _ h => dSl_len h) (fun hlen1 => ?_) | skip
  refine au 5 ?_
  refine run_loopE (σ := Nat × σ) (ks := [0, 1]) (.cons rfl (.cons rfl (.nil))) (fun s => [(3, dInt .i64 ((cs.length : Int) - 1 - s.1))]) (fun s => Mo s.1 s.2 ++ F) (fun s => s.1 ≤ cs.length ∧ φ s.1 s.2) (fun s => cs.length - s.1) ((0, s0)) (⟨Nat.zero_le _, h0⟩) (.cons rfl (d_int (by simp only; omega)) .nil) (rfl) ?_
  rintro t ⟨hi, hs⟩ ih2
  refine au 6 ?_
  refine run_cond rfl (fun h3 => ?_) (fun h3 => ?_)
  ·
   refine au 11 ?_
   refine run_yieldOp hy (i := t.1) (x := (cs[cs.length - 1 - t.1]?.getD default, cs.length - 1 - t.1)) (s := t.2) rfl rfl rfl (by unfold backL; rw [List.getElem?_reverse (by simp; omega)]; simp only [List.length_zipIdx, List.getElem?_zipIdx, Nat.zero_add]; rw [List.getElem?_eq_getElem (by omega)]; simp) hs rfl (fun I us hr => by match us, hr with | [u1, u2], hr => exact ⟨d_int (by omega) _ _ hr.1, d_int (by congr 2; omega) _ _ hr.2.1, trivial⟩) (fun s9 hs9 => ?_)
   refine au 2 ?_
   refine run_cond rfl (fun h4 => ?_) (fun h4 => ?_)
   · exfalso; simp at h4
   ·
    refine au 7 ?_
    exact run_againE ih2 ((t.1 + 1, s9)) (⟨by simp only; omega, hs9⟩) (by simp only; omega) (.cons rfl (d_int (by simp only; omega)) .nil) (.cons rfl (fun _ _ x => x) (.cons rfl (fun _ _ x => x) (.nil))) (rfl)
  ·
   refine au 1 ?_
   refine run_ret0End (t.2) Tryz.func235 rfl  ?_ (by rw [backL_len, show cs.length = t.1 by omega]; exact hs) (fun _ _ h => by rw [backL_len, show cs.length = t.1 by omega]; exact h)
   exact fun _ _ _ => trivial
theorem backward_spec (cs : List Int) : SpecP Tryz.prog 234 [dInts cs] (dSeq Tryz.prog (fun q : Int × Nat => [dInt .i64 (q.2 : Nat), dInt .i64 q.1]) (backL cs)) := by
 refine specP_of_body Tryz.func234 rfl rfl (fun I M => ?_)
 refine au 10 ?_
 refine run_retP Tryz.func234 rfl rfl ?_
 exact clo_seq (back1_iter cs)
theorem value_spec (p : Int) (cs : List Int) (x : Int) (h : 2 ≤ p ∧ p ≤ 65521) (hx : 0 ≤ x ∧ x ≤ 65521) (hc : ∀ c ∈ cs, hasP p c) : SpecP Tryz.prog 233 [dInt .i64 p, dInts cs, dInt .i64 x] (dInt .i64 (valP p cs x)) := by
  refine specP_of_body Tryz.func233 rfl rfl (fun I M => ?_)
  refine au 8 ?_
  refine run_new (loc_allocOwn (by simp)) rfl (fun b2 _ => ?_)
  refine au 6 ?_
  refine run_op (loc_call (backward_spec _) rfl) rfl ?_
  refine au 2 ?_
  refine run_weaken (M' := rCells b2 3 [dInt .i64 (valP p (cs.drop (cs.length - 0)) x)] :: M) (fun _ _ _ hs hi => ⟨hs, by rw [Nat.sub_zero, List.drop_length]; exact hi⟩) ?_
  refine run_rangeFunc (σ := Unit) (ps := [12, 13]) (fun i s => True) (fun i s => [rCells b2 3 [dInt .i64 (valP p (cs.drop (cs.length - i)) x)]]) (()) rfl rfl rfl (fun _ => rfl) rfl (trivial) rfl (fun i x1 s l1 r1 F1 J hx1 hφ => ?_) (fun D s hφ => ?_)
  ·
   dsimp only [setP]
   obtain ⟨hi, rfl⟩ := backL_get hx1
   have h2 := hc (cs[cs.length - 1 - i]?.getD default) (getD_mem (by omega))
   unfold hasP at h2
   have h3 := valP_bd (x := x) (show 0 < p by omega) (cs.drop (cs.length - i))
   have h4 := mod_bd (valP p (cs.drop (cs.length - i)) x * x) (show 0 < p by omega)
   refine au 3 ?_
   refine run_beginR (.here) ?_
   refine au 1 ?_
   refine dr_start _ (.none) [⟨[(3, none)], [], none⟩,
       ⟨[(3, none)], [], none⟩,
       ⟨[(7, none)], [], some (1, 0, false)⟩,
       ⟨[(5, none)], [], none⟩,
       ⟨[(15, some (1, false)), (16, some (2, false)), (17, some (3, false))], [1, 2, 3], none⟩,
       ⟨[(9, none)], [], none⟩,
       ⟨[(14, some (0, false)), (18, some (4, false)), (19, some (5, false))], [0, 1, 2, 3, 4, 5], none⟩,
       ⟨[(7, none), (20, some (6, false))], [0, 1, 2, 3, 4, 5, 6], some (1, 0, true)⟩] [_, _] _ rfl rfl ?_
   refine da 4 ?_
   refine dq_pure rfl (fun s => .op rfl (.op rfl (.op rfl (.nil)))) (fun s hs _ => loc_call (fmul_spec _ _ _ h (by omega) (by omega)) rfl) (by exact .nil) ?_
   refine da 1 ?_
   refine dq_pure rfl (fun s => .op rfl (.op rfl (.op rfl (.nil)))) (fun s hs _ => loc_call (fadd_spec _ _ _ h (by omega) (by omega)) rfl) (by exact .nil) ?_
   refine dq_write0 rfl (fun s => .g rfl (.op rfl (.nil))) rfl rfl (fun s hs => loc_store1 rfl rfl rfl) (by exact .nil) ?_
   refine dq_end (rs := [_, _]) () rfl (fun _ => rfl) (.nil) rfl (fun _ => rfl) (fun _ _ => ?_)
   dsimp only [outG, outM, List.map, List.set, id]
   refine au 1 ?_
   refine run_weaken (M' := rBusy l1 r1 :: rCells b2 3 [dInt .i64 (valP p (cs.drop (cs.length - (i + 1))) x)] :: F1) (fun _ _ _ hs hq => ⟨hs, by rw [drop_back hi]; exact hq⟩) ?_
   exact run_roundEnd (()) (trivial) .here rfl
  ·
   refine au 6 ?_
   refine run_retPMk (.here) Tryz.func233 rfl (.tmp rfl (.nil)) ?_ (fun _ _ h => h.sub (.cons _ (.refl _)))
   exact d_int (by rw [backL_len, Nat.sub_self, List.drop_zero])
end Go.Q

namespace Go.Q
open Go.Proofs
open Classical
theorem take_snoc2 {xs : List Int} {k : Nat} (h : k < xs.length) : xs.take (k + 1) = xs.take k ++ [xs[k]?.getD default] := by
 rw [List.take_add_one, List.getElem?_eq_getElem h]; rfl
theorem tvalid_spec (t : Tape) : SpecP Tryz.prog 218 [dTape t] (dB (okTape t)) := by
 refine specP_of_body Tryz.func218 rfl rfl (fun I M => ?_)
 refine au 9 ?_
 first | refine runL_fact (s := 4) rfl (fun _ _ h => dSl_len h) (fun hlen1 => ?_) | skip
 refine au 19 ?_
 refine run_retP Tryz.func218 rfl rfl ?_
 exact d_B (by unfold okTape; constructor <;> (intro h; omega))
theorem tlimit_spec (n : Int) : SpecP Tryz.prog 219 [dInt .i64 n] (dB (1 ≤ n ∧ n ≤ 2147483647)) := by
 refine specP_of_body Tryz.func219 rfl rfl (fun I M => ?_)
 refine au 15 ?_
 refine run_retP Tryz.func219 rfl rfl ?_
 exact fun _ _ h => h
theorem next_spec (b : Nat) (xs : List Int) (k : Nat) (n : Int) (d3 : D) (hk : k ≤ xs.length) (hx : xs.length ≤ 16384) : Spec Tryz.prog 222 [dVal (ptr b 0), dInt .i64 n] [rCells b 270 [dInts xs, dInt .i64 (k : Nat), d3]] (σ := Unit) (fun _ => True) (fun _ => dTup [dInt .i64 (if k < xs.length ∧ hasP n (xs[k]?.getD default) then xs[k]?.getD default else 0), dInt .i64 (if k < xs.length then if hasP n (xs[k]?.getD default) then 0 else 8 else 3)]) (fun _ => [rCells b 270 [dInts xs, dInt .i64 (if k < xs.length ∧ hasP n (xs[k]?.getD default) then ((k + 1 : Nat) : Int) else (k : Nat)), d3]]) := by
  refine spec_of_body Tryz.func222 rfl rfl (fun I F => ?_)
  refine au 7 ?_
  refine dr_start _ (.none) [⟨[(0, none)], [], none⟩,
      ⟨[(7, some (0, false))], [0], none⟩,
      ⟨[(8, some (1, false))], [0, 1], none⟩,
      ⟨[(9, some (2, false))], [0, 1, 2], some (0, 0, false)⟩,
      ⟨[(0, none)], [], none⟩,
      ⟨[(11, some (4, false))], [4], none⟩,
      ⟨[(12, some (5, false))], [4, 5], none⟩,
      ⟨[(13, some (6, false))], [4, 5, 6], some (0, 0, false)⟩,
      ⟨[(14, some (7, false))], [4, 5, 6, 7], none⟩,
      ⟨[(10, some (3, false)), (15, some (8, false))], [0, 1, 2, 3, 4, 5, 6, 7, 8], none⟩] [_] _ rfl rfl ?_
  refine da 10 ?_
  refine dq_end (rs := [_]) () rfl (fun _ => rfl) (.nil) rfl (fun _ => rfl) (fun _ _ => ?_)
  dsimp only [outG, outM, List.map, List.set, id]
  refine run_cond rfl (fun h1 => ?_) (fun h1 => ?_)
  ·
   refine au 5 ?_
   refine run_ret2 (()) Tryz.func222 rfl rfl rfl ?_ (trivial) (fun _ _ h => by rw [if_neg (by omega)]; exact h)
   exact d_tup2 (d_int (by rw [if_neg (by omega)])) (d_int (by rw [if_neg (by omega)]))
  ·
   refine au 2 ?_
   refine dr_start _ (.none) [⟨[(0, none)], [], none⟩,
       ⟨[(17, some (0, false))], [0], none⟩,
       ⟨[(18, some (1, false))], [0, 1], none⟩,
       ⟨[(19, some (2, false))], [0, 1, 2], some (0, 0, false)⟩,
       ⟨[(0, none)], [], none⟩,
       ⟨[(21, some (4, false))], [4], none⟩,
       ⟨[(22, some (5, false))], [4, 5], none⟩,
       ⟨[(23, some (6, false))], [4, 5, 6], some (0, 0, false)⟩,
       ⟨[(20, some (3, false)), (24, some (7, false))], [0, 1, 2, 3, 4, 5, 6, 7], none⟩,
       ⟨[(25, some (8, false))], [0, 1, 2, 3, 4, 5, 6, 7, 8], none⟩,
       ⟨[(26, some (9, false))], [0, 1, 2, 3, 4, 5, 6, 7, 8, 9], none⟩] [_] _ rfl rfl ?_
   refine da 11 ?_
   refine dq_end (rs := [_]) () rfl (fun _ => rfl) (.nil) rfl (fun _ => rfl) (fun _ _ => ?_)
   dsimp only [outG, outM, List.map, List.set, id]
   refine au 12 ?_
   refine run_cond rfl (fun h2 => ?_) (fun h2 => ?_)
   ·
    refine au 5 ?_
    refine run_ret2 (()) Tryz.func222 rfl rfl rfl ?_ (trivial) (fun _ _ h => by rw [if_neg (by unfold hasP; omega)]; exact h)
    exact d_tup2 (d_int (by rw [if_neg (by unfold hasP; omega)])) (d_int (by rw [if_pos (by omega), if_neg (by unfold hasP; omega)]))
   ·
    refine au 18 ?_
    have hgo : k < xs.length ∧ hasP n (xs[k]?.getD default) := ⟨by omega, by unfold hasP; omega⟩
    refine run_ret2 (()) Tryz.func222 rfl rfl rfl ?_ (trivial) (fun _ _ h => by rw [if_pos hgo]; exact h)
    exact d_tup2 (d_int (by rw [if_pos hgo])) (d_int (by rw [if_pos (by omega), if_pos hgo.2]))
theorem draw_spec (b : Nat) (xs : List Int) (k0 : Nat) (n c : Int) (hk : k0 ≤ xs.length) (hx : xs.length ≤ 16384) (hn : 1 ≤ n ∧ n ≤ 2147483647) (hc : 0 ≤ c) : Spec Tryz.prog 220 [dVal (ptr b 0), dInt .i64 n, dInt .i64 c] [rCells b 270 [dInts xs, dInt .i64 (k0 : Nat), dVal (.slice none 0 0)]] (σ := Nat) (fun m => stepE n (xs.drop k0) c.toNat = 0 → m = c.toNat) (fun _ => dInt .i64 (stepE n (xs.drop k0) c.toNat)) (fun m => [rCells b 270 [dInts xs, dInt .i64 ((k0 + m : Nat) : Int), dInts ((xs.drop k0).take m)]]) := by
  refine spec_of_body Tryz.func220 rfl rfl (fun I F => ?_)
  refine au 10 ?_
  refine run_rowNil 3 1 fI ?_
  refine run_cellsUp (kk := 2) (b := b) (dVal (.slice none 0 0)) (dSlV (.slice none 0 0)) (.there (.here)) rfl (fun J u h => ⟨h, _, _, _, h⟩) ?_
  refine run_front (.here) ?_
  refine run_front (.there (.here)) ?_
  refine run_loopF (σ := Value × Nat) (ks := [0, 1, 2]) (.cons rfl (.cons rfl (.cons rfl (.nil)))) (fun s => [(7, dInt .i64 (s.2 : Nat))]) (fun s => [rCells b 270 [dInts xs, dInt .i64 ((k0 + s.2 : Nat) : Int), dSlV s.1], rRow s.1 3 1 fI ((xs.drop k0).take s.2)]) (fun s => s.2 ≤ c.toNat ∧ k0 + s.2 ≤ xs.length ∧ ∀ j, j < s.2 → hasP n (xs[k0 + j]?.getD default)) (fun s => c.toNat - s.2) ((.slice none 0 0, 0)) (⟨Nat.zero_le _, hk, fun j hj => by simp only at hj; omega⟩) (.cons rfl (by first | exact fun _ _ h => h | exact d_int (by omega) | exact d_int (by simp) | exact d_intN (by omega) | exact d_any) .nil) (rfl) ?_
  rintro s ⟨hA, hB, hC⟩ ih1
  have htl : ((xs.drop k0).take s.2).length = s.2 := by rw [List.length_take, List.length_drop]; omega
  have hg : ∀ j, (xs.drop k0)[j]? = xs[k0 + j]? := fun j => List.getElem?_drop
  refine au 7 ?_
  refine run_cond rfl (fun h2 => ?_) (fun h2 => ?_)
  ·
   have hc1 := h2
   refine au 9 ?_
   refine run_callM rfl (.here) (next_spec _ _ (k0 + s.2) _ _ (by omega) hx) rfl (fun s3 hs3 => ?_)
   refine au 12 ?_
   refine run_cond rfl (fun h4 => ?_) (fun h4 => ?_)
   ·
    have hg1 := h4
    refine au 5 ?_
    have hE : (if k0 + s.2 < xs.length then if hasP n (xs[k0 + s.2]?.getD default) then (0 : Int) else 8 else 3) = stepE n (xs.drop k0) c.toNat := by
      by_cases h1 : k0 + s.2 < xs.length
      · rw [if_pos h1] at hg1 ⊢
        by_cases h2 : hasP n (xs[k0 + s.2]?.getD default)
        · rw [if_pos h2] at hg1; omega
        · rw [if_neg h2, stepE_bad (i := s.2) (by rw [List.length_drop]; omega) (by omega) (fun j hj => by rw [hg]; exact hC j hj) (by rw [hg]; exact h2)]
      · rw [if_neg h1, stepE_short (fun x hx => by obtain ⟨j, hj⟩ := List.getElem?_of_mem hx; have h5 := (List.getElem?_eq_some_iff.1 hj).1; rw [List.length_drop] at h5; have := hC j (by omega); rw [← hg, hj] at this; exact this) (by rw [List.length_drop]; omega)]
    have hne : (if k0 + s.2 < xs.length ∧ hasP n (xs[k0 + s.2]?.getD default) then ((k0 + s.2 + 1 : Nat) : Int) else ((k0 + s.2 : Nat) : Int)) = ((k0 + s.2 : Nat) : Int) := if_neg (fun h => hg1 (by rw [if_pos h.1, if_pos h.2]))
    rw [hne]
    first | refine run_freezeRowCellV (kk := 2) (.there (.here)) (.here) rfl ?_ | refine run_freezeRowCell (kk := 2) (.there (.here)) (.here) rfl ?_
    refine run_ret (s.2) Tryz.func220 rfl rfl ?_ (fun h0 => by rw [hE] at hg1; exact absurd h0 hg1) (fun _ _ h => h)
    exact d_int (by rw [hE])
   ·
    have hg1 : k0 + s.2 < xs.length ∧ hasP n (xs[k0 + s.2]?.getD default) := by by_cases h1 : k0 + s.2 < xs.length; (· rw [if_pos h1] at h4; by_cases h2 : hasP n (xs[k0 + s.2]?.getD default); (· exact ⟨h1, h2⟩); (· rw [if_neg h2] at h4; omega)); (· rw [if_neg h1] at h4; omega)
    refine au 6 ?_
    first | refine run_op (LocP.upV (loc_loadOwn1 rfl (.here) (by rfl))) rfl ?_ | refine run_op (loc_loadOwn1 rfl (.here) (by rfl)) rfl ?_
    refine au 1 ?_
    refine run_op (loc_buildSlice rfl rfl (.one rfl (.nil)) rfl rfl) rfl ?_
    refine run_append1 rfl (.there (.here)) rfl (by rfl) (by rfl) (by first | omega | (simp [lenMax]; omega) | (simp [lenMax]; done) | assumption) (by first | omega | (simp [lenMax]; omega) | (simp [lenMax]; done) | assumption) rfl (fun v5 => ?_)
    refine runL_rowV (s := 33) rfl (.there (.here)) ?_
    refine au 10 ?_
    rw [if_pos hg1]
    exact run_againF ih1 ((v5, s.2 + 1)) (⟨by simp only; omega, by simp only; omega, fun j hj => by simp only at hj; by_cases e : j = s.2; (· subst e; exact hg1.2); (· exact hC j (by omega))⟩) (by simp only; omega) (.cons rfl (by first | exact fun _ _ h => h | exact d_int (by omega) | exact d_int (by simp) | exact d_intN (by omega) | exact d_any) .nil) (.cons rfl (fun _ _ x => x) (.cons rfl (fun _ _ x => x) (.cons rfl (fun _ _ x => x) (.nil)))) (by simp only [appR]; rw [if_pos hg1, take_snoc2 (xs := xs.drop k0) (by rw [List.length_drop]; omega), hg]; rfl)
  ·
   refine au 5 ?_
   have hE : stepE n (xs.drop k0) c.toNat = 0 := by rw [show c.toNat = s.2 by omega]; exact stepE_ok (by rw [List.length_drop]; omega) (fun j hj => by rw [hg]; exact hC j hj)
   first | refine run_freezeRowCellV (kk := 2) (.there (.here)) (.here) rfl ?_ | refine run_freezeRowCell (kk := 2) (.there (.here)) (.here) rfl ?_
   refine run_ret (s.2) Tryz.func220 rfl rfl ?_ (fun _ => by omega) (fun _ _ h => h)
   exact d_int (by rw [hE])
theorem draws_spec (t : Tape) (n c : Int) : SpecP Tryz.prog 214 [dTape t, dInt .i64 n, dInt .i64 c] (dTup [dTape (drawT t n c), dInts (drawL t n c), dInt .i64 (drawE t n c)]) := by
  refine specP_of_body Tryz.func214 rfl rfl (fun I M => ?_)
  refine au 3 ?_
  refine run_new (loc_allocOwn (by simp)) rfl (fun b1 _ => ?_)
  refine au 7 ?_
  refine run_op (loc_call (tvalid_spec _) rfl) rfl ?_
  refine au 2 ?_
  refine run_cond rfl (fun h2 => ?_) (fun h2 => ?_)
  ·
   have c1 := h2
   refine au 7 ?_
   have hE : drawE t n c = 2 := by unfold drawE; rw [if_pos c1]
   refine run_retGP Tryz.func214 rfl (.cellN rfl (.here) (by rfl) (.tmp rfl (.tmp rfl (.nil)))) ?_ (fun _ _ h => inv_tail (h))
   exact d_tup3 (d_toTape (by unfold drawT; rw [if_neg (by rw [hE]; omega)]) (d_aggU (.cons d_nil (.cons (d_int rfl) .nil)))) (d_toInts (by unfold drawL; rw [if_neg (by rw [hE]; omega)]) d_nil) (d_int hE.symm)
  ·
   have c1 : okTape t := Classical.not_not.1 h2
   refine au 5 ?_
   refine run_op (loc_call (tlimit_spec _) rfl) rfl ?_
   refine au 7 ?_
   refine run_cond rfl (fun h3 => ?_) (fun h3 => ?_)
   ·
    have c2 := h3
    refine au 7 ?_
    have hE : drawE t n c = 1 := by unfold drawE; rw [if_neg (Classical.not_not.2 c1), if_pos c2]
    refine run_retGP Tryz.func214 rfl (.cellN rfl (.here) (by rfl) (.tmp rfl (.tmp rfl (.nil)))) ?_ (fun _ _ h => inv_tail (h))
    exact d_tup3 (d_toTape (by unfold drawT; rw [if_neg (by rw [hE]; omega)]) (d_aggU (.cons d_nil (.cons (d_int rfl) .nil)))) (d_toInts (by unfold drawL; rw [if_neg (by rw [hE]; omega)]) d_nil) (d_int hE.symm)
   ·
    have c2 : ¬ (¬ (1 ≤ n ∧ n ≤ 2147483647) ∨ c < 0) := h3
    refine au 2 ?_
    have hok := c1
    unfold okTape at hok
    refine au 7 ?_
    refine run_new (loc_boxOwnN rfl) rfl (fun b29 _ => ?_)
    refine au 2 ?_
    have hE : drawE t n c = stepE n (t.numbers.drop t.at'.toNat) c.toNat := by unfold drawE; rw [if_neg (Classical.not_not.2 c1), if_neg c2]
    refine run_cellsUp (kk := 1) (b := b29) (dInt .i64 t.at') (dInt .i64 (t.at'.toNat : Nat)) (.here) rfl (d_int (by omega)) ?_
    refine au 6 ?_
    refine run_callM rfl (.here) (draw_spec _ _ t.at'.toNat _ _ (by omega) (by omega) ⟨by omega, by omega⟩ (by omega)) rfl (fun m hm => ?_)
    refine au 2 ?_
    have m1 := hm
    refine au 5 ?_
    refine run_cond rfl (fun h4 => ?_) (fun h4 => ?_)
    ·
     have c3 := h4
     refine au 8 ?_
     refine run_retGP Tryz.func214 rfl (.cellN rfl (.there (.here)) (by rfl) (.tmp rfl (.tmp rfl (.nil)))) ?_ (fun _ _ h => inv_tail (inv_tail (h)))
     exact d_tup3 (d_toTape (by unfold drawT; rw [if_neg (by rw [hE]; exact c3)]) (d_aggU (.cons d_nil (.cons (d_int rfl) .nil)))) (d_toInts (by unfold drawL; rw [if_neg (by rw [hE]; exact c3)]) d_nil) (d_int hE.symm)
    ·
     have c3 := Classical.not_not.1 h4
     refine au 2 ?_
     refine dr_start _ (.none) [⟨[(3, none)], [], none⟩,
         ⟨[(38, some (0, false))], [0], none⟩,
         ⟨[(39, some (1, false))], [0, 1], none⟩,
         ⟨[(9, none)], [], none⟩,
         ⟨[(41, some (3, false))], [3], none⟩,
         ⟨[(42, some (4, false))], [3, 4], none⟩,
         ⟨[(43, some (5, false))], [3, 4, 5], none⟩,
         ⟨[(44, some (6, false))], [3, 4, 5, 6], some (0, 0, false)⟩,
         ⟨[(40, some (2, false)), (45, some (7, false))], [0, 1, 2, 3, 4, 5, 6, 7], none⟩,
         ⟨[(9, none)], [], none⟩,
         ⟨[(47, some (9, false))], [9], none⟩,
         ⟨[(48, some (10, false))], [9, 10], none⟩,
         ⟨[(49, some (11, false))], [9, 10, 11], some (0, 0, false)⟩,
         ⟨[(6, none), (46, some (8, false))], [0, 1, 2, 3, 4, 5, 6, 7, 8], some (1, 0, true)⟩,
         ⟨[(50, some (12, false))], [0, 1, 2, 3, 4, 5, 6, 7, 8, 9, 10, 11, 12, 13], none⟩,
         ⟨[], [0, 1, 2, 3, 4, 5, 6, 7, 8, 9, 10, 11, 12, 13, 14], none⟩] [_, _] _ rfl rfl ?_
     refine da 2 ?_
     refine dq_pure rfl (fun s => .op rfl (.nil)) (fun s hs _ => loc_call (cloneI_spec _ (by omega)) rfl) (by exact .nil) ?_
     refine da 10 ?_
     refine dq_write0 rfl (fun s => .g rfl (.op rfl (.nil))) rfl rfl (fun s hs => loc_storeN (ho := (by show OneAll [_, _]; infer_instance)) rfl rfl rfl) (by exact .nil) ?_
     refine da 2 ?_
     refine dq_end (rs := [_, _]) () rfl (fun _ => rfl) (.nil) rfl (fun _ => rfl) (fun _ _ => ?_)
     dsimp only [outG, outM, List.map, List.set, id]
     refine run_retGP Tryz.func214 rfl (.cellN rfl (.there (.here)) (by rfl) (.tmp rfl (.tmp rfl (.nil)))) ?_ (fun _ _ h => inv_tail (inv_tail (h)))
     exact d_tup3 (d_toTape (t' := ⟨t.numbers, t.at' + c⟩) (by unfold drawT; rw [if_pos (hE.trans c3)]) (d_aggU (.cons (fun _ _ h => h) (.cons (d_int (by have := m1 c3; simp only; omega)) .nil)))) (d_eq (by unfold drawL; rw [if_pos (hE.trans c3), m1 c3])) (d_int (c3.symm.trans hE.symm))
end Go.Q
