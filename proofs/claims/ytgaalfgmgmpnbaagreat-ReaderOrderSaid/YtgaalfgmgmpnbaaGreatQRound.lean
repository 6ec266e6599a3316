/- Closures that hold themselves; contracts whose result is let become immutable; tables as descriptors: what is proved here holds of every program. -/
import Derived.Test.YtgaalfgmgmpnbaaGreatQDraw2
import Derived.Test.YtgaalfgmgmpnbaaGreatQPlainA
import Derived.Laws.Externs
import Derived.Laws.Bits64
import Derived.Laws.Shifts
set_option linter.unusedVariables false
set_option linter.unusedSimpArgs false
namespace Go.Q
variable {P : Program} {f : FuncId} {N : Nat} {I0 : Imm} {R : Goal} {g : G} {M : List Res} {k : List Item}
abbrev dTab (t : Tab) : D := dAgg [dInt .i64 t.number, dInt .i64 t.p, dInt .i64 t.width, dRows t.rows]
abbrev dHd (h : Hd) : D := dAgg [dInt .i64 h.number, dInt .i64 h.p, dInt .i64 h.count, dInt .i64 h.width, dInt .i64 h.root]
abbrev fI : Int → List D := fun x => [dInt .i64 x]
abbrev fR : List Int → List D := fun x => [dInts x]

theorem spec_freeze {Ds : List D} {T n : Nat} {α : Type} {f' : α → List D} {xs : List α} (h : Spec P f Ds [] (fun _ : Value => True) (fun v => dVal v) (fun v => [rRow v T n f' xs])) : SpecP P f Ds (dSl n f' xs) := by
 intro I M w vs hv hi
 refine (h I M w vs hv hi).mono ?_
 rintro e w' ⟨v, rfl, s, _, J, h1, h2, h3⟩
 obtain ⟨J', h4, h5, h6⟩ := row_freeze h3
 have hvs : v = s := h2
 subst hvs
 exact ⟨v, rfl, J', h1.trans h4, h5, h6⟩
end Go.Q

namespace Go.Q
variable {P : Program} {f : FuncId} {N : Nat} {I0 : Imm} {R : Goal} {g : G} {M : List Res} {k : List Item}
theorem slots_cast {I J : Imm} {a : Act} {s : Nat} {d d' : D} (hsl : Slots g N I a) (hle : I.le J) (hs : look g s = some d) (hd : ∀ v, d.rel I v → d'.rel J v) : Slots ((s, d') :: g) N J a := by
 refine ⟨hsl.size, hsl.defers, fun j e hj => ?_⟩
 rw [look_cons] at hj
 split at hj
 ·rename_i e1
  subst e1
  injection hj with hj
  subst hj
  exact hd _ (hsl.slot _ _ hs)
 ·exact e.mono hle (hsl.slot _ _ hj)
theorem relL_upgrade {I : Imm} {d' : D} {v : Value} (hd : d'.rel I v) : ∀ {ds : List D} {cs : List Value} (i : Nat), relL ds I cs → ds[i]? = some (dVal v) → relL (ds.set i d') I cs
 | d :: ds, c :: cs, 0, ⟨h1, h2⟩, h => by simp at h; subst h; rw [show c = v from h1]; exact ⟨hd, h2⟩
 | d :: ds, c :: cs, i + 1, ⟨h1, h2⟩, h => ⟨h1, relL_upgrade hd i h2 (by simpa using h)⟩
 | [], [], i, _, h => by simp at h
theorem run_freezeRowCell {b kk : Nat} {T' : TypeId} {ds : List D} {C C' : Res → List Res} {F F' : List Res} {α : Type} {T n : Nat} {f' : α → List D} {xs : List α} {v : Value} (hm : Sel (rRow v T n f' xs) M C F) (hc : Sel (rCells b T' ds) F C' F') (hk : ds[kk]? = some (dVal v))
  (h : Run P f N I0 R g (C' (rCells b T' (ds.set kk (dSl n f' xs)))) k) : Run P f N I0 R g M k := by
 refine run_turn (fun I a w hsl hi => ?_) h
 obtain ⟨J, hle, hd, hi'⟩ := row_freeze (hi.perm hm.perm.1)
 refine ⟨J, hle, hsl.mono hle, ?_⟩
 have h2 := hi'.perm hc.perm.1
 refine Inv.perm ?_ (hc.perm.2 _)
 refine ⟨h2.os, h2.tape, h2.output, h2.imm, fun r hr => ?_, h2.apart⟩
 rcases List.mem_cons.1 hr with rfl | hr
 ·obtain ⟨h3, o, h4, cs, h5, h6⟩ := h2.own _ (List.mem_cons_self ..)
  exact ⟨h3, o, h4, cs, h5, relL_upgrade hd kk h6 hk⟩
 ·exact h2.own r (List.mem_cons_of_mem _ hr)
end Go.Q

namespace Go.Q
variable {P : Program} {f : FuncId} {N : Nat} {I0 : Imm} {R : Goal} {g : G} {M : List Res} {k : List Item}
theorem relL_same {J : Imm} {kk : Nat} {ds : List D} {cs : List Value} {d d' : D} (h6 : relL ds J cs) (hk : ds[kk]? = some d) (hup : ∀ u, d.rel J u → d'.rel J u) : relL (ds.set kk d') J cs := by
 obtain ⟨u, hu, hdu⟩ := relL_get h6 kk d hk
 have h7 := relL_set (d := d') (hup u hdu) kk h6
 have h8 : cs.set kk u = cs := by
  apply List.ext_getElem?
  intro i
  rw [List.getElem?_set]
  split
  ·rename_i e; subst e
   split
   ·exact hu.symm
   ·rename_i e; rw [List.getElem?_eq_none (by omega)]
  ·rfl
 rwa [h8] at h7
theorem run_freezeUp {b kk : Nat} {T' : TypeId} {ds : List D} {C C' : Res → List Res} {F F' : List Res} {α : Type} {T n : Nat} {f' : α → List D} {xs : List α} {v : Value} (d d' : D) (hm : Sel (rRow v T n f' xs) M C F) (hc : Sel (rCells b T' ds) F C' F') (hk : ds[kk]? = some d)
  (hup : ∀ J u, d.rel J u → (dSl n f' xs).rel J v → d'.rel J u)
  (h : Run P f N I0 R g (C' (rCells b T' (ds.set kk d'))) k) : Run P f N I0 R g M k := by
 refine run_turn (fun I a w hsl hi => ?_) h
 obtain ⟨J, hle, hd, hi'⟩ := row_freeze (hi.perm hm.perm.1)
 refine ⟨J, hle, hsl.mono hle, ?_⟩
 have h2 := hi'.perm hc.perm.1
 refine Inv.perm ?_ (hc.perm.2 _)
 refine ⟨h2.os, h2.tape, h2.output, h2.imm, fun r hr => ?_, h2.apart⟩
 rcases List.mem_cons.1 hr with rfl | hr
 ·obtain ⟨h3, o, h4, cs, h5, h6⟩ := h2.own _ (List.mem_cons_self ..)
  exact ⟨h3, o, h4, cs, h5, relL_same h6 hk (fun u hu => hup J u hu hd)⟩
 ·exact h2.own r (List.mem_cons_of_mem _ hr)
theorem run_cellsUp {b kk : Nat} {T' : TypeId} {ds : List D} {C' : Res → List Res} {F' : List Res} (d d' : D) (hc : Sel (rCells b T' ds) M C' F') (hk : ds[kk]? = some d) (hup : ∀ J u, d.rel J u → d'.rel J u)
  (h : Run P f N I0 R g (C' (rCells b T' (ds.set kk d'))) k) : Run P f N I0 R g M k := by
 refine run_turn (fun I a w hsl hi => ?_) h
 refine ⟨I, I.le_refl, hsl, ?_⟩
 have h2 := hi.perm hc.perm.1
 refine Inv.perm ?_ (hc.perm.2 _)
 refine ⟨h2.os, h2.tape, h2.output, h2.imm, fun r hr => ?_, h2.apart⟩
 rcases List.mem_cons.1 hr with rfl | hr
 ·obtain ⟨h3, o, h4, cs, h5, h6⟩ := h2.own _ (List.mem_cons_self ..)
  exact ⟨h3, o, h4, cs, h5, relL_same h6 hk (fun u hu => hup I u hu)⟩
 ·exact h2.own r (List.mem_cons_of_mem _ hr)
def dSlV (v : Value) : D := ⟨fun _ u => u = v ∧ ∃ a n c, u = .slice a n c, fun _ h => h⟩
instance (v : Value) : One (dSlV v) := ⟨fun ⟨_, _, _, _, h⟩ => by rw [h]; exact ⟨rfl, rfl⟩⟩
theorem runL_rowV {ops : Array Oper} {l : List Oper} {s : Nat} {C : Res → List Res} {F : List Res} {α : Type} {T n : Nat} {f' : α → List D} {xs : List α} {v : Value} (hs : look g s = some (dVal v)) (hm : Sel (rRow v T n f' xs) M C F)
  (h : RunL P f N I0 R ((s, dSlV v) :: g) M ops l k) : RunL P f N I0 R g M ops l k := by
 constructor
 intro I a w b cs hb hk hl hsl hi
 refine h.go I a w b cs hb hk hl (slots_cast hsl I.le_refl hs (fun u hu => ⟨hu, ?_⟩)) hi
 rw [show u = v from hu]
 rcases row_cases (hi.perm hm.perm.1) with ⟨e, _⟩ | ⟨b, cap, cs, e, _⟩
 ·exact ⟨_, _, _, e⟩
 ·exact ⟨_, _, _, e⟩
theorem row_slice {α : Type} {v : Value} {T n : Nat} {f' : α → List D} {xs : List α} {I : Imm} {F : List Res} {w : World} (h : Inv I (rRow v T n f' xs :: F) w) : ∃ a n c, v = .slice a n c := by
 rcases row_cases h with ⟨e, _⟩ | ⟨b, cap, cs, e, _⟩
 ·exact ⟨_, _, _, e⟩
 ·exact ⟨_, _, _, e⟩
theorem loc_append1V {t e : TypeId} {bytes : Nat} {z : Value} {agg : Bool} {n : Nat} {α : Type} {f' : α → List D} {xs : List α} {v : Value} {x y : Operand} {dst : Option Tmp} {ty : TypeId} {pos : String} {after : Array Edge} {gd : Option (Nat × Bool)} {ds : List D} (e0 : α) [ht : TySl P t e] [hz : TyZ P e bytes z] [hv : TyV P e agg n] [h1 : ∀ x, OneAll (f' x)] (hx : opd g x = some (dSlV v)) (hy : opd g y = some (dSl n (fun l : List D => l) [ds])) (he : f' e0 = ds) (hzn : z.cells.size = n)
  (hb : (xs.length + 1) * bytes ≤ 140737488355328) (hl : xs.length + 1 ≤ lenMax) :
  LocM P ⟨dst, .call ⟨.builtin .append, #[x, y], #[t, t]⟩, ty, pos, after, gd⟩ g N [rRow v e n f' xs] (fun _ : Value => True) (fun v' => dSlV v') (fun v' => [rRow v' e n f' (xs ++ [e0])]) := by
 constructor
 intro F I a w K Q hs hi hK
 subst he
 have hxv : a.eval x = v := (opd_sound hs hx).1
 obtain ⟨ad, cap, hyv, hcap, _, _, hel⟩ := dSl_lit (opd_sound hs hy)
 have hnil : ad = none → [e0] = [] := by
  intro h
  obtain ⟨_, p, hp, _⟩ := hel 0 e0 rfl; rw [h] at hp; cases hp
 obtain ⟨v', w', hr, hi'⟩ := row_append (P := P) (t := t) (ht := ht) (hz := hz) (hv := hv) rfl hzn hi rfl hcap hel hnil (by simpa using hb) (by simpa using hl) ty
 unfold Oper.wp
 have hrun : (execOp a.eval ⟨dst, .call ⟨.builtin .append, #[x, y], #[t, t]⟩, ty, pos, after, gd⟩).run P w = .ok (.value v') w' := by
  simp only [execOp, resolve, invoke, builtin, Sem.run_bind, Sem.run_pure, Result.andThen_ok, List.map_toArray, List.map_cons, List.map_nil, hxv, hyv]
  simp only [List.length_cons, List.length_nil] at hr ⊢
  rw [hr]
  rfl
 rw [hrun]
 exact hK v' v' w' I trivial I.le_refl ⟨rfl, row_slice hi'⟩ hi'

def rOf {α : Type} (T n : Nat) (f' : α → List D) (p : Value × List α) : Res := rRow p.1 T n f' p.2
theorem rows_freeze {α : Type} {T n : Nat} {f' : α → List D} : ∀ (l : List (Value × List α)) {I : Imm} {F : List Res} {w : World}, Inv I (l.map (rOf T n f') ++ F) w →
  ∃ J, I.le J ∧ (∀ p ∈ l, (dSl n f' p.2).rel J p.1) ∧ Inv J F w
 | [], I, F, w, h => ⟨I, I.le_refl, fun p hp => (by cases hp), h⟩
 | p :: l, I, F, w, h => by
  obtain ⟨J, h1, h2, h3⟩ := row_freeze (show Inv I (rRow p.1 T n f' p.2 :: (l.map (rOf T n f') ++ F)) w from h)
  obtain ⟨K, h4, h5, h6⟩ := rows_freeze l h3
  refine ⟨K, h1.trans h4, fun q hq => ?_, h6⟩
  rcases List.mem_cons.1 hq with rfl | hq
  ·exact (dSl n f' q.2).mono h4 h2
  ·exact h5 q hq
theorem sl_up {α β : Type} {n : Nat} {f : α → List D} {h : β → List D} {I : Imm} {v : Value} {xs : List α} {ys : List β} (hl : xs.length = ys.length)
  (hup : ∀ (i : Nat) (x : α) (y : β), xs[i]? = some x → ys[i]? = some y → (f x).length = (h y).length ∧ ∀ cs, relL (f x) I cs → relL (h y) I cs) (hr : (dSl n f xs).rel I v) : (dSl n h ys).rel I v := by
 obtain ⟨a, cap, h1, h2, h3, h4, h5⟩ := hr
 rw [hl] at h1 h2 h4
 refine ⟨a, cap, h1, h2, h3, h4, fun i y hy => ?_⟩
 have hi : i < ys.length := (List.getElem?_eq_some_iff.1 hy).1
 have hx : xs[i]? = some (xs[i]'(by omega)) := by simp [hl, hi]
 obtain ⟨e1, e2⟩ := hup i _ y hx hy
 obtain ⟨h6, p, h7, h8, h9, cs, T, fz, h10, h11⟩ := h5 i _ hx
 exact ⟨by omega, p, h7, h8, h9, cs, T, fz, h10, by rw [← e1]; exact e2 _ h11⟩
end Go.Q

namespace Go.Q
open Classical
structure Dk where
 xs : List Int
 k : Nat
def Dk.val (d : Dk) (n : Int) : Int := if n < 1 ∨ d.xs.length ≤ d.k then 0 else (d.xs[d.k]?.getD default) % n
def Dk.next (d : Dk) (n : Int) : Dk := if n < 1 ∨ d.xs.length ≤ d.k then d else ⟨d.xs, d.k + 1⟩
theorem Dk.val_nonneg (d : Dk) (n : Int) : 0 ≤ d.val n := by
 unfold Dk.val
 split
 ·omega
 ·exact Int.emod_nonneg _ (by omega)
theorem Dk.val_lt (d : Dk) (n : Int) (h : 1 ≤ n) : d.val n < n := by
 unfold Dk.val
 split
 ·omega
 ·exact Int.emod_lt_of_pos _ (by omega)
def Dk.it (d : Dk) (p : Int) : Nat → Dk
 | 0 => d
 | k + 1 => (d.it p k).next p
def Dk.elems (d : Dk) (p : Int) : Nat → List Int
 | 0 => []
 | k + 1 => d.elems p k ++ [(d.it p k).val p]
theorem checkT_zero {t : Tab} (h1 : 1 ≤ t.number ∧ t.number < 2147483647) (h2 : okP t.p) (h3 : 1 ≤ t.width ∧ t.width ≤ 64) (h4 : t.rows.length ≤ 1024) (h5 : ∀ r ∈ t.rows, (r.length : Int) = t.width ∧ allP t.p r) : checkT t = 0 := by
 unfold checkT
 rw [if_neg (by omega), if_neg (by simpa using h2), if_neg (by omega), if_neg (by omega)]
 refine firstErr_zero.2 fun r hr => ?_
 obtain ⟨h6, h7⟩ := h5 r hr
 unfold rowErr
 rw [if_neg (by simpa using h6), if_neg (by simpa using h7)]
end Go.Q

namespace Go.Q
variable {P : Program} {f : FuncId}
end Go.Q

namespace Go.Q
open Classical
theorem head_ok {t : Tab} (h : checkT t = 0) : headT t = ⟨t.number, t.p, t.rows.length, t.width, rootD (t.rows.map rowD)⟩ := by unfold headT; rw [if_pos h]
end Go.Q

namespace Go.Q
variable {P : Program} {f : FuncId} {N : Nat} {g : G} {M : List Res} {dst : Option Tmp} {ty : TypeId} {pos : String} {after : Array Edge} {gd : Option (Nat × Bool)}
theorem specP_pre {Ds Ds' : List D} {d : D} (h : SpecP P f Ds d) (hd : ∀ I vs, relL Ds' I vs → relL Ds I vs) : SpecP P f Ds' d :=
 fun I M w vs hv hi => h I M w vs (hd I vs hv) hi
theorem relL_last {a a' : D} {ds : List D} (h : ∀ I v, a'.rel I v → a.rel I v) : ∀ I vs, relL (ds ++ [a']) I vs → relL (ds ++ [a]) I vs := by
 induction ds with
 | nil => intro I vs hr; match vs, hr with | [v], hr => exact ⟨h _ _ hr.1, trivial⟩
 | cons e ds ih => intro I vs hr; match vs, hr with | v :: vs, hr => exact ⟨hr.1, ih I vs hr.2⟩
theorem opd_sub {c p : Prop} (hg : c) {d : D} : dIf (c ∧ p) d = dIf p d := by
 have : (c ∧ p) = p := propext ⟨fun h => h.2, fun h => ⟨hg, h⟩⟩
 rw [this]
theorem loc_orG {c0 : Prop} (hg : c0) {c b : Operand} {p q : Prop} (hc : opd g c = some (dB p)) (hb : opd g b = some (dIf (c0 ∧ ¬ p) (dB q))) : LocP P ⟨dst, .pick c (.const (.bool true)) b, ty, pos, after, gd⟩ g N M (dB (p ∨ q)) :=
 loc_or hc (hb.trans (congrArg some (opd_sub hg)))
end Go.Q

namespace Go.Q
open Classical
variable {P : Program} {f : FuncId} {N : Nat} {I0 : Imm} {R : Goal} {g : G} {M : List Res} {k : List Item}
theorem run_gopM {α : Type} (mk : α → Res) {x0 x1 : α} {C : Res → List Res} {F : List Res} {l : List Oper} {rest : List Oper} {dst gs : Tmp} {j : Nat} {want : Bool} {op : Op} {ty : TypeId} {pos : String} {after : Array Edge} {d dg : D} {c : Prop} {gt : G}
  (hj : (l[j]?).bind (·.dst) = some gs) (hg : look g gs = some dg) (hgd : guardD want dg c)
  (hd : c → LocM P ⟨some dst, op, ty, pos, after, some (j, want)⟩ gt N [mk x0] (fun _ : Unit => True) (fun _ => d) (fun _ => [mk x1])) (hN : Nat.blt dst N = true) (hsel : Sel (mk x0) M C F)
  (h : RunLG P f N I0 R c ((dst, d) :: gt) ((dst, dIf c d) :: g) (C (mk (if c then x1 else x0))) l.toArray rest k) :
  RunLG P f N I0 R c gt g M l.toArray (⟨some dst, op, ty, pos, after, some (j, want)⟩ :: rest) k := by
 constructor
 intro I a w b cs hb hk hl hs hst hi
 have hgs := hs.slot gs _ hg
 have hN' : dst < N := by simpa [Nat.blt_eq] using hN
 have hy : yielded l.toArray a.tmps j = (match a.tmps.getD gs undef with | .bool b => some b | _ => none) := by
  simp only [yielded, List.getElem?_toArray, hj, Option.bind_some, Array.getD_eq_getD_getElem?]
  cases hx : a.tmps[gs]? with
  | none => rfl
  | some u => cases u <;> rfl
 have hans := hgd I _ hgs
 by_cases hc : c
 ·rw [if_pos hc] at h
  refine wpl_want hs.defers ?_ fun K hK => ?_
  ·simp only [Region.wanted, hy]
   exact beq_iff_eq.2 (hans.2 hc)
  ·refine (hd hc).go F I a w K _ (hst hc) (hi.perm hsel.perm.1) fun s v w' J _ hle hv hi' => hK _ _ ?_
   exact h.go J _ w' b cs hb hk (hl.trans hle) ((hs.mono hle).put (d := dIf _ d) ⟨fun _ => hv, fun hn => absurd hc hn⟩ hN') (fun _ => ((hst hc).mono hle).put hv hN') (hi'.perm (hsel.perm.2 _))
 ·rw [if_neg hc] at h
  refine wpl_skip ?_ ?_
  ·simp only [Region.wanted, hy]
   have : ¬ ((match a.tmps.getD gs undef with | .bool b => some b | _ => none) = some want) := fun e => hc (hans.1 e)
   simpa using this
  ·exact h.go I _ w b cs hb hk hl (hs.put (d := dIf _ d) ⟨fun hcc => absurd hcc hc, fun _ => rfl⟩ hN') (fun hcc => absurd hcc hc) ((hi.perm hsel.perm.1).perm (hsel.perm.2 _))
end Go.Q

namespace Go.Q
variable {P : Program} {f : FuncId} {N : Nat} {I0 : Imm} {R : Goal} {g : G} {M : List Res} {k : List Item} {dst : Option Tmp} {ty : TypeId} {pos : String} {after : Array Edge} {gd : Option (Nat × Bool)}
class Flat (d : D) : Prop where
 flat : ∀ {I J v}, d.rel I v → d.rel J v
instance (k : IntKind) (n : Int) : Flat (dInt k n) := ⟨fun h => h⟩
instance (p : Prop) : Flat (dB p) := ⟨fun h => h⟩
def whole (w : World) : Imm := ⟨fun b => w.heap[b]?, w.os, w.tape, w.output⟩
theorem le_whole {I : Imm} {w : World} (h : Inv I M w) : I.le (whole w) := ⟨h.imm, h.os, h.tape, h.output⟩
theorem row_view {I : Imm} {w : World} {α : Type} {v : Value} {T n : Nat} {f' : α → List D} {xs : List α} (h : Inv I M w) (hm : rRow v T n f' xs ∈ M) : (dSl n f' xs).rel (whole w) v := by
 obtain ⟨s, t, rfl⟩ := List.append_of_mem hm
 obtain ⟨J, _, h2, h3⟩ := row_freeze (h.perm List.perm_middle)
 exact (dSl n f' xs).mono (le_whole h3) h2
theorem run_rowForm {α : Type} {v : Value} {T n : Nat} {f' : α → List D} {xs : List α} (hm : In (rRow v T n f' xs) M) (hx : 0 < xs.length) (h : ∀ b cap, v = .slice (some ⟨b, 0, none⟩) xs.length cap → Run P f N I0 R g M k) : Run P f N I0 R g M k := by
 constructor
 intro I a w b cs hb hk hl hs hi
 obtain ⟨s, t, e⟩ := List.append_of_mem hm.mem
 have hi' := hi
 rw [e] at hi'
 rcases row_cases (hi'.perm List.perm_middle) with ⟨_, h2⟩ | ⟨b', cap, cs', h2, _⟩
 ·rw [h2] at hx; cases hx
 ·exact (h b' cap h2).go I a w b cs hb hk hl hs hi
inductive Bor (M : List Res) : List D → List D → Prop where
 | nil : Bor M [] []
 | same {d : D} {ds es : List D} : Bor M ds es → Bor M (d :: ds) (d :: es)
 | row {v : Value} {T n : Nat} {α : Type} {f' : α → List D} {xs : List α} {ds es : List D} : In (rRow v T n f' xs) M → Bor M ds es → Bor M (dVal v :: ds) (dSl n f' xs :: es)
theorem Bor.rel {I : Imm} {w : World} (h : Inv I M w) : ∀ {ds es : List D} {vs : List Value}, Bor M ds es → relL ds I vs → relL es (whole w) vs := by
 intro ds es vs hb
 induction hb generalizing vs with
 | nil => intro hr; cases vs with | nil => trivial | cons => cases hr
 | same _ ih => intro hr; cases vs with | nil => cases hr | cons => exact ⟨D.mono _ (le_whole h) hr.1, ih hr.2⟩
 | row hm _ ih =>
  intro hr
  cases vs with
  | nil => cases hr
  | cons =>
   refine ⟨?_, ih hr.2⟩
   rw [show _ = _ from hr.1]
   exact row_view h hm.mem
end Go.Q

namespace Go.Q
instance : Inhabited D := ⟨dTop⟩
end Go.Q

namespace Go.Q
variable {P : Program} {f : FuncId} {N : Nat} {I0 : Imm} {R : Goal} {g : G} {M : List Res} {k : List Item} {dst : Option Tmp} {ty : TypeId} {pos : String} {after : Array Edge} {gd : Option (Nat × Bool)}
end Go.Q

namespace Go.Q
variable {P : Program} {f : FuncId} {N : Nat} {I0 : Imm} {R : Goal} {g : G} {M : List Res} {k : List Item}
variable {dst : Option Tmp} {ty : TypeId} {pos : String} {after : Array Edge} {gd : Option (Nat × Bool)}
def rBuf (b T n : Nat) (els : List (List D)) : Res :=
 ⟨some b, fun I o => ∃ cs, o = some (.cells cs T (0, 0)) ∧ (∀ e ∈ els, e.length = n) ∧ relL els.flatten I cs.toList, fun h ⟨cs, e, h1, r⟩ => ⟨cs, e, h1, relL_mono h r⟩⟩
def sl (b n k len cap : Nat) : Value := .slice (some ⟨b, k * n, none⟩) len cap
def junk (n m : Nat) : List (List D) := List.replicate m (List.replicate n dTop)
theorem flatten_len {n : Nat} : ∀ {els : List (List D)}, (∀ e ∈ els, e.length = n) → els.flatten.length = els.length * n
 | [], _ => by simp
 | e :: els, h => by
  simp only [List.flatten_cons, List.length_append, List.length_cons, Nat.add_mul, Nat.one_mul]
  rw [flatten_len (fun x hx => h x (List.mem_cons_of_mem _ hx)), h e (List.mem_cons_self ..)]
  omega
theorem flatten_take {n : Nat} : ∀ {els : List (List D)} (i : Nat), (∀ e ∈ els, e.length = n) → (els.take i).flatten = els.flatten.take (i * n)
 | [], i, _ => by simp
 | e :: els, 0, _ => by simp
 | e :: els, i + 1, h => by
  have he := h e (List.mem_cons_self ..)
  rw [List.take_succ_cons, List.flatten_cons, flatten_take i (fun x hx => h x (List.mem_cons_of_mem _ hx)), List.flatten_cons, List.take_append]
  rw [List.take_of_length_le (l := e) (by rw [he, Nat.add_mul]; omega), he, Nat.add_mul, Nat.one_mul, Nat.add_sub_cancel]
theorem flatten_drop {n : Nat} : ∀ {els : List (List D)} (i : Nat), (∀ e ∈ els, e.length = n) → (els.drop i).flatten = els.flatten.drop (i * n)
 | [], i, _ => by simp
 | e :: els, 0, _ => by simp
 | e :: els, i + 1, h => by
  have he := h e (List.mem_cons_self ..)
  rw [List.drop_succ_cons, flatten_drop i (fun x hx => h x (List.mem_cons_of_mem _ hx)), List.flatten_cons, List.drop_append]
  rw [@List.drop_eq_nil_of_le _ e _ (by rw [he, Nat.add_mul]; omega), he, Nat.add_mul, Nat.one_mul, Nat.add_sub_cancel, List.nil_append]
theorem flatten_map {α : Type} {f' : α → List D} : ∀ {xs : List α}, (xs.map f').flatten = xs.flatMap f'
 | [] => rfl
 | x :: xs => by simp only [List.map_cons, List.flatten_cons, List.flatMap_cons, flatten_map]
theorem relL_top {I : Imm} : ∀ (vs : List Value), relL (List.replicate vs.length dTop) I vs
 | [] => trivial
 | _ :: vs => ⟨trivial, relL_top vs⟩
theorem junk_flat (n m : Nat) : (junk n m).flatten = List.replicate (m * n) dTop := by
 induction m with
 | zero => simp [junk]
 | succ m ih =>
  unfold junk at ih ⊢
  rw [List.replicate_succ, List.flatten_cons, ih, List.replicate_append_replicate, Nat.add_mul]
  congr 1
  omega
theorem junk_len {n m : Nat} : ∀ e ∈ junk n m, e.length = n := by
 intro e he
 rw [List.eq_of_mem_replicate he]
 simp
theorem row_open {α : Type} {b len cap : Nat} {T n : Nat} {f' : α → List D} {xs : List α} {I : Imm} {F : List Res} {w : World} (h : Inv I (rRow (.slice (some ⟨b, 0, none⟩) len cap) T n f' xs :: F) w) :
  len = xs.length ∧ xs.length ≤ cap ∧ cap ≤ maxLen ∧ xs.length ≤ lenMax ∧ (∀ x ∈ xs, (f' x).length = n) ∧ Inv I (rBuf b T n (xs.map f' ++ junk n (cap - xs.length)) :: F) w := by
 have h1 := h.own _ (List.mem_cons_self ..)
 obtain ⟨hb, o, h3, b', cap', cs, h4, h5, h6, h7, h8, h9, h10, h11⟩ := h1
 simp only [Value.slice.injEq, Option.some.injEq, Addr.mk.injEq] at h4 h5
 obtain ⟨⟨h4, _⟩, hl, hc⟩ := h4
 subst h4 h5 hc hl
 refine ⟨rfl, h7, h8, h9, h10, ?_⟩
 have hlen : ∀ e ∈ xs.map f' ++ junk n (cap - xs.length), e.length = n := by
  intro e he
  rcases List.mem_append.1 he with he | he
  ·obtain ⟨x, hx, rfl⟩ := List.mem_map.1 he
   exact h10 x hx
  ·exact junk_len e he
 refine ⟨h.os, h.tape, h.output, h.imm, fun r hr => ?_, h.apart⟩
 rcases List.mem_cons.1 hr with rfl | hr
 ·refine ⟨hb, _, h3, cs, rfl, hlen, ?_⟩
  rw [List.flatten_append, flatten_map, junk_flat]
  rw [← List.take_append_drop (xs.length * n) cs.toList]
  refine relL_append h11 ?_
  have : (cap - xs.length) * n = (cs.toList.drop (xs.length * n)).length := by
   rw [List.length_drop, show cs.toList.length = cap * n by simp [h6], Nat.sub_mul]
  rw [this]
  exact relL_top _
 ·exact h.own r (List.mem_cons_of_mem _ hr)
theorem row_shut {α : Type} {b len cap : Nat} {T n : Nat} {f' : α → List D} {xs : List α} {els : List (List D)} {I : Imm} {F : List Res} {w : World} (h : Inv I (rBuf b T n (xs.map f' ++ els) :: F) w)
  (hl : len = xs.length) (hc : xs.length + els.length = cap) (hm : cap ≤ maxLen) (hx : xs.length ≤ lenMax) : Inv I (rRow (.slice (some ⟨b, 0, none⟩) len cap) T n f' xs :: F) w := by
 subst hl
 obtain ⟨hb, o, h3, cs, h4, h5, h6⟩ := h.own _ (List.mem_cons_self ..)
 injection h4 with h4
 subst h4
 refine ⟨h.os, h.tape, h.output, h.imm, fun r hr => ?_, h.apart⟩
 rcases List.mem_cons.1 hr with rfl | hr
 ·have h7 : ∀ x ∈ xs, (f' x).length = n := fun x hx => h5 _ (List.mem_append_left _ (List.mem_map_of_mem hx))
  have h8 := relL_length h6
  rw [flatten_len h5, List.length_append, List.length_map, hc] at h8
  refine ⟨hb, _, h3, b, cap, cs, rfl, rfl, by simpa using h8.symm, by omega, hm, hx, h7, ?_⟩
  have h9 := relL_take (xs.length * n) h6
  rw [← flatten_take _ h5, List.take_left' (by simp)] at h9
  rwa [flatten_map] at h9
 ·exact h.own r (List.mem_cons_of_mem _ hr)
theorem own_buf {I : Imm} {b T n : Nat} {els : List (List D)} {M : List Res} {w : World} (h : Inv I M w) (hm : rBuf b T n els ∈ M) :
  ∃ cs, w.heap[b]? = some (.cells cs T (0, 0)) ∧ (∀ e ∈ els, e.length = n) ∧ relL els.flatten I cs.toList := by
 obtain ⟨_, o, h3, cs, h4, h5, h6⟩ := h.own _ hm
 injection h4 with h4
 subst h4
 exact ⟨cs, h3, h5, h6⟩
def put (els : List (List D)) (kk : Nat) (new : List (List D)) : List (List D) := els.take kk ++ new ++ els.drop (kk + new.length)
theorem buf_write {I : Imm} {b T n : Nat} {els new : List (List D)} {F : List Res} {w : World} (h : Inv I (rBuf b T n els :: F) w) {cs : Array Value} (h3 : w.heap[b]? = some (.cells cs T (0, 0)))
  {vs : List Value} (hn : ∀ e ∈ new, e.length = n) (hv : relL new.flatten I vs) (kk : Nat) (hk : kk + new.length ≤ els.length) :
  kk * n + vs.length ≤ cs.size ∧ Inv I (rBuf b T n (put els kk new) :: F) (w.setRow b (cs.toList.take (kk * n) ++ vs ++ cs.toList.drop (kk * n + vs.length)).toArray) := by
 obtain ⟨cs', h3', h5, h6⟩ := own_buf h (List.mem_cons_self ..)
 rw [h3] at h3'
 injection h3' with h3'
 injection h3' with h3'
 subst h3'
 have hl := relL_length h6
 rw [flatten_len h5] at hl
 have hvl := relL_length hv
 rw [flatten_len hn] at hvl
 have hle := Nat.mul_le_mul_right n hk
 rw [Nat.add_mul] at hle
 refine ⟨by rw [← hvl]; simp at hl; omega, ?_⟩
 refine h.write (b := b) rfl rfl rfl rfl rfl (fun c hc _ => setRow_other w b c _ hc) (setRow_heap w b cs _ T _ h3) ⟨_, rfl, fun e he => ?_, ?_⟩
 ·unfold put at he
  rcases List.mem_append.1 he with he | he
  ·rcases List.mem_append.1 he with he | he
   ·exact h5 e (List.mem_of_mem_take he)
   ·exact hn e he
  ·exact h5 e (List.mem_of_mem_drop he)
 ·unfold put
  rw [List.flatten_append, List.flatten_append, flatten_take _ h5, flatten_drop _ h5]
  refine relL_append (relL_append (relL_take _ h6) hv) ?_
  rw [← hvl, Nat.add_mul]
  exact relL_drop _ h6

section
variable {x y z lo hi mx : Operand} {t e : TypeId} {agg : Bool} {n : Nat} {b kk len cap : Nat} {kd kd' kd2 : IntKind} {i j m : Int}
theorem loc_lenOwn [ht : TySl P t e] (hx : opd g x = some (dVal (sl b n kk len cap))) : LocP P ⟨dst, .call ⟨.builtin .len, #[x], #[t]⟩, ty, pos, after, gd⟩ g N M (dInt .i64 (len : Nat)) :=
 locP_of_run fun I a w hs hi => by
  have hp : a.eval x = .slice (some ⟨b, kk * n, none⟩) len cap := opd_sound hs hx
  exact ⟨.int .i64 len, by simp [execOp, resolve, invoke, builtin, Builtin.len_, hp, run_underlying ht.eq, goInt], rfl⟩

theorem loc_indexOwn [ht : TySl P t e] [hv : TyV P e agg n] (hx : opd g x = some (dVal (sl b n kk len cap))) (hy : opd g y = some (dInt kd i)) (hi : 0 ≤ i ∧ i < len) :
  LocP P ⟨dst, .indexAddr t x y, ty, pos, after, gd⟩ g N M (dVal (ptr b ((kk + i.toNat) * n))) :=
 locP_of_run fun I a w hs hinv => by
  have hp : a.eval x = .slice (some ⟨b, kk * n, none⟩) len cap := opd_sound hs hx
  have hlo : a.eval y = .int kd i := opd_sound hs hy
  refine ⟨ptr b ((kk + i.toNat) * n), ?_, rfl⟩
  simp [execOp, Instr.indexAt, hp, hlo, asIntOf, run_underlying ht.eq, hi, run_sizeOf hv, ptr, Addr.add_lit, Nat.add_mul]
theorem put_one {els : List (List D)} {q : Nat} {ds : List D} (h : q < els.length) : put els q [ds] = els.set q ds := by
 unfold put
 rw [List.set_eq_take_append_cons_drop, if_pos h]
 simp
theorem loc_storeBuf1 [ht : TyV P t false 1] {T : TypeId} {els : List (List D)} {d : D} [ho : One d] {q : Nat} (hx : opd g x = some (dVal (ptr b (q * 1)))) (hy : opd g y = some d) (hq : q < els.length) :
  LocM P ⟨none, .store t x y, ty, pos, after, gd⟩ g N [rBuf b T 1 els] (fun _ : Unit => True) (fun _ => dTop) (fun _ => [rBuf b T 1 (els.set q [d])]) := by
 constructor
 intro F I a w K Q hs hi hK
 have hp : a.eval x = .pointer (some ⟨b, q * 1, none⟩) := opd_sound hs hx
 have hd := opd_sound hs hy
 have h1 := ho.one hd
 obtain ⟨cs, h3, h5, h6⟩ := own_buf hi (List.mem_cons_self ..)
 have hnew : ∀ e ∈ ([[d]] : List (List D)), e.length = 1 := by intro e he; rw [List.mem_singleton.1 he]; rfl
 obtain ⟨w1, w2⟩ := buf_write hi h3 (vs := [a.eval y]) hnew ⟨hd, trivial⟩ q (by simp; omega)
 have hst := run_storeCells_at P b (q * 1) T [a.eval y] 0 cs w h3 (by simpa using w1) (by simpa using h1.2)
 simp only [Nat.add_zero] at hst
 unfold Oper.wp
 have hrun : (execOp a.eval ⟨none, .store t x y, ty, pos, after, gd⟩).run P w = .ok .skip (w.setRow b (cs.toList.take (q * 1) ++ [a.eval y] ++ cs.toList.drop (q * 1 + [a.eval y].length)).toArray) := by
  simp only [execOp, hp, Instr.storeAt, Instr.sureAddr, storeVar, Sem.run_bind, Sem.run_pure, Result.andThen_ok, run_sizeOf ht, h1.1, List.size_toArray, List.length_singleton, ne_eq, not_true_eq_false, if_false, hst]
 rw [hrun]
 refine hK () undef _ I trivial I.le_refl trivial ?_
 rw [put_one hq] at w2
 exact w2
theorem loc_storeBufN [ht : TyV P t true n] {T : TypeId} {els : List (List D)} {ds : List D} [ho : OneAll ds] {q : Nat} (hx : opd g x = some (dVal (ptr b (q * n)))) (hy : opd g y = some (dAgg ds)) (hq : q < els.length) (hn : Nat.beq ds.length n = true) :
  LocM P ⟨none, .store t x y, ty, pos, after, gd⟩ g N [rBuf b T n els] (fun _ : Unit => True) (fun _ => dTop) (fun _ => [rBuf b T n (els.set q ds)]) := by
 constructor
 intro F I a w K Q hs hi hK
 have hp : a.eval x = .pointer (some ⟨b, q * n, none⟩) := opd_sound hs hx
 obtain ⟨us, hyv, hd⟩ := opd_sound hs hy
 obtain ⟨cs, h3, h5, h6⟩ := own_buf hi (List.mem_cons_self ..)
 have hdn := Nat.eq_of_beq_eq_true hn
 have hnew : ∀ e ∈ ([ds] : List (List D)), e.length = n := by intro e he; rw [List.mem_singleton.1 he]; exact hdn
 obtain ⟨w1, w2⟩ := buf_write hi h3 (vs := us.toList) hnew (by simpa using hd) q (by simp; omega)
 have hst := run_storeCells_at P b (q * n) T us.toList 0 cs w h3 (by simpa using w1) (ho.all hd)
 simp only [Nat.add_zero] at hst
 have hsz : us.size = n := by have := relL_length hd; simp at this; omega
 have hcc : (Value.agg us).cells = us := rfl
 unfold Oper.wp
 have hrun : (execOp a.eval ⟨none, .store t x y, ty, pos, after, gd⟩).run P w = .ok .skip (w.setRow b (cs.toList.take (q * n) ++ us.toList ++ cs.toList.drop (q * n + us.toList.length)).toArray) := by
  simp only [execOp, hp, hyv, Instr.storeAt, Instr.sureAddr, storeVar, Sem.run_bind, Sem.run_pure, Result.andThen_ok, run_sizeOf ht, hcc, hsz, ne_eq, not_true_eq_false, if_false, hst]
 rw [hrun]
 refine hK () undef _ I trivial I.le_refl trivial ?_
 rw [put_one hq] at w2
 exact w2
end

section
variable {x y : Operand} {t t' e : TypeId} {agg : Bool} {n : Nat} {b b' kk kk' len len' cap cap' : Nat} {T : TypeId} {els els' : List (List D)}
end

section
variable {x y : Operand} {t t' e : TypeId} {agg : Bool} {n : Nat} {b kk len cap : Nat} {T : TypeId} {els : List (List D)}
class TyOver (P : Program) (f : FuncId) (t : outParam TypeId) : Prop where
  is : ∃ fn tR, P.funcs[f]? = some fn ∧ (fn.name == "runtime.NumGoroutine") = false ∧ fn.body.isNone = true ∧ Extern.findNext fn = none ∧ Extern.find fn = some (Extern.SlicesOverlaps.overlaps #[t, t] #[tR])
end
end Go.Q

namespace Go.Q
variable {P : Program} {f : FuncId} {N : Nat} {I0 : Imm} {R : Goal} {g : G} {M : List Res} {k : List Item}
variable {dst : Option Tmp} {ty : TypeId} {pos : String} {after : Array Edge} {gd : Option (Nat × Bool)}
theorem sl_zero (b n len cap : Nat) : Value.slice (some ⟨b, 0, none⟩) len cap = sl b n 0 len cap := by simp [sl]
theorem run_openRow {α : Type} {v : Value} {T n : Nat} {f' : α → List D} {xs : List α} {C : Res → List Res} {F : List Res} (hm : Sel (rRow v T n f' xs) M C F) (hx : xs ≠ [])
  (h : ∀ b cap, v = sl b n 0 xs.length cap → xs.length ≤ cap → cap ≤ maxLen → xs.length ≤ lenMax → (∀ x ∈ xs, (f' x).length = n) → Run P f N I0 R g (C (rBuf b T n (xs.map f' ++ junk n (cap - xs.length)))) k) : Run P f N I0 R g M k := by
 constructor
 intro I a w b cs hb hk hl hs hi
 have hi' := hi.perm hm.perm.1
 rcases row_cases hi' with ⟨_, h2⟩ | ⟨b', cap, cs', h2, _⟩
 ·exact absurd h2 hx
 ·subst h2
  obtain ⟨_, h4, h5, h6, h7, h8⟩ := row_open hi'
  exact (h b' cap (sl_zero ..) h4 h5 h6 h7).go I a w b cs hb hk hl hs (h8.perm (hm.perm.2 _))
theorem inv_shut {α : Type} {b len cap : Nat} {T n : Nat} {f' : α → List D} {xs : List α} {els els' : List (List D)} {I : Imm} {F : List Res} {w : World} (h : Inv I (rBuf b T n els :: F) w) (he : els = xs.map f' ++ els')
  (hl : len = xs.length) (hc : xs.length + els'.length = cap) (hm : cap ≤ maxLen) (hx : xs.length ≤ lenMax) : Inv I (rRow (sl b n 0 len cap) T n f' xs :: F) w := by
 subst he
 rw [← sl_zero]
 exact row_shut h hl hc hm hx
section
variable {x y z lo hi mx : Operand} {t e : TypeId} {agg : Bool} {n : Nat} {b kk len cap : Nat} {kd kd' kd2 : IntKind} {i j m : Int}
end

theorem junk_length (n m : Nat) : (junk n m).length = m := by simp [junk]
theorem run_shutRow {α : Type} {b len cap T n : Nat} {f' : α → List D} {xs : List α} {els els' : List (List D)} {C : Res → List Res} {F : List Res} (hm : Sel (rBuf b T n els) M C F) (he : els = xs.map f' ++ els')
  (hl : len = xs.length) (hc : xs.length + els'.length = cap) (hcm : cap ≤ maxLen) (hx : xs.length ≤ lenMax) (h : Run P f N I0 R g (C (rRow (sl b n 0 len cap) T n f' xs)) k) : Run P f N I0 R g M k :=
 run_weaken (fun _ _ _ hs hi => ⟨hs, (inv_shut (hi.perm hm.perm.1) he hl hc hcm hx).perm (hm.perm.2 _)⟩) h

section
variable {R : Goal} {ops : Array Oper} {rest : List Oper} {op : Op} {r : Res} {C : Res → List Res} {F : List Res} {dst : Tmp}
theorem run_updS0 {σ : Type} {φ : σ → Prop} {d : σ → D} {r' : σ → Res} (hs : Sel r M C F)
  (hd : LocM P ⟨none, op, ty, pos, after, none⟩ g N [r] φ d (fun s => [r' s])) (h : ∀ s, φ s → RunL P f N I0 R g (C (r' s)) ops rest k) :
  RunL P f N I0 R g M ops (⟨none, op, ty, pos, after, none⟩ :: rest) k := run_upd0 hd hs h
theorem runL_fact {l : List Oper} {s : Nat} {d : D} {p : Prop} (hs : look g s = some d) (hp : ∀ I v, d.rel I v → p) (h : p → RunL P f N I0 R g M ops l k) : RunL P f N I0 R g M ops l k := by
 constructor
 intro I a w b cs hb hk hl hsl hi
 exact (h (hp _ _ (hsl.slot s d hs))).go I a w b cs hb hk hl hsl hi
end
end Go.Q

namespace Go.Q
structure Pn where
 session : Int
 version : Int
deriving Inhabited
structure Pins where
 rows : List Pn
 kept : List Int
deriving Inhabited
structure Strt where
 read : Int
 version : Int
 p : Int
 from' : Int
 draws : Int
deriving Inhabited
structure Disk where
 seed : Int
 drawn : Int
 begun : List Strt
deriving Inhabited
structure Tape where
 numbers : List Int
 at' : Int
deriving Inhabited
structure Schm where
 kind : Int
 servers : Int
 degree : Int
 group : Int
deriving Inhabited
abbrev cPn (x : Pn) : List D := [dInt .i64 x.session, dInt .i64 x.version]
abbrev cStrt (x : Strt) : List D := [dInt .i64 x.read, dInt .i64 x.version, dInt .i64 x.p, dInt .i64 x.from', dInt .i64 x.draws]
abbrev cTape (x : Tape) : List D := [dInts x.numbers, dInt .i64 x.at']
abbrev cSchm (x : Schm) : List D := [dInt .i64 x.kind, dInt .i64 x.servers, dInt .i64 x.degree, dInt .i64 x.group]
abbrev dTape (x : Tape) : D := dAgg (cTape x)
abbrev dSchm (x : Schm) : D := dAgg (cSchm x)
example (x : Pn) : OneAll (cPn x) := inferInstance
example (x : Strt) : OneAll (cStrt x) := inferInstance
end Go.Q

namespace Go.Q
variable {P : Program} {f : FuncId} {N : Nat} {I0 : Imm} {R : Goal} {g : G} {M : List Res} {k : List Item}
inductive Restr (g : G) : List Nat → G → Prop where
 | nil : Restr g [] []
 | cons {s : Nat} {d : D} {ks : List Nat} {g0 : G} : look g s = some d → Restr g ks g0 → Restr g (s :: ks) ((s, d) :: g0)
@[reducible] def app : G → G → G
 | [], h => h
 | x :: e, h => x :: app e h
theorem Restr.keep {g g0 : G} {ks : List Nat} (h : Restr g ks g0) : Keep g g0 := by
 induction h with
 | nil => exact .nil
 | cons h1 _ ih => exact .cons h1 (fun _ _ x => x) ih
theorem Keep.app {g e g0 : G} (h1 : Keep g e) (h2 : Keep g g0) : Keep g (app e g0) := by
 induction h1 with
 | nil => exact h2
 | cons a b _ ih => exact .cons a b ih
theorem run_loopE {c : Code} {σ : Type} {ks : List Nat} {g0 : G} (hr : Restr g ks g0) (E : σ → G) (Mo : σ → List Res) (φ : σ → Prop) (μ : σ → Nat) (s0 : σ) (h0 : φ s0) (hg : Keep g (E s0)) (hM : M = Mo s0)
  (round : ∀ s, φ s → (∀ s', φ s' → μ s' < μ s → Run P f N I0 R (app (E s') g0) (Mo s') (.inLoop c :: k)) → Run P f N I0 R (app (E s) g0) (Mo s) (.code c :: .inLoop c :: k)) :
  Run P f N I0 R g M (.code (.loop c) :: k) :=
 run_loop' (fun s => app (E s) g0) Mo φ μ s0 h0 (hg.app hr.keep) hM round
theorem run_loopC {c : Code} {σ : Type} {ks : List Nat} {g0 : G} (hr : Restr g ks g0) (E : σ → G) (φ : σ → Prop) (μ : σ → Nat) (s0 : σ) (h0 : φ s0) (hg : Keep g (E s0))
  (round : ∀ s, φ s → (∀ s', φ s' → μ s' < μ s → Run P f N I0 R (app (E s') g0) M (.inLoop c :: k)) → Run P f N I0 R (app (E s) g0) M (.code c :: .inLoop c :: k)) :
  Run P f N I0 R g M (.code (.loop c) :: k) :=
 run_loop' (fun s => app (E s) g0) (fun _ => M) φ μ s0 h0 (hg.app hr.keep) rfl round
theorem run_againE {c : Code} {σ : Type} {E : σ → G} {g0 : G} {Mo : σ → List Res} {φ : σ → Prop} {μ : σ → Nat} {m : Nat}
  (ih : ∀ s', φ s' → μ s' < m → Run P f N I0 R (app (E s') g0) (Mo s') (.inLoop c :: k)) (s' : σ) (hφ : φ s') (hμ : μ s' < m) (hg : Keep g (E s')) (h0 : Keep g g0) (hM : M = Mo s') : Run P f N I0 R g M (.inLoop c :: k) :=
 run_keep (hg.app h0) (hM ▸ ih s' hφ hμ)
theorem run_againC {c : Code} {σ : Type} {E : σ → G} {g0 : G} {φ : σ → Prop} {μ : σ → Nat} {m : Nat}
  (ih : ∀ s', φ s' → μ s' < m → Run P f N I0 R (app (E s') g0) M (.inLoop c :: k)) (s' : σ) (hφ : φ s') (hμ : μ s' < m) (hg : Keep g (E s')) (h0 : Keep g g0) : Run P f N I0 R g M (.inLoop c :: k) :=
 run_keep (hg.app h0) (ih s' hφ hμ)
theorem run_joinC {c : Code} {σ : Type} {ks : List Nat} {g0 : G} (hr : Restr g ks g0) (E : σ → G) (φ : σ → Prop)
  (h2 : (∀ s, φ s → Run P f N I0 R (app (E s) g0) M k) → Run P f N I0 R g M (.code c :: k)) (h1 : ∀ s, φ s → Run P f N I0 R (app (E s) g0) M k) : Run P f N I0 R g M (.code c :: k) := h2 h1
theorem run_atC {σ : Type} {E : σ → G} {g0 : G} {φ : σ → Prop} (j : ∀ s, φ s → Run P f N I0 R (app (E s) g0) M k) (s : σ) (hφ : φ s) (hg : Keep g (E s)) (h0 : Keep g g0) : Run P f N I0 R g M k :=
 run_keep (hg.app h0) (j s hφ)
@[reducible] def appR : List Res → List Res → List Res
 | [], F => F
 | r :: A, F => r :: appR A F
theorem run_front {r : Res} {C : Res → List Res} {F : List Res} (hm : Sel r M C F) (h : Run P f N I0 R g (r :: F) k) : Run P f N I0 R g M k :=
 run_weaken (fun _ _ _ hs hi => ⟨hs, hi.perm hm.perm.1⟩) h
theorem run_loopF {c : Code} {σ : Type} {ks : List Nat} {g0 : G} {F : List Res} (hr : Restr g ks g0) (E : σ → G) (A : σ → List Res) (φ : σ → Prop) (μ : σ → Nat) (s0 : σ) (h0 : φ s0) (hg : Keep g (E s0)) (hM : M = appR (A s0) F)
  (round : ∀ s, φ s → (∀ s', φ s' → μ s' < μ s → Run P f N I0 R (app (E s') g0) (appR (A s') F) (.inLoop c :: k)) → Run P f N I0 R (app (E s) g0) (appR (A s) F) (.code c :: .inLoop c :: k)) :
  Run P f N I0 R g M (.code (.loop c) :: k) :=
 run_loop' (fun s => app (E s) g0) (fun s => appR (A s) F) φ μ s0 h0 (hg.app hr.keep) hM round
theorem run_againF {c : Code} {σ : Type} {E : σ → G} {g0 : G} {A : σ → List Res} {F : List Res} {φ : σ → Prop} {μ : σ → Nat} {m : Nat}
  (ih : ∀ s', φ s' → μ s' < m → Run P f N I0 R (app (E s') g0) (appR (A s') F) (.inLoop c :: k)) (s' : σ) (hφ : φ s') (hμ : μ s' < m) (hg : Keep g (E s')) (h0 : Keep g g0) (hM : M = appR (A s') F) : Run P f N I0 R g M (.inLoop c :: k) :=
 run_keep (hg.app h0) (hM ▸ ih s' hφ hμ)
theorem run_joinF {c : Code} {σ : Type} {ks : List Nat} {g0 : G} (F : List Res) (hr : Restr g ks g0) (E : σ → G) (A : σ → List Res) (φ : σ → Prop)
  (hF : ∃ A0, M = appR A0 F) (h2 : (∀ s, φ s → Run P f N I0 R (app (E s) g0) (appR (A s) F) k) → Run P f N I0 R g M (.code c :: k)) (h1 : ∀ s, φ s → Run P f N I0 R (app (E s) g0) (appR (A s) F) k) : Run P f N I0 R g M (.code c :: k) := h2 h1
theorem run_atF {σ : Type} {E : σ → G} {g0 : G} {A : σ → List Res} {F : List Res} {φ : σ → Prop} (j : ∀ s, φ s → Run P f N I0 R (app (E s) g0) (appR (A s) F) k) (s : σ) (hφ : φ s) (hM : M = appR (A s) F) (hg : Keep g (E s)) (h0 : Keep g g0) : Run P f N I0 R g M k :=
 run_keep (hg.app h0) (hM ▸ j s hφ)
inductive Ups : List D → List D → Prop where
 | nil : Ups [] []
 | cons {d e : D} {ds es : List D} : (∀ I v, d.rel I v → e.rel I v) → Ups ds es → Ups (d :: ds) (e :: es)
theorem Ups.rel {ds es : List D} (h : Ups ds es) : ∀ {I : Imm} {vs : List Value}, relL ds I vs → relL es I vs := by
 induction h with
 | nil => intro I vs h; exact h
 | cons h1 _ ih =>
  intro I vs h
  cases vs with
  | nil => cases h
  | cons v vs => exact ⟨h1 _ _ h.1, ih h.2⟩
theorem d_aggU {ds es : List D} (h : Ups ds es) : ∀ I v, (dAgg ds).rel I v → (dAgg es).rel I v := fun _ _ ⟨cs, e, r⟩ => ⟨cs, e, h.rel r⟩
end Go.Q

namespace Go.Q
open Classical
noncomputable def idxP {α : Type} (q : α → Prop) : List α → Int
 | [] => -1
 | x :: xs => if q x then 0 else (if idxP q xs < 0 then -1 else idxP q xs + 1)
theorem idxP_none {α : Type} {q : α → Prop} : ∀ {xs : List α}, (∀ x ∈ xs, ¬ q x) → idxP q xs = -1
 | [], _ => rfl
 | x :: xs, h => by
  have h1 := h x (List.mem_cons_self ..)
  have h2 := idxP_none (xs := xs) fun y hy => h y (List.mem_cons_of_mem _ hy)
  simp [idxP, h1, h2]
theorem idxP_at {α : Type} [Inhabited α] {q : α → Prop} : ∀ {xs : List α} {i : Nat}, i < xs.length → (∀ j, j < i → ¬ q (xs[j]?.getD default)) → q (xs[i]?.getD default) → idxP q xs = i
 | x :: xs, 0, _, _, h => by
  have : q x := by simpa using h
  simp [idxP, this]
 | x :: xs, i + 1, hi, hb, h => by
  have h1 : ¬ q x := by simpa using hb 0 (by omega)
  have h2 := idxP_at (xs := xs) (i := i) (by simpa using hi) (fun j hj => by simpa using hb (j + 1) (by omega)) (by simpa using h)
  simp only [idxP, if_neg h1, h2]
  rw [if_neg (by omega)]
  omega
theorem idxP_nonneg {α : Type} {q : α → Prop} : ∀ {xs : List α}, 0 ≤ idxP q xs ↔ ∃ x ∈ xs, q x
 | [] => by simp [idxP]
 | x :: xs => by
  have ih := idxP_nonneg (q := q) (xs := xs)
  by_cases h : q x
  ·simp [idxP, h]
  ·by_cases h2 : idxP q xs < 0
   ·have : ¬ ∃ x ∈ xs, q x := fun e => by have := ih.2 e; omega
    simp only [idxP, if_neg h, if_pos h2]
    simp only [List.mem_cons, exists_eq_or_imp, h, false_or]
    exact ⟨fun h => by omega, fun h => absurd h this⟩
   ·have : ∃ x ∈ xs, q x := ih.1 (by omega)
    simp only [idxP, if_neg h, if_neg h2]
    simp only [List.mem_cons, exists_eq_or_imp, h, false_or]
    exact ⟨fun _ => this, fun _ => by omega⟩
noncomputable def bsGo (lt : Nat → Prop) (i j : Nat) : Nat :=
 if i < j then (if lt ((i + j) / 2) then bsGo lt ((i + j) / 2 + 1) j else bsGo lt i ((i + j) / 2)) else i
termination_by j - i
theorem bsGo_le (lt : Nat → Prop) (i j : Nat) (h : i ≤ j) : i ≤ bsGo lt i j ∧ bsGo lt i j ≤ j := by
 fun_induction bsGo lt i j <;> omega
theorem bsGo_at {lt : Nat → Prop} {i j k : Nat} (hij : i ≤ j) (hi : i ≤ k) (hj : k ≤ j) (h1 : ∀ a, a < k → lt a) (h2 : ∀ a, k ≤ a → a < j → ¬ lt a) : bsGo lt i j = k := by
 fun_induction bsGo lt i j with
 | case1 i j h hl ih =>
  refine ih (by omega) ?_ hj h2
  by_cases c : k ≤ (i + j) / 2
  ·exact absurd hl (h2 _ c (by omega))
  ·omega
 | case2 i j h hl ih =>
  refine ih (by omega) hi ?_ (fun a ha hb => h2 a ha (by omega))
  by_cases c : (i + j) / 2 < k
  ·exact absurd (h1 _ c) hl
  ·omega
 | case3 i j h => omega
noncomputable def lead {α : Type} (q : α → Prop) : List α → Nat
 | [] => 0
 | x :: xs => if q x then lead q xs + 1 else 0
theorem lead_le {α : Type} (q : α → Prop) : ∀ xs : List α, lead q xs ≤ xs.length
 | [] => Nat.le_refl _
 | x :: xs => by have := lead_le q xs; simp only [lead]; split <;> simp <;> omega
theorem lead_lt {α : Type} [Inhabited α] {q : α → Prop} : ∀ {xs : List α} (j : Nat), j < lead q xs → q (xs[j]?.getD default)
 | [], j, h => by simp [lead] at h
 | x :: xs, j, h => by
  simp only [lead] at h
  split at h
  ·rename_i hq
   cases j with
   | zero => simpa using hq
   | succ j => simpa using lead_lt (xs := xs) j (by omega)
  ·omega
theorem lead_end {α : Type} [Inhabited α] {q : α → Prop} : ∀ {xs : List α}, lead q xs < xs.length → ¬ q (xs[lead q xs]?.getD default)
 | [], h => by simp [lead] at h
 | x :: xs, h => by
  simp only [lead] at h ⊢
  split
  ·rename_i hq
   rw [if_pos hq] at h
   simpa using lead_end (xs := xs) (by simpa using h)
  ·rename_i hq; simpa using hq
theorem take_snoc {α : Type} [Inhabited α] {xs : List α} {k : Nat} (h : k < xs.length) : xs.take (k + 1) = xs.take k ++ [xs[k]?.getD default] := by
 rw [List.take_add_one, List.getElem?_eq_getElem h]
 simp
theorem forall_getD {α : Type} [Inhabited α] {p : α → Prop} {xs : List α} (h : ∀ j, j < xs.length → p (xs[j]?.getD default)) : ∀ x ∈ xs, p x := by
 intro x hx
 obtain ⟨i, hi⟩ := List.getElem?_of_mem hx
 have h1 := (List.getElem?_eq_some_iff.1 hi).1
 have h2 := h i h1
 rw [hi] at h2
 exact h2
def cmpI (x y : Int) : Int := if x < y then -1 else if y < x then 1 else 0
theorem list_extD {α : Type} [Inhabited α] {xs ys : List α} (h : xs.length = ys.length) (he : ∀ j, j < xs.length → xs[j]?.getD default = ys[j]?.getD default) : xs = ys := by
 apply List.ext_getElem h
 intro i h1 h2
 have := he i h1
 simpa [h1, h2] using this
end Go.Q

namespace Go.Q
variable {P : Program} {g : G} {N : Nat} {M : List Res} {dst : Option Tmp} {ty : TypeId} {pos : String} {after : Array Edge} {gd : Option (Nat × Bool)} {t t' : TypeId} {x y : Operand} {k kd : IntKind} {m n : Int}
theorem u64_in {m : Int} (h : 0 ≤ m ∧ m < 18446744073709551616) : IntKind.u64.wrap m = m := by rw [IntKind.wrap_u64]; omega
theorem loc_convU {s : TypeId} {k0 : IntKind} [h1 : TyInt P s k0] [h2 : TyInt P t .u64] (hx : opd g x = some (dInt kd m)) (h : 0 ≤ m ∧ m < 18446744073709551616) : LocP P ⟨dst, .convert s t x, ty, pos, after, gd⟩ g N M (dInt .u64 m) :=
 (loc_convW hx).conv (by rw [u64_in h])
theorem loc_addU (hx : opd g x = some (dInt .u64 m)) (hy : opd g y = some (dInt .u64 n)) (h : 0 ≤ m + n ∧ m + n < 18446744073709551616) : LocP P ⟨dst, .binOp .add t x y t', ty, pos, after, gd⟩ g N M (dInt .u64 (m + n)) :=
 (loc_addW hx hy).conv (by rw [u64_in h])
theorem loc_subU (hx : opd g x = some (dInt .u64 m)) (hy : opd g y = some (dInt .u64 n)) (h : 0 ≤ m - n ∧ m - n < 18446744073709551616) : LocP P ⟨dst, .binOp .sub t x y t', ty, pos, after, gd⟩ g N M (dInt .u64 (m - n)) :=
 (loc_subW hx hy).conv (by rw [u64_in h])
theorem loc_mulU (hx : opd g x = some (dInt .u64 m)) (hy : opd g y = some (dInt .u64 n)) (h : 0 ≤ m * n ∧ m * n < 18446744073709551616) : LocP P ⟨dst, .binOp .mul t x y t', ty, pos, after, gd⟩ g N M (dInt .u64 (m * n)) :=
 (loc_mulW hx hy).conv (by rw [u64_in h])
theorem loc_shr {c : Nat} (hx : opd g x = some (dInt k m)) (hy : opd g y = some (dInt kd (c : Nat))) (hc : (Nat.blt c 64 && Nat.blt c k.bits) = true) : LocP P ⟨dst, .binOp .shr t x y t', ty, pos, after, gd⟩ g N M (dInt k (m.fdiv (2 ^ c))) :=
 locP_of_run fun I a w hs _ => by
  have h1 : a.eval x = .int k m := opd_sound hs hx
  have h2 : a.eval y = .int kd c := opd_sound hs hy
  have e : eqGuard .shr t x y (.int k m) (.int kd c) = pure () := by unfold eqGuard; rfl
  simp only [Bool.and_eq_true, Nat.blt_eq] at hc
  have hn : ¬ ((c : Int) < 0) := by omega
  refine ⟨.int k (m.fdiv (2 ^ c)), ?_, rfl⟩
  have h3 : Int.toNat (c : Int) = c := by omega
  have h4 : (binOp .shr t (.int k m) (.int kd c)).run P w = .ok (.int k (m.fdiv (2 ^ c))) w := by
   simp only [binOp, Op.shift]
   rw [if_neg hn]
   simp [Nat.min_eq_left (Nat.le_of_lt hc.2)]
  simp [execOp, h1, h2, e, h4]
theorem loc_shrN {c : Nat} {q : Int} (hx : opd g x = some (dInt k m)) (hy : opd g y = some (dInt kd (c : Nat))) (hc : (Nat.blt c 64 && Nat.blt c k.bits) = true) (hq : (2 : Int) ^ c = q) (h : 0 ≤ m) (hq0 : 0 ≤ q) : LocP P ⟨dst, .binOp .shr t x y t', ty, pos, after, gd⟩ g N M (dInt k (m / q)) :=
 (loc_shr hx hy hc).conv (by rw [hq, Int.fdiv_eq_ediv_of_nonneg _ hq0])
end Go.Q

namespace Go.Q
open Classical
variable {P : Program} {f : FuncId} {N : Nat} {I0 : Imm} {g : G} {M : List Res} {k : List Item} {R : Goal}
variable {dst : Option Tmp} {ty : TypeId} {pos : String} {after : Array Edge} {gd : Option (Nat × Bool)}
def reps {α : Type} : Nat → List α → List α
 | 0, _ => []
 | c + 1, xs => xs ++ reps c xs
theorem reps_len {α : Type} (xs : List α) : ∀ c, (reps c xs).length = c * xs.length
 | 0 => by simp [reps]
 | c + 1 => by rw [reps, List.length_append, reps_len xs c, Nat.add_mul]; omega
theorem reps_snoc {α : Type} (xs : List α) : ∀ c, reps (c + 1) xs = reps c xs ++ xs
 | 0 => by simp [reps]
 | c + 1 => by
  show xs ++ reps (c + 1) xs = (xs ++ reps c xs) ++ xs
  rw [reps_snoc xs c, List.append_assoc]
structure RepI {α : Type} (c : Nat) (xs : List α) (T : Nat) (s : Nat × List α) : Prop where
 len : s.2.length = T
 le : s.1 ≤ T
 eq : s.2.take s.1 = (reps c xs).take s.1
 mul : s.1 < T → 0 < s.1 ∧ ∃ a, s.1 = a * xs.length ∧ a ≤ c

theorem LocP.up {o : Oper} {d d' : D} (h : LocP P o g N M d) (hd : ∀ I v, d.rel I v → d'.rel I v) : LocP P o g N M d' :=
 ⟨fun I a w K Q hs hi hK => h.go I a w K Q hs hi fun v w' J h1 h2 h3 => hK v w' J h1 (hd _ _ h2) h3⟩
theorem LocP.upV {o : Oper} {v : Value} (h : LocP P o g N M (dSlV v)) : LocP P o g N M (dVal v) := h.up fun _ _ h => h.1
theorem run_freezeRowCellV {b kk : Nat} {T' : TypeId} {ds : List D} {C C' : Res → List Res} {F F' : List Res} {α : Type} {T n : Nat} {f' : α → List D} {xs : List α} {v : Value} (hm : Sel (rRow v T n f' xs) M C F) (hc : Sel (rCells b T' ds) F C' F') (hk : ds[kk]? = some (dSlV v))
  (h : Run P f N I0 R g (C' (rCells b T' (ds.set kk (dSl n f' xs)))) k) : Run P f N I0 R g M k :=
 run_freezeUp (dSlV v) (dSl n f' xs) hm hc hk (fun J u h1 h2 => by rw [show u = v from h1.1]; exact h2) h

theorem LocM.frz {o : Oper} {Min : List Res} {T n : Nat} {α : Type} {f' : α → List D} {xs : List α} (h : LocM P o g N Min (fun _ : Value => True) (fun v => dVal v) (fun v => [rRow v T n f' xs])) {r : Res} (hr : Min = [r]) :
  LocM P o g N [r] (fun _ : Unit => True) (fun _ => dSl n f' xs) (fun _ => [rNone]) := by
 subst hr
 constructor
 intro F I a w K Q hs hi hK
 refine h.go F I a w K Q hs hi fun v u w' J _ h1 h2 h3 => ?_
 obtain ⟨J', h4, h5, h6⟩ := row_freeze h3
 refine hK () u w' J' trivial (h1.trans h4) ?_ (none_ok h6)
 rw [show u = v from h2]
 exact h5
theorem LocM.frz0 {o : Oper} {T n : Nat} {α : Type} {f' : α → List D} {xs : List α} (h : LocM P o g N [] (fun _ : Value => True) (fun v => dVal v) (fun v => [rRow v T n f' xs])) : LocP P o g N M (dSl n f' xs) := by
 constructor
 intro I a w K Q hs hi hK
 refine h.go M I a w K Q hs hi fun v u w' J _ h1 h2 h3 => ?_
 obtain ⟨J', h4, h5, h6⟩ := row_freeze h3
 refine hK u w' J' (h1.trans h4) ?_ h6
 rw [show u = v from h2]
 exact h5
end Go.Q

namespace Go.Q
structure Ans where
 known : Prop
 row : List Int
deriving Inhabited
structure Nte where
 kind : Int
 read : Int
 probe : Int
 server : Int
 version : Int
 query : List Int
 values : List Int
 mark : Int
deriving Inhabited
structure Held where
 head : Hd
 rows : List (List Int)
deriving Inhabited
structure Job where
 read : Int
 probe : Int
 version : Int
 query : List Int
 got : List Int
deriving Inhabited
structure Srv where
 id : Int
 scheme : Schm
 up : Prop
 versions : List Held
 jobs : List Job
structure Psn where
 id : Int
 secret : Int
deriving Inhabited
abbrev cAns (a : Ans) : List D := [dB a.known, dInts a.row]
abbrev cNte (n : Nte) : List D := [dInt .i64 n.kind, dInt .i64 n.read, dInt .i64 n.probe, dInt .i64 n.server, dInt .i64 n.version, dInts n.query, dInts n.values, dInt .i64 n.mark]
abbrev cHeld (h : Held) : List D := [dInt .i64 h.head.number, dInt .i64 h.head.p, dInt .i64 h.head.count, dInt .i64 h.head.width, dInt .i64 h.head.root, dRows h.rows]
abbrev cJob (j : Job) : List D := [dInt .i64 j.read, dInt .i64 j.probe, dInt .i64 j.version, dInts j.query, dInts j.got]
abbrev cSrv (v : Srv) : List D := [dInt .i64 v.id, dInt .i64 v.scheme.kind, dInt .i64 v.scheme.servers, dInt .i64 v.scheme.degree, dInt .i64 v.scheme.group, dB v.up, dSl 6 cHeld v.versions, dSl 5 cJob v.jobs]
abbrev cPsn (p : Psn) : List D := [dInt .i64 p.id, dInt .i64 p.secret]
abbrev dJob (x : Job) : D := dAgg (cJob x)
abbrev dSrv (x : Srv) : D := dAgg (cSrv x)
abbrev dNte (x : Nte) : D := dAgg (cNte x)
abbrev dPsn (x : Psn) : D := dAgg (cPsn x)
end Go.Q

namespace Go.Q
variable {P : Program} {N : Nat} {g : G} {M : List Res}
variable {dst : Option Tmp} {ty : TypeId} {pos : String} {after : Array Edge} {gd : Option (Nat × Bool)}
theorem LocM.rowV {o : Oper} {Min : List Res} {T n : Nat} {α : Type} {φ : Value → Prop} {f' : α → List D} {ys : List α} (h : LocM P o g N Min φ (fun v => dVal v) (fun v => [rRow v T n f' ys])) :
  LocM P o g N Min φ (fun v => dSlV v) (fun v => [rRow v T n f' ys]) := by
 constructor
 intro F I a w K Q hs hi hK
 refine h.go F I a w K Q hs hi fun v u w' J h0 h1 h2 h3 => hK v u w' J h0 h1 ⟨h2, ?_⟩ h3
 rw [show u = v from h2]
 exact row_slice h3
theorem cyc_list {zs : List Value} {n : Nat} (hn : zs.length = n) (h0 : 0 < n) : ∀ m, (List.range (m * n)).map (fun i => zs.toArray[i % n]!) = (List.replicate m zs).flatten
 | 0 => by simp
 | m + 1 => by
  rw [Nat.add_mul, Nat.one_mul, List.range_add, List.map_append, cyc_list hn h0 m, List.replicate_succ', List.flatten_append]
  congr 1
  simp only [List.map_map, List.flatten_cons, List.flatten_nil, List.append_nil]
  apply List.ext_getElem
  ·simp [hn]
  ·intro i h1 h2
   simp only [List.getElem_map, List.getElem_range, Function.comp]
   rw [show (m * n + i) % n = i by rw [Nat.mul_comm, Nat.mul_add_mod]; exact Nat.mod_eq_of_lt (by omega)]
   simp [h2]
theorem relL_rep {I : Imm} {ds : List D} {vs : List Value} (h : relL ds I vs) : ∀ m, relL (List.replicate m ds).flatten I (List.replicate m vs).flatten
 | 0 => trivial
 | m + 1 => by
  rw [List.replicate_succ, List.replicate_succ, List.flatten_cons, List.flatten_cons]
  exact relL_append h (relL_rep h m)
theorem loc_makeSliceN {t e n : Nat} {ag : Bool} [ht : TySl P t e] {bytes : Nat} {z : Value} [hz : TyZ P e bytes z] [hv : TyV P e ag n] {x y : Operand} {m : Nat} (hx : opd g x = some (dInt .i64 (m : Nat))) (hy : opd g y = some (dInt .i64 (m : Nat))) (hm : 0 < m ∧ m ≤ 17592186044416) (hb : (m : Int) * bytes ≤ 281474976710656)
  (hl : Nat.beq (zeroDs z).length n = true) (h0 : 0 < n) (hzt : ∀ vs, z ≠ .tuple vs) :
  LocM P ⟨dst, .makeSlice t x y, ty, pos, after, gd⟩ g N [] (fun _ : Nat => True) (fun b => dVal (sl b n 0 m m)) (fun b => [rBuf b e n (List.replicate m (zeroDs z))]) := by
 constructor
 intro F I a w K Q hs hi hK
 have hxv : a.eval x = .int .i64 m := opd_sound hs hx
 have hyv : a.eval y = .int .i64 m := opd_sound hs hy
 obtain ⟨i, hin, hiz, his, hib⟩ := info_of_z hz hv
 have hzr := zeroDs_rel I z hzt
 have hln := Nat.eq_of_beq_eq_true hl
 have hzl : z.cells.toList.length = n := by rw [← relL_length hzr, hln]
 have hw : IntKind.i64.wrap (m : Int) = m := IntWalk.i64_in _ (by omega)
 have hmn : m * n ≠ 0 := by have := Nat.mul_pos hm.1 h0; omega
 let ar : Array Value := (Array.range (m * n)).map ((if m * n = 0 then #[] else z.cells)[· % (if m * n = 0 then #[] else z.cells).size]!)
 have har : ar.toList = (List.replicate m z.cells.toList).flatten := by
  rw [← cyc_list hzl h0 m]
  have hsz : z.cells.size = n := by simpa using hzl
  simp only [ar, if_neg hmn, hsz, Array.toList_map, Array.toList_range, Array.toArray_toList]
 have hrun : (execOp a.eval ⟨dst, .makeSlice t x y, ty, pos, after, gd⟩).run P w = .ok (.value (.slice (some ⟨w.heap.size, 0, none⟩) m m)) (w.alloc (.cells ar e)) := by
  have hb' : ¬ (281474976710656 < (bytes : Int) * m) := by rw [Int.mul_comm]; omega
  have hm0 : ¬ ((m : Int) < 0) := by omega
  have hask : ∀ n, (askRoom n).run P w = .ok () w := by intro n; unfold askRoom; split <;> rfl
  have hml : ¬ (m = 0) := by omega
  simp [execOp, Instr.makeSlice, hxv, hyv, asInt, asIntOf, run_underlying ht.eq, typeInfo, zeroValue, hin, hiz, hib, hw, hb', hm0, hask, run_sizeOf hv, hmn, hml, newRow, ar]
 unfold Oper.wp
 rw [hrun]
 refine hK w.heap.size _ _ I trivial I.le_refl (by show _ = sl _ _ _ _ _; unfold sl; rw [Nat.zero_mul]) (hi.allocOwn _ _ rfl ⟨ar, rfl, fun q hq => by rw [List.eq_of_mem_replicate hq]; exact hln, ?_⟩)
 rw [har]
 exact relL_rep hzr m
theorem relL_repUp {ds ds' : List D} (h : ∀ J vs, relL ds J vs → relL ds' J vs) (hl : ds.length = ds'.length) : ∀ (m : Nat) (J : Imm) (vs : List Value), relL (List.replicate m ds).flatten J vs → relL (List.replicate m ds').flatten J vs
 | 0, _, _, hv => hv
 | m + 1, J, vs, hv => by
  rw [List.replicate_succ, List.flatten_cons] at hv ⊢
  have hlen := relL_length hv
  rw [List.length_append] at hlen
  have h1 := relL_take ds.length hv
  have h2 := relL_drop ds.length hv
  rw [List.take_left' rfl] at h1
  rw [List.drop_left' rfl] at h2
  rw [← List.take_append_drop ds.length vs]
  exact relL_append (h J _ h1) (relL_repUp h hl m J _ h2)
variable {f : FuncId} {I0 : Imm} {R : Goal} {k : List Item}
end Go.Q

namespace Go.Q
variable {P : Program} {N : Nat} {g : G} {M : List Res}
variable {dst : Option Tmp} {ty : TypeId} {pos : String} {after : Array Edge} {gd : Option (Nat × Bool)}
theorem single_flat : ∀ ds : List D, (ds.map fun d => [d]).flatten = ds
 | [] => rfl
 | d :: ds => by rw [List.map_cons, List.flatten_cons, single_flat ds]; rfl
theorem inv_flat {I : Imm} {b T n : Nat} {els : List (List D)} {F : List Res} {w : World} (h : Inv I (rBuf b T n els :: F) w) : Inv I (rBuf b T 1 (els.flatten.map fun d => [d]) :: F) w := by
 refine ⟨h.os, h.tape, h.output, h.imm, fun r hr => ?_, h.apart⟩
 rcases List.mem_cons.1 hr with rfl | hr
 ·obtain ⟨hb, o, h3, cs, h4, h5, h6⟩ := h.own _ (List.mem_cons_self ..)
  exact ⟨hb, o, h3, cs, h4, fun e he => by obtain ⟨d, _, rfl⟩ := List.mem_map.1 he; rfl, by rw [single_flat]; exact h6⟩
 ·exact h.own r (List.mem_cons_of_mem _ hr)
theorem inv_unflat {I : Imm} {b T n : Nat} {els : List (List D)} {fl : List D} {F : List Res} {w : World} (hl : ∀ e ∈ els, e.length = n) (hf : els.flatten = fl) (h : Inv I (rBuf b T 1 (fl.map fun d => [d]) :: F) w) : Inv I (rBuf b T n els :: F) w := by
 subst hf
 refine ⟨h.os, h.tape, h.output, h.imm, fun r hr => ?_, h.apart⟩
 rcases List.mem_cons.1 hr with rfl | hr
 ·obtain ⟨hb, o, h3, cs, h4, h5, h6⟩ := h.own _ (List.mem_cons_self ..)
  rw [single_flat] at h6
  exact ⟨hb, o, h3, cs, h4, hl, h6⟩
 ·exact h.own r (List.mem_cons_of_mem _ hr)
theorem flatten_get {n : Nat} : ∀ {els : List (List D)} {q o : Nat} {ds : List D} {d : D}, (∀ e ∈ els, e.length = n) → els[q]? = some ds → ds[o]? = some d → els.flatten[q * n + o]? = some d
 | e :: els, 0, o, ds, d, hl, hq, ho => by
  simp at hq
  subst hq
  rw [Nat.zero_mul, Nat.zero_add, List.flatten_cons, List.getElem?_append_left (List.getElem?_eq_some_iff.1 ho).1]
  exact ho
 | e :: els, q + 1, o, ds, d, hl, hq, ho => by
  have he := hl e (List.mem_cons_self ..)
  rw [List.flatten_cons, List.getElem?_append_right (by rw [he, Nat.add_mul]; omega), he, show (q + 1) * n + o - n = q * n + o by rw [Nat.add_mul]; omega]
  exact flatten_get (fun x hx => hl x (List.mem_cons_of_mem _ hx)) (by simpa using hq) ho
theorem flatten_set {n : Nat} : ∀ {els : List (List D)} {q o : Nat} {ds : List D} {d : D}, (∀ e ∈ els, e.length = n) → els[q]? = some ds → o < n → (els.set q (ds.set o d)).flatten = els.flatten.set (q * n + o) d
 | e :: els, 0, o, ds, d, hl, hq, ho => by
  have he := hl e (List.mem_cons_self ..)
  simp at hq
  subst hq
  rw [Nat.zero_mul, Nat.zero_add, List.set_cons_zero, List.flatten_cons, List.flatten_cons, List.set_append_left _ _ (by omega)]
 | e :: els, q + 1, o, ds, d, hl, hq, ho => by
  have he := hl e (List.mem_cons_self ..)
  rw [List.set_cons_succ, List.flatten_cons, List.flatten_cons, List.set_append_right _ _ (by rw [he, Nat.add_mul]; omega), he, show (q + 1) * n + o - n = q * n + o by rw [Nat.add_mul]; omega]
  rw [flatten_set (fun x hx => hl x (List.mem_cons_of_mem _ hx)) (by simpa using hq) ho]
theorem buf_lens {I : Imm} {b T n : Nat} {els : List (List D)} {F : List Res} {w : World} (h : Inv I (rBuf b T n els :: F) w) : ∀ e ∈ els, e.length = n := by
 obtain ⟨hb, o, h3, cs, h4, h5, h6⟩ := h.own _ (List.mem_cons_self ..)
 exact h5
theorem loc_loadBufF {t T n b q o : Nat} [ht : TyV P t false 1] {x : Operand} {els : List (List D)} {ds : List D} {d : D} (hx : opd g x = some (dVal (ptr b (q * n + o)))) (hm : In (rBuf b T n els) M) (hq : els[q]? = some ds) (ho : ds[o]? = some d) :
  LocP P ⟨dst, .load t x, ty, pos, after, gd⟩ g N M d :=
 locP_of_run fun I a w hs hinv => by
  have hp : a.eval x = .pointer (some ⟨b, q * n + o, none⟩) := opd_sound hs hx
  obtain ⟨cs, hb, h5, h6⟩ := own_buf hinv hm.mem
  obtain ⟨v, hv, hd⟩ := relL_get h6 _ d (flatten_get h5 hq ho)
  refine ⟨v, ?_, hd⟩
  have hc : w.cell? ⟨b, q * n + o, none⟩ = some v := by simp [World.cell?, hb]; simpa using hv
  have hl : (load (⟨b, q * n + o, none⟩ : Addr)).run P w = .ok v w := by rw [run_load, hc]
  simp [execOp, hp, Instr.loadAt, Instr.sureAddr, loadVar, run_isAgg ht, -run_load, hl]
theorem loc_storeBufF {t T n b q o : Nat} [ht : TyV P t false 1] {x y : Operand} {els : List (List D)} {ds : List D} {d : D} [hone : One d] (hx : opd g x = some (dVal (ptr b (q * n + o)))) (hy : opd g y = some d) (hq : els[q]? = some ds) (ho : o < n) :
  LocM P ⟨none, .store t x y, ty, pos, after, gd⟩ g N [rBuf b T n els] (fun _ : Unit => True) (fun _ => dTop) (fun _ => [rBuf b T n (els.set q (ds.set o d))]) := by
 constructor
 intro F I a w K Q hs hi hK
 have hl := buf_lens hi
 have hds : ds.length = n := hl ds (List.mem_of_getElem? hq)
 have hlen : q * n + o < (els.flatten.map fun d => [d]).length := by
  have h1 : ds[o]? = some ds[o] := List.getElem?_eq_getElem (by omega)
  have := (List.getElem?_eq_some_iff.1 (flatten_get hl hq h1)).1
  rw [List.length_map]
  exact this
 refine (loc_storeBuf1 (q := q * n + o) (T := T) (els := els.flatten.map fun d => [d]) (by rw [Nat.mul_one]; exact hx) hy hlen).go F I a w K Q hs (inv_flat hi) fun u v w' J h0 h1 h2 h3 => hK u v w' J h0 h1 h2 ?_
 refine inv_unflat ?_ (flatten_set hl hq ho) (n := n) (fl := els.flatten.set (q * n + o) d) ?_
 ·intro e he
  rcases List.mem_or_eq_of_mem_set he with he | rfl
  ·exact hl e he
  ·rw [List.length_set]; exact hds
 ·rw [List.map_set]; exact h3
end Go.Q

namespace Go.Q

def rReady (l : Nat) (r : Loop) : Res := ⟨some l, fun _ o => o = some (.loop { r with state := .ready, pending := none }), fun _ h => h⟩
def rBusy (l : Nat) (r : Loop) : Res := ⟨some l, fun _ o => o = some (.loop { r with state := .busy, pending := none }), fun _ h => h⟩
def rDef (D : Nat) : Res := ⟨some D, fun _ o => o = some (.deferred (some [])), fun _ h => h⟩
theorem own_obj {I : Imm} {M : List Res} {w : World} {b : Nat} {o : Obj} {h0 : ∀ {I J : Imm} {o' : Option Obj}, I.le J → o' = some o → o' = some o} (h : Inv I M w) (hm : (⟨some b, fun _ o' => o' = some o, h0⟩ : Res) ∈ M) : w.heap[b]? = some o := by
 obtain ⟨_, o', h1, h2⟩ := h.own _ hm
 injection h2 with h2
 rw [h1, h2]
theorem inv_putObj {I : Imm} {M : List Res} {w : World} {r r' : Res} {b : Nat} {o : Obj} (h : Inv I (r :: M) w) (hk : r.key = some b) (hk' : r'.key = some b) (hs : r'.sat I (some o)) : Inv I (r' :: M) (w.putObj b o) := by
 have h1 := h.own r (List.mem_cons_self ..)
 unfold Res.ok at h1
 rw [hk] at h1
 obtain ⟨_, o1, h3, _⟩ := h1
 have hb := (Array.getElem?_eq_some_iff.1 h3).1
 exact h.write hk hk' rfl rfl rfl (fun c hc _ => World.putObj_heap_other hc) (World.putObj_heap_same hb) hs

def Yields (P : Program) (l : Nat) (us : List Value) (w : World) (R : World → Prop) : Prop :=
 ∃ fn tmps assign body, (Instr.yield l us.toArray).run P w = .ok (.round l fn tmps assign body) w ∧ RoundIn (FR none) 0 P l fn tmps assign body w (fun e w' => e = .returned (.bool true) ∧ R w')
def YOk (P : Program) (l : Nat) {α : Type} (c : α → List D) (xs : List α) {σ : Type} (φ : Nat → σ → Prop) (Mo : Nat → σ → List Res) (I0 : Imm) : Prop :=
 ∀ (F : List Res) (i : Nat) (x : α) (s : σ) (I1 : Imm) (w1 : World) (us : List Value), xs[i]? = some x → φ i s → I0.le I1 → relL (c x) I1 us → Inv I1 (Mo i s ++ F) w1 →
  Yields P l us w1 fun w2 => ∃ s' I2, φ (i + 1) s' ∧ I1.le I2 ∧ Inv I2 (Mo (i + 1) s' ++ F) w2
def IterOk (P : Program) (gf : FuncId) (lb : List Value) {α : Type} (c : α → List D) (xs : List α) (Rs : List Res) (J0 : Imm) : Prop :=
 ∀ (l : Nat) (σ : Type) (φ : Nat → σ → Prop) (Mo : Nat → σ → List Res) (F0 : List Res) (s0 : σ) (I : Imm) (w : World), J0.le I → φ 0 s0 → Inv I (Mo 0 s0 ++ (Rs ++ F0)) w → YOk P l c xs φ Mo I →
  Calls P gf (#[.func (.yield l) #[] #[]] ++ lb.toArray) w fun e w' => ∃ v, e = .returned v ∧ ∃ s' , φ xs.length s' ∧ ∃ I', I.le I' ∧ dTop.rel I' v ∧ Inv I' (Mo xs.length s' ++ (Rs ++ F0)) w'
def dSeqR (P : Program) {α : Type} (c : α → List D) (xs : List α) (Rs : List Res) : D :=
  ⟨fun I v => ∃ (gf : FuncId) (lb : List Value), v = .func (.func gf) #[] lb.toArray ∧ TyFn P gf ∧ IterOk P gf lb c xs Rs I,
   fun h ⟨gf, lb, e, h1, h2⟩ => ⟨gf, lb, e, h1, fun l σ φ Mo F0 s0 I w hle => h2 l σ φ Mo F0 s0 I w (h.trans hle)⟩⟩
abbrev dSeq (P : Program) {α : Type} (c : α → List D) (xs : List α) : D := dSeqR P c xs []
variable {P : Program} {f : FuncId} {N : Nat} {I0 : Imm} {R : Goal} {g : G} {M : List Res} {k : List Item}
theorem iter_of_body {fn : Func} {cd : Code} {caps : List D} {α : Type} {c : α → List D} {xs : List α} {Rs : List Res} (hf : P.funcs[f]? = some fn) (hb : fn.body = some cd) (hN : Nat.ble (caps.length + 1) fn.ntmps = true)
  (h : ∀ (l : Nat) (σ : Type) (φ : Nat → σ → Prop) (Mo : Nat → σ → List Res) (F0 : List Res) (s0 : σ) (I : Imm), φ 0 s0 → YOk P l c xs φ Mo I →
   Run P f fn.ntmps I (Post I (φ xs.length) (fun _ => dTop) (Mo xs.length) (Rs ++ F0)) (start 0 (dVal (.func (.yield l) #[] #[]) :: caps)) (Mo 0 s0 ++ (Rs ++ F0)) [.code cd]) :
  ∀ (I : Imm) (lb : List Value), relL caps I lb → IterOk P f lb c xs Rs I := by
 intro J0 lb hlb l σ φ Mo F0 s0 I w hle h0 hi hy
 have := goes_enter (vs := .func (.yield l) #[] #[] :: lb) (ds := dVal (.func (.yield l) #[] #[]) :: caps) rfl rfl hf hb (by have := relL_length hlb; have := Nat.le_of_ble_eq_true hN; simp; omega) ⟨rfl, relL_mono hle hlb⟩ hi (h l σ φ Mo F0 s0 I h0 hy)
 have e : (Value.func (.yield l) #[] #[] :: lb).toArray = #[.func (.yield l) #[] #[]] ++ lb.toArray := by simp
 rw [e] at this
 exact this
variable {ty : TypeId} {pos : String} {after : Array Edge} {ops : Array Oper} {rest : List Oper}
theorem run_yieldOp {l : Nat} {α : Type} {c : α → List D} {xs : List α} {σ : Type} {φ : Nat → σ → Prop} {Mo : Nat → σ → List Res} (hy : YOk P l c xs φ Mo I0) {i : Nat} {x : α} {s : σ} {F : List Res} {y : Operand} {args : List Operand} {ats : Array TypeId} {Ds : List D} {dst : Tmp}
  (hyv : opd g y = some (dVal (.func (.yield l) #[] #[]))) (ha : opds g args = some Ds) (hN : Nat.blt dst N = true) (hx : xs[i]? = some x) (hφ : φ i s) (hM : M = Mo i s ++ F) (hD : ∀ I us, relL Ds I us → relL (c x) I us)
  (h : ∀ s', φ (i + 1) s' → RunL P f N I0 R ((dst, dB True) :: g) (Mo (i + 1) s' ++ F) ops rest k) :
  RunL P f N I0 R g M ops (⟨some dst, .call ⟨.value y, args.toArray, ats⟩, ty, pos, after, none⟩ :: rest) k := by
 subst hM
 constructor
 intro I a w b cs hb hk hl hs hi
 refine wpListIn_plain rfl fun K hK => ?_
 obtain ⟨fn, tmps, assign, body, h1, h2⟩ := hy F i x s I w (args.map a.eval) hx hφ hl (hD _ _ (opds_sound hs ha)) hi
 refine ⟨fun _ _ => trivial, ?_⟩
 rw [Oper.semAt_eq _ _ _ (by intro c hc; cases hc)]
 have hev : ∀ z, (R.act a).eval z = a.eval z := fun z => by cases z <;> rfl
 have he : (execOp (R.act a).eval ⟨some dst, .call ⟨.value y, args.toArray, ats⟩, ty, pos, after, none⟩).run P w = .ok (.round l fn tmps assign body) w := by
  have hfun : (R.act a).eval = a.eval := funext hev
  rw [hfun]
  have hyy : a.eval y = .func (.yield l) #[] #[] := opd_sound hs hyv
  have ht : List.take args.length (args.map a.eval) = args.map a.eval := List.take_of_length_le (by simp)
  simp [execOp, resolve, invoke, hyy, ht, Deferred.ofValue]
  simpa using h1
 rw [he]
 refine ⟨fun hd => Bool.noConfusion hd, ?_⟩
 refine RoundIn.mono (F := FR R.round) (n := 0) h2 ?_
 rintro e w' ⟨rfl, s', I2, h3, h4, h5⟩
 refine hK _ _ ?_
 have hput : (R.act a).put (some dst) (.bool true) = R.act (a.put (some dst) (.bool true)) := rfl
 rw [hput]
 exact (h s' h3).go I2 _ w' b cs hb hk (hl.trans h4) ((hs.mono h4).put ⟨true, rfl, by simp⟩ (by simpa [Nat.blt_eq] using hN)) h5
theorem clo_seq {fn : FuncId} {caps : List D} {α : Type} {c : α → List D} {xs : List α} {Rs : List Res} [hf : TyFn P fn] (h : ∀ (I : Imm) (lb : List Value), relL caps I lb → IterOk P fn lb c xs Rs I) : ∀ I v, (dClo fn caps).rel I v → (dSeqR P c xs Rs).rel I v := by
 rintro I v ⟨cap, rfl, hr⟩
 exact ⟨fn, cap.toList, by simp, hf, h I _ hr⟩

def roundG (l : Nat) (post : World → Prop) : Goal := { round := some l, post := fun e w => e = .returned (.bool true) ∧ post w }
theorem run_beginR {l : Nat} {r : Loop} {post : World → Prop} {C : Res → List Res} {F : List Res} (hs : Sel (rReady l r) M C F) (h : Run P f N I0 (roundG l post) g (C (rBusy l r)) k) : Run P f N I0 (roundG l post) g M (.beginRound :: k) := by
 constructor
 intro I a w b cs hb hk hl hsl hi
 have h2 := hi.perm hs.perm.1
 have hw := own_obj h2 (List.mem_cons_self ..)
 have hr := Go.run_beginRound (P := P) hw rfl
 refine .step (.one (stepR_beginRound hk.2 hr)) (h.go I a _ b cs hb hk hl hsl ?_)
 exact (inv_putObj (r' := rBusy l r) h2 rfl rfl rfl).perm (hs.perm.2 _)
theorem run_roundEnd {l : Nat} {r : Loop} {σ : Type} {φ : σ → Prop} {Mo : σ → List Res} {F1 : List Res} {C : Res → List Res} {F : List Res} (s' : σ) (hφ : φ s') (hs : Sel (rBusy l r) M C F) (hM : C (rReady l r) = rReady l r :: (Mo s' ++ F1)) :
  Run P f N I0 (roundG l fun w => ∃ s' I2, φ s' ∧ I0.le I2 ∧ Inv I2 (rReady l r :: (Mo s' ++ F1)) w) g M [] := by
 constructor
 intro I a w b cs hb hk hl hsl hi
 have h2 := hi.perm hs.perm.1
 have hw := own_obj h2 (List.mem_cons_self ..)
 have hr := run_endRound (P := P) none hw
 show ∀ c cs0, cs = c :: cs0 → _
 rintro c cs0 rfl
 refine ⟨.bool true, _, ⟨rfl, s', I, hφ, hl, ?_⟩, .one (stepR_round_end hk.2 hk.1 hr)⟩
 rw [← hM]
 exact (inv_putObj (r' := rReady l r) h2 rfl rfl rfl).perm (hs.perm.2 _)
@[reducible] def Goal.mark (R : Goal) (D : Nat) : Goal := { R with marks := { target := .collected D, args := #[] } :: R.marks }
@[reducible] def setP : List Tmp → List D → G → G
 | [], _, g => g
 | _, [], g => g
 | p :: ps, d :: ds, g => setP ps ds ((p, d) :: g)
theorem slots_setP {I : Imm} : ∀ {ps : List Tmp} {ds : List D} {us : List Value} {g : G} {tmps : Array Value}, (∀ p ∈ ps, p < N) → ps.length = us.length → relL ds I us → Slots g N I { tmps := tmps, defers := [] } →
  Slots (setP ps ds g) N I { tmps := (ps.zip us).foldl (fun t (p, u) => t.setIfInBounds p u) tmps, defers := [] }
 | [], ds, [], g, tmps, _, _, _, hs => by cases ds <;> exact hs
 | p :: ps, [], u :: us, g, tmps, _, _, hr, _ => by cases hr
 | p :: ps, d :: ds, u :: us, g, tmps, hp, hl, hr, hs => by
  have h1 := hs.put (k := p) (d := d) (v := u) hr.1 (hp p (List.mem_cons_self ..))
  exact slots_setP (ps := ps) (ds := ds) (us := us) (fun q hq => hp q (List.mem_cons_of_mem _ hq)) (by simpa using hl) hr.2 h1
theorem run_rangeFunc {gx : Operand} {ps : List Tmp} {assign body : Code} {α : Type} {c : α → List D} {xs : List α} {σ : Type} (φ : Nat → σ → Prop) (Mo : Nat → σ → List Res) {F Rs : List Res} (s0 : σ)
  (hro : R.round = none) (hms : R.marks = []) (hg : opd g gx = some (dSeqR P c xs Rs)) (hps : ∀ x, (c x).length = ps.length) (hpN : ps.all (fun p => Nat.blt p N) = true) (h0 : φ 0 s0) (hM : M = Mo 0 s0 ++ (Rs ++ F))
  (hround : ∀ (i : Nat) (x : α) (s : σ) (l : Nat) (r : Loop) (F1 : List Res) (J : Imm), xs[i]? = some x → φ i s →
   Run P f N J (roundG l fun w => ∃ s' I2, φ (i + 1) s' ∧ J.le I2 ∧ Inv I2 (rReady l r :: (Mo (i + 1) s' ++ F1)) w) (setP ps (c x) g) (rReady l r :: (Mo i s ++ F1)) [.code assign, .beginRound, .code body])
  (hdone : ∀ (D : Nat) (s : σ), φ xs.length s → Run P f N I0 (R.mark D) g (rDef D :: (Mo xs.length s ++ (Rs ++ F))) k) :
  Run P f N I0 R g M (.code (.rangeFunc gx ps.toArray assign body) :: k) := by
 subst hM
 constructor
 intro I a w b cs hb hk hl hs hi
 obtain ⟨gf, lb, hgv, hfn, hit⟩ := opd_sound hs hg
 let r : Loop := { state := .ready, pending := none, fn := f, tmps := a.tmps, params := ps.toArray, assign, body, defers := w.heap.size }
 let w1 := (w.alloc (.deferred (some []))).alloc (.loop r)
 have he : (Instr.enterLoop b.fn (R.act a).tmps ps.toArray assign body b.roundOf).run P w = .ok (w.heap.size + 1, [{ target := .collected w.heap.size, args := #[] }]) w1 := by
  rw [hk.2, hro, hb]
  exact run_enterLoop_outer _ _ _ _ _
 have hev : (R.act a).eval gx = .func (.func gf) #[] lb.toArray := by
  have : (R.act a).eval gx = a.eval gx := by cases gx <;> rfl
  rw [this]; exact hgv
 have hres : (resolve (R.act a).eval (rangeCall gx (w.heap.size + 1)) 0).run P w1 = .ok { target := .fn (.func gf) lb.toArray, args := #[.func (.yield (w.heap.size + 1)) #[] #[]] } w1 := by
  simp only [resolve, hev]
  simp [go_sem]
 have hinv : (invoke (Target.fn (.func gf) lb.toArray) #[.func (.yield (w.heap.size + 1)) #[] #[]]).run P w1 = .ok (.enter gf (#[.func (.yield (w.heap.size + 1)) #[] #[]] ++ lb.toArray)) w1 := by
  simp [invoke, go_sem, run_callFunc hfn]
 have hstep := stepR_rangeFunc (P := P) (b := b) (a := R.act a) (k := k) (cs := cs) (w := w) he hres hinv
 have hi1 : Inv I (rReady (w.heap.size + 1) r :: (Mo 0 s0 ++ (Rs ++ (rDef w.heap.size :: F)))) w1 := by
  have h1 := hi.allocOwn (.deferred (some [])) (rDef w.heap.size) rfl rfl
  have h2 := h1.allocOwn (.loop r) (rReady (w.alloc (.deferred (some []))).heap.size r) rfl rfl
  rw [World.size_alloc] at h2
  exact h2.perm (.cons _ ((List.perm_middle.symm).trans ((List.perm_middle.symm).append_left _)))
 have hcalls := hit (w.heap.size + 1) σ φ (fun i s => rReady (w.heap.size + 1) r :: Mo i s) (rDef w.heap.size :: F) s0 I w1 I.le_refl h0 hi1 ?_
 ·obtain ⟨e, w2, fr, hpost, hsteps, hfr, hleave⟩ := hcalls (b.atR { R.act a with defers := [{ target := .collected w.heap.size, args := #[] }] ++ (R.act a).defers } (.inRangeFunc (w.heap.size + 1) :: k) :: cs)
  obtain ⟨v, rfl, s', hφ', I', hle', _, hi'⟩ := hpost
  have hw2 := own_obj hi' (List.mem_cons_self ..)
  have hend := run_endLoop (P := P) hw2 (by simp)
  have sback := step_leave_returned (c := b.atR { R.act a with defers := [{ target := .collected w.heap.size, args := #[] }] ++ (R.act a).defers } (.inRangeFunc (w.heap.size + 1) :: k)) (cs := cs) hleave
  rw [finish_atR_inRangeFunc] at sback
  have send := stepR_endRangeFunc (P := P) (b := b) (a := { R.act a with defers := [{ target := .collected w.heap.size, args := #[] }] ++ (R.act a).defers }) (k := k) (cs := cs) hend
  refine .step (Steps.trans (.one hstep) (Steps.trans hsteps (Steps.trans (.one sback) (.one send)))) ?_
  have hi2 : Inv I' (rDef w.heap.size :: (Mo xs.length s' ++ (Rs ++ F))) (w2.putObj (w.heap.size + 1) (.loop { r with state := .exhausted, pending := none })) := by
   have h1 := inv_putObj (r' := ⟨some (w.heap.size + 1), fun _ o => o = some (.loop { r with state := .exhausted, pending := none }), fun _ h => h⟩) hi' rfl rfl rfl
   exact (inv_tail h1).perm ((List.perm_middle.append_left _).trans List.perm_middle)
  have := (hdone w.heap.size s' hφ').go I' a _ b cs hb ⟨hk.1, hk.2⟩ (hl.trans hle') (hs.mono hle') hi2
  exact this
 ·intro F1 i x s I1 w1 us hx hφ hle hus hi1
  have hw1 := own_obj hi1 (List.mem_cons_self ..)
  have hlen : us.length = ps.length := by rw [← relL_length hus, hps]
  have hy := Go.run_yield (P := P) (args := us.toArray) hw1 (by show us.toArray.size = ps.toArray.size; simpa using hlen)
  refine ⟨f, _, assign, body, hy, trivial, fun c0 cs0 _ => ?_⟩
  let b0 : Frame := { (default : Frame) with fn := f, kind := .normal, roundOf := some (w.heap.size + 1) }
  have hpN' : ∀ p ∈ ps, p < N := fun p hp => by
   have := List.all_eq_true.1 hpN p hp
   simpa [Nat.blt_eq] using this
  have hs1 : Slots g N I1 { tmps := a.tmps, defers := [] } := by
   have := hs.mono hle
   exact ⟨this.size, rfl, fun k d hk => this.slot k d hk⟩
  have hsl := slots_setP (ps := ps) (ds := c x) (us := us) hpN' hlen.symm hus hs1
  have hgo := (hround i x s (w.heap.size + 1) r F1 I1 hx hφ).go I1 _ w1 b0 (c0 :: cs0) rfl ⟨rfl, rfl⟩ I1.le_refl hsl hi1
  obtain ⟨v, w3, ⟨rfl', s', I2, h1, h2, h3⟩, hst⟩ := hgo c0 cs0 rfl
  injection rfl' with hv
  subst hv
  refine ⟨.returned (.bool true), w3, ⟨rfl, s', I2, h1, h2, h3⟩, ?_⟩
  have hfr : Frame.round (w.heap.size + 1) f ((ps.toArray.zip us.toArray).foldl (fun tmps (t, u) => tmps.setIfInBounds t u) a.tmps) assign body .normal = b0.atR ((roundG (w.heap.size + 1) fun w_1 => ∃ s' I2, φ (i + 1) s' ∧ I1.le I2 ∧ Inv I2 (rReady (w.heap.size + 1) r :: (Mo (i + 1) s' ++ F1)) w_1).act { tmps := (ps.zip us).foldl (fun t (p, u) => t.setIfInBounds p u) a.tmps, defers := [] }) [.code assign, .beginRound, .code body] := by
   simp [Frame.round, Frame.atR, b0, roundG, Goal.act]
  rw [hfr]
  exact stepsIn_wide.2 hst

theorem goes_retMk {fn : Func} {a : Act} {b : Frame} {cs : List Frame} {w : World} {v : Value} {D : Nat} (hf : P.funcs[f]? = some fn) (hb : b.fn = f) (hk : b.kind = .normal ∧ b.roundOf = R.round) (hw : w.heap[D]? = some (.deferred (some [])))
  (hr : (results fn a.tmps).run P (w.putObj D (.deferred none)) = .ok v (w.putObj D (.deferred none)))
  (hR : R.post (.returned v) (w.putObj D (.deferred none))) (hro : R.round = none := by rfl) (hms : R.marks = [{ target := .collected D, args := #[] }] := by rfl) : Goes P f R (b.atR (R.act a) (.code .ret :: k)) cs w := by
 have s1 := stepR_ret (P := P) (b := b) (a := R.act a) (k := k) (cs := cs) (w := w) (hk.2.trans hro)
 have s2 := step_collected (P := P) (cs := cs) (fr := { b.atR (R.act a) (.code .ret :: k) with mode := .returning }) (by simp) (d := { target := .collected D, args := #[] }) (ds := []) hms rfl (run_takeDeferred hw)
 unfold Goes
 rw [hro]
 exact ⟨.returned v, _, { { b.atR (R.act a) (.code .ret :: k) with mode := .returning } with defers := [] ++ [] }, hR, Steps.trans (.one s1) (.one s2), hb, rfl, rfl, hk.1, fn, by simpa [Frame.atR, hb] using hf, hr⟩
theorem inv_unmark {I : Imm} {D : Nat} {F : List Res} {w : World} (h : Inv I (rDef D :: F) w) : w.heap[D]? = some (.deferred (some [])) ∧ Inv I F (w.putObj D (.deferred none)) :=
 ⟨own_obj h (List.mem_cons_self ..), inv_tail (inv_putObj (r' := ⟨some D, fun _ o => o = some (.deferred none), fun _ h => h⟩) h rfl rfl rfl)⟩
theorem run_retMk {fn : Func} {rs : List ResultVar} {ds : List D} {σ : Type} {φ : σ → Prop} {d : σ → D} {Mout : σ → List Res} {F0 F : List Res} {C : Res → List Res} {D : Nat} (s : σ) (hsel : Sel (rDef D) M C F) (hf : P.funcs[f]? = some fn) (hr : fn.results = rs.toArray) (h : ResOk P g F rs ds)
  (hle : ∀ I v, (retD ds).rel I v → (d s).rel I v) (hφ : φ s) (hM : ∀ I w, Inv I F w → Inv I (Mout s ++ F0) w) : Run P f N I0 ((Post I0 φ d Mout F0).mark D) g M (.code .ret :: k) :=
 ⟨fun _ a w _ _ hb hk hl hs hi => by
  obtain ⟨h1, h2⟩ := inv_unmark (hi.perm hsel.perm.1)
  obtain ⟨_, h3, h4⟩ := results_ok hr h hs h2
  exact goes_retMk hf hb hk h1 h3 ⟨_, rfl, s, hφ, _, hl, hle _ _ h4, hM _ _ h2⟩⟩
theorem run_retPMk {fn : Func} {rs : List ResultVar} {ds : List D} {d : D} {M0 F : List Res} {C : Res → List Res} {D : Nat} (hsel : Sel (rDef D) M C F) (hf : P.funcs[f]? = some fn) (hr : fn.results = rs.toArray) (h : ResOk P g F rs ds)
  (hle : ∀ I v, (retD ds).rel I v → d.rel I v) (hM : ∀ I w, Inv I F w → Inv I M0 w) : Run P f N I0 ((PostP I0 d M0).mark D) g M (.code .ret :: k) :=
 ⟨fun _ a w _ _ hb hk hl hs hi => by
  obtain ⟨h1, h2⟩ := inv_unmark (hi.perm hsel.perm.1)
  obtain ⟨_, h3, h4⟩ := results_ok hr h hs h2
  exact goes_retMk hf hb hk h1 h3 ⟨_, rfl, _, hl, hle _ _ h4, hM _ _ h2⟩⟩

theorem run_ret0End {fn : Func} {σ : Type} {φ : σ → Prop} {d : σ → D} {Mout : σ → List Res} {F : List Res} (s : σ) (hf : P.funcs[f]? = some fn) (hr : fn.results = #[]) (hle : ∀ I v, (dTup []).rel I v → (d s).rel I v) (hφ : φ s) (hM : ∀ I w, Inv I M w → Inv I (Mout s ++ F) w) : Run P f N I0 (Post I0 φ d Mout F) g M [] :=
 ⟨fun _ a w _ _ hb hk hl hs hi => let ⟨_, h1, h2⟩ := results_ok (rs := []) (ds := []) hr .nil hs hi; goes_end hf hb hk h1 ⟨_, rfl, s, hφ, _, hl, hle _ _ h2, hM _ _ hi⟩⟩
end Go.Q
