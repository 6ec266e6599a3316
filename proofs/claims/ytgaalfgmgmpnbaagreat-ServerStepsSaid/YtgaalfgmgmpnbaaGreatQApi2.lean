/- Closures that hold themselves; contracts whose result is let become immutable; tables as descriptors: what is proved here holds of every program. -/
import Derived.Test.YtgaalfgmgmpnbaaGreatQDraw2
import Derived.Test.YtgaalfgmgmpnbaaGreatQPlainA
import Derived.Laws.Externs
import Derived.Laws.Bits64
import Derived.Laws.Shifts
set_option linter.unusedVariables false
set_option linter.unusedSimpArgs false
namespace Go.Q
variable {P : Program} {f : FuncId} {N : Nat} {I0 : Imm} {R : Goal} {g : G} {M : List Res} {k : List Item}
abbrev dTab (t : Tab) : D := dAgg [dInt .i64 t.number, dInt .i64 t.p, dInt .i64 t.width, dRows t.rows]
abbrev dHd (h : Hd) : D := dAgg [dInt .i64 h.number, dInt .i64 h.p, dInt .i64 h.count, dInt .i64 h.width, dInt .i64 h.root]
abbrev fI : Int → List D := fun x => [dInt .i64 x]
abbrev fR : List Int → List D := fun x => [dInts x]
def dKnot (fn : FuncId) : D :=
  ⟨fun I v => ∃ b cs T fz, v = ptr b 0 ∧ I.blk b = some (.cells cs T fz) ∧ cs.toList = [.func (.func fn) #[] #[ptr b 0]],
   fun h ⟨b, cs, T, fz, h1, h2, h3⟩ => ⟨b, cs, T, fz, h1, h.blk _ _ h2, h3⟩⟩
theorem knot_box {fn : FuncId} : ∀ I v, (dKnot fn).rel I v → (dBox [dClo fn [dKnot fn]]).rel I v := by
 rintro I v ⟨b, cs, T, fz, rfl, h2, h3⟩
 refine ⟨⟨b, 0, none⟩, rfl, rfl, cs, T, fz, h2, ?_⟩
 rw [h3]
 exact ⟨⟨#[ptr b 0], rfl, ⟨b, cs, T, fz, rfl, h2, h3⟩, trivial⟩, trivial⟩
theorem run_freezeKnot {s b : Nat} {T : TypeId} {fn : FuncId} {C : Res → List Res} {F : List Res} (hs : look g s = some (dVal (ptr b 0))) (hm : Sel (rCells b T [dClo fn [dVal (ptr b 0)]]) M C F) (h : Run P f N I0 R ((s, dBox [dClo fn [dKnot fn]]) :: g) F k) : Run P f N I0 R g M k := by
 refine run_turn (fun I a w hsl hi => ?_) h
 obtain ⟨o, ⟨cs, ho, hr⟩, hn, hi'⟩ := (hi.perm hm.perm.1).freeze (b := b) rfl
 injection ho with ho
 subst ho
 have hle := Imm.le_add (o := .cells cs T (0, 0)) hn
 refine ⟨_, hle, ⟨hsl.size, hsl.defers, fun j e hj => ?_⟩, hi'⟩
 rw [look_cons] at hj
 split at hj
 ·rename_i e1
  subst e1
  injection hj with hj
  subst hj
  have h1 : a.tmps.getD s undef = ptr b 0 := hsl.slot _ _ hs
  rw [h1]
  apply knot_box
  have hcs : cs.toList = [.func (.func fn) #[] #[ptr b 0]] := by
   match hc : cs.toList, hr with
   | [u], hr =>
    obtain ⟨⟨cap, hu, hcap⟩, _⟩ := hr
    match hcc : cap.toList, hcap with
    | [p], hcap =>
     have hp : p = ptr b 0 := hcap.1
     have : cap = #[ptr b 0] := by apply Array.toList_inj.1; rw [hcc, hp]
     rw [hu, this]
  exact ⟨b, cs, T, (0, 0), rfl, by simp [Imm.add], hcs⟩
 ·exact e.mono hle (hsl.slot _ _ hj)

theorem spec_freeze {Ds : List D} {T n : Nat} {α : Type} {f' : α → List D} {xs : List α} (h : Spec P f Ds [] (fun _ : Value => True) (fun v => dVal v) (fun v => [rRow v T n f' xs])) : SpecP P f Ds (dSl n f' xs) := by
 intro I M w vs hv hi
 refine (h I M w vs hv hi).mono ?_
 rintro e w' ⟨v, rfl, s, _, J, h1, h2, h3⟩
 obtain ⟨J', h4, h5, h6⟩ := row_freeze h3
 have hvs : v = s := h2
 subst hvs
 exact ⟨v, rfl, J', h1.trans h4, h5, h6⟩
theorem spec_freeze2 {Ds : List D} {T n : Nat} {α : Type} {f' : α → List D} {xs : List α} {d2 : D} (h : Spec P f Ds [] (fun _ : Value => True) (fun v => dTup [dVal v, d2]) (fun v => [rRow v T n f' xs])) : SpecP P f Ds (dTup [dSl n f' xs, d2]) := by
 intro I M w vs hv hi
 refine (h I M w vs hv hi).mono ?_
 rintro e w' ⟨v, rfl, s, _, J, h1, ⟨cs, h2, h7⟩, h3⟩
 obtain ⟨J', h4, h5, h6⟩ := row_freeze h3
 obtain ⟨u1, u2, hc, g1, g2⟩ := relL2 h7
 have hvs : u1 = s := g1
 subst hvs
 exact ⟨v, rfl, J', h1.trans h4, ⟨cs, h2, by rw [hc]; exact ⟨h5, d2.mono h4 g2, trivial⟩⟩, h6⟩
end Go.Q

namespace Go.Q
variable {P : Program} {f : FuncId} {N : Nat} {I0 : Imm} {R : Goal} {g : G} {M : List Res} {k : List Item}
theorem slots_cast {I J : Imm} {a : Act} {s : Nat} {d d' : D} (hsl : Slots g N I a) (hle : I.le J) (hs : look g s = some d) (hd : ∀ v, d.rel I v → d'.rel J v) : Slots ((s, d') :: g) N J a := by
 refine ⟨hsl.size, hsl.defers, fun j e hj => ?_⟩
 rw [look_cons] at hj
 split at hj
 ·rename_i e1
  subst e1
  injection hj with hj
  subst hj
  exact hd _ (hsl.slot _ _ hs)
 ·exact e.mono hle (hsl.slot _ _ hj)
theorem relL_upgrade {I : Imm} {d' : D} {v : Value} (hd : d'.rel I v) : ∀ {ds : List D} {cs : List Value} (i : Nat), relL ds I cs → ds[i]? = some (dVal v) → relL (ds.set i d') I cs
 | d :: ds, c :: cs, 0, ⟨h1, h2⟩, h => by simp at h; subst h; rw [show c = v from h1]; exact ⟨hd, h2⟩
 | d :: ds, c :: cs, i + 1, ⟨h1, h2⟩, h => ⟨h1, relL_upgrade hd i h2 (by simpa using h)⟩
 | [], [], i, _, h => by simp at h
theorem run_freezeRowCell {b kk : Nat} {T' : TypeId} {ds : List D} {C C' : Res → List Res} {F F' : List Res} {α : Type} {T n : Nat} {f' : α → List D} {xs : List α} {v : Value} (hm : Sel (rRow v T n f' xs) M C F) (hc : Sel (rCells b T' ds) F C' F') (hk : ds[kk]? = some (dVal v))
  (h : Run P f N I0 R g (C' (rCells b T' (ds.set kk (dSl n f' xs)))) k) : Run P f N I0 R g M k := by
 refine run_turn (fun I a w hsl hi => ?_) h
 obtain ⟨J, hle, hd, hi'⟩ := row_freeze (hi.perm hm.perm.1)
 refine ⟨J, hle, hsl.mono hle, ?_⟩
 have h2 := hi'.perm hc.perm.1
 refine Inv.perm ?_ (hc.perm.2 _)
 refine ⟨h2.os, h2.tape, h2.output, h2.imm, fun r hr => ?_, h2.apart⟩
 rcases List.mem_cons.1 hr with rfl | hr
 ·obtain ⟨h3, o, h4, cs, h5, h6⟩ := h2.own _ (List.mem_cons_self ..)
  exact ⟨h3, o, h4, cs, h5, relL_upgrade hd kk h6 hk⟩
 ·exact h2.own r (List.mem_cons_of_mem _ hr)
end Go.Q

namespace Go.Q
variable {P : Program} {f : FuncId} {N : Nat} {I0 : Imm} {R : Goal} {g : G} {M : List Res} {k : List Item}
theorem relL_same {J : Imm} {kk : Nat} {ds : List D} {cs : List Value} {d d' : D} (h6 : relL ds J cs) (hk : ds[kk]? = some d) (hup : ∀ u, d.rel J u → d'.rel J u) : relL (ds.set kk d') J cs := by
 obtain ⟨u, hu, hdu⟩ := relL_get h6 kk d hk
 have h7 := relL_set (d := d') (hup u hdu) kk h6
 have h8 : cs.set kk u = cs := by
  apply List.ext_getElem?
  intro i
  rw [List.getElem?_set]
  split
  ·rename_i e; subst e
   split
   ·exact hu.symm
   ·rename_i e; rw [List.getElem?_eq_none (by omega)]
  ·rfl
 rwa [h8] at h7
theorem run_freezeUp {b kk : Nat} {T' : TypeId} {ds : List D} {C C' : Res → List Res} {F F' : List Res} {α : Type} {T n : Nat} {f' : α → List D} {xs : List α} {v : Value} (d d' : D) (hm : Sel (rRow v T n f' xs) M C F) (hc : Sel (rCells b T' ds) F C' F') (hk : ds[kk]? = some d)
  (hup : ∀ J u, d.rel J u → (dSl n f' xs).rel J v → d'.rel J u)
  (h : Run P f N I0 R g (C' (rCells b T' (ds.set kk d'))) k) : Run P f N I0 R g M k := by
 refine run_turn (fun I a w hsl hi => ?_) h
 obtain ⟨J, hle, hd, hi'⟩ := row_freeze (hi.perm hm.perm.1)
 refine ⟨J, hle, hsl.mono hle, ?_⟩
 have h2 := hi'.perm hc.perm.1
 refine Inv.perm ?_ (hc.perm.2 _)
 refine ⟨h2.os, h2.tape, h2.output, h2.imm, fun r hr => ?_, h2.apart⟩
 rcases List.mem_cons.1 hr with rfl | hr
 ·obtain ⟨h3, o, h4, cs, h5, h6⟩ := h2.own _ (List.mem_cons_self ..)
  exact ⟨h3, o, h4, cs, h5, relL_same h6 hk (fun u hu => hup J u hu hd)⟩
 ·exact h2.own r (List.mem_cons_of_mem _ hr)
theorem run_cellsUp {b kk : Nat} {T' : TypeId} {ds : List D} {C' : Res → List Res} {F' : List Res} (d d' : D) (hc : Sel (rCells b T' ds) M C' F') (hk : ds[kk]? = some d) (hup : ∀ J u, d.rel J u → d'.rel J u)
  (h : Run P f N I0 R g (C' (rCells b T' (ds.set kk d'))) k) : Run P f N I0 R g M k := by
 refine run_turn (fun I a w hsl hi => ?_) h
 refine ⟨I, I.le_refl, hsl, ?_⟩
 have h2 := hi.perm hc.perm.1
 refine Inv.perm ?_ (hc.perm.2 _)
 refine ⟨h2.os, h2.tape, h2.output, h2.imm, fun r hr => ?_, h2.apart⟩
 rcases List.mem_cons.1 hr with rfl | hr
 ·obtain ⟨h3, o, h4, cs, h5, h6⟩ := h2.own _ (List.mem_cons_self ..)
  exact ⟨h3, o, h4, cs, h5, relL_same h6 hk (fun u hu => hup I u hu)⟩
 ·exact h2.own r (List.mem_cons_of_mem _ hr)
def dSlV (v : Value) : D := ⟨fun _ u => u = v ∧ ∃ a n c, u = .slice a n c, fun _ h => h⟩
instance (v : Value) : One (dSlV v) := ⟨fun ⟨_, _, _, _, h⟩ => by rw [h]; exact ⟨rfl, rfl⟩⟩
theorem runL_rowV {ops : Array Oper} {l : List Oper} {s : Nat} {C : Res → List Res} {F : List Res} {α : Type} {T n : Nat} {f' : α → List D} {xs : List α} {v : Value} (hs : look g s = some (dVal v)) (hm : Sel (rRow v T n f' xs) M C F)
  (h : RunL P f N I0 R ((s, dSlV v) :: g) M ops l k) : RunL P f N I0 R g M ops l k := by
 constructor
 intro I a w b cs hb hk hl hsl hi
 refine h.go I a w b cs hb hk hl (slots_cast hsl I.le_refl hs (fun u hu => ⟨hu, ?_⟩)) hi
 rw [show u = v from hu]
 rcases row_cases (hi.perm hm.perm.1) with ⟨e, _⟩ | ⟨b, cap, cs, e, _⟩
 ·exact ⟨_, _, _, e⟩
 ·exact ⟨_, _, _, e⟩
theorem row_slice {α : Type} {v : Value} {T n : Nat} {f' : α → List D} {xs : List α} {I : Imm} {F : List Res} {w : World} (h : Inv I (rRow v T n f' xs :: F) w) : ∃ a n c, v = .slice a n c := by
 rcases row_cases h with ⟨e, _⟩ | ⟨b, cap, cs, e, _⟩
 ·exact ⟨_, _, _, e⟩
 ·exact ⟨_, _, _, e⟩

end Go.Q

namespace Go.Q
open Classical
structure Dk where
 xs : List Int
 k : Nat
def Dk.val (d : Dk) (n : Int) : Int := if n < 1 ∨ d.xs.length ≤ d.k then 0 else (d.xs[d.k]?.getD default) % n
def Dk.next (d : Dk) (n : Int) : Dk := if n < 1 ∨ d.xs.length ≤ d.k then d else ⟨d.xs, d.k + 1⟩
theorem Dk.val_nonneg (d : Dk) (n : Int) : 0 ≤ d.val n := by
 unfold Dk.val
 split
 ·omega
 ·exact Int.emod_nonneg _ (by omega)
theorem Dk.val_lt (d : Dk) (n : Int) (h : 1 ≤ n) : d.val n < n := by
 unfold Dk.val
 split
 ·omega
 ·exact Int.emod_lt_of_pos _ (by omega)
def Dk.it (d : Dk) (p : Int) : Nat → Dk
 | 0 => d
 | k + 1 => (d.it p k).next p
def Dk.elems (d : Dk) (p : Int) : Nat → List Int
 | 0 => []
 | k + 1 => d.elems p k ++ [(d.it p k).val p]
theorem checkT_zero {t : Tab} (h1 : 1 ≤ t.number ∧ t.number < 2147483647) (h2 : okP t.p) (h3 : 1 ≤ t.width ∧ t.width ≤ 64) (h4 : t.rows.length ≤ 1024) (h5 : ∀ r ∈ t.rows, (r.length : Int) = t.width ∧ allP t.p r) : checkT t = 0 := by
 unfold checkT
 rw [if_neg (by omega), if_neg (by simpa using h2), if_neg (by omega), if_neg (by omega)]
 refine firstErr_zero.2 fun r hr => ?_
 obtain ⟨h6, h7⟩ := h5 r hr
 unfold rowErr
 rw [if_neg (by simpa using h6), if_neg (by simpa using h7)]
end Go.Q

namespace Go.Q
variable {P : Program} {f : FuncId}
end Go.Q

namespace Go.Q
open Classical
theorem head_ok {t : Tab} (h : checkT t = 0) : headT t = ⟨t.number, t.p, t.rows.length, t.width, rootD (t.rows.map rowD)⟩ := by unfold headT; rw [if_pos h]
end Go.Q

namespace Go.Q
variable {P : Program} {f : FuncId} {N : Nat} {g : G} {M : List Res} {dst : Option Tmp} {ty : TypeId} {pos : String} {after : Array Edge} {gd : Option (Nat × Bool)}
theorem specP_pre {Ds Ds' : List D} {d : D} (h : SpecP P f Ds d) (hd : ∀ I vs, relL Ds' I vs → relL Ds I vs) : SpecP P f Ds' d :=
 fun I M w vs hv hi => h I M w vs (hd I vs hv) hi
theorem relL_last {a a' : D} {ds : List D} (h : ∀ I v, a'.rel I v → a.rel I v) : ∀ I vs, relL (ds ++ [a']) I vs → relL (ds ++ [a]) I vs := by
 induction ds with
 | nil => intro I vs hr; match vs, hr with | [v], hr => exact ⟨h _ _ hr.1, trivial⟩
 | cons e ds ih => intro I vs hr; match vs, hr with | v :: vs, hr => exact ⟨hr.1, ih I vs hr.2⟩
theorem opd_sub {c p : Prop} (hg : c) {d : D} : dIf (c ∧ p) d = dIf p d := by
 have : (c ∧ p) = p := propext ⟨fun h => h.2, fun h => ⟨hg, h⟩⟩
 rw [this]
theorem loc_orG {c0 : Prop} (hg : c0) {c b : Operand} {p q : Prop} (hc : opd g c = some (dB p)) (hb : opd g b = some (dIf (c0 ∧ ¬ p) (dB q))) : LocP P ⟨dst, .pick c (.const (.bool true)) b, ty, pos, after, gd⟩ g N M (dB (p ∨ q)) :=
 loc_or hc (hb.trans (congrArg some (opd_sub hg)))
theorem loc_andG {c0 : Prop} (hg : c0) {c b : Operand} {p q : Prop} (hc : opd g c = some (dB p)) (hb : opd g b = some (dIf (c0 ∧ p) (dB q))) : LocP P ⟨dst, .pick c b (.const (.bool false)), ty, pos, after, gd⟩ g N M (dB (p ∧ q)) :=
 loc_and hc (hb.trans (congrArg some (opd_sub hg)))
end Go.Q

namespace Go.Q
open Classical
variable {P : Program} {f : FuncId} {N : Nat} {I0 : Imm} {R : Goal} {g : G} {M : List Res} {k : List Item}
theorem run_gopM {α : Type} (mk : α → Res) {x0 x1 : α} {C : Res → List Res} {F : List Res} {l : List Oper} {rest : List Oper} {dst gs : Tmp} {j : Nat} {want : Bool} {op : Op} {ty : TypeId} {pos : String} {after : Array Edge} {d dg : D} {c : Prop} {gt : G}
  (hj : (l[j]?).bind (·.dst) = some gs) (hg : look g gs = some dg) (hgd : guardD want dg c)
  (hd : c → LocM P ⟨some dst, op, ty, pos, after, some (j, want)⟩ gt N [mk x0] (fun _ : Unit => True) (fun _ => d) (fun _ => [mk x1])) (hN : Nat.blt dst N = true) (hsel : Sel (mk x0) M C F)
  (h : RunLG P f N I0 R c ((dst, d) :: gt) ((dst, dIf c d) :: g) (C (mk (if c then x1 else x0))) l.toArray rest k) :
  RunLG P f N I0 R c gt g M l.toArray (⟨some dst, op, ty, pos, after, some (j, want)⟩ :: rest) k := by
 constructor
 intro I a w b cs hb hk hl hs hst hi
 have hgs := hs.slot gs _ hg
 have hN' : dst < N := by simpa [Nat.blt_eq] using hN
 have hy : yielded l.toArray a.tmps j = (match a.tmps.getD gs undef with | .bool b => some b | _ => none) := by
  simp only [yielded, List.getElem?_toArray, hj, Option.bind_some, Array.getD_eq_getD_getElem?]
  cases hx : a.tmps[gs]? with
  | none => rfl
  | some u => cases u <;> rfl
 have hans := hgd I _ hgs
 by_cases hc : c
 ·rw [if_pos hc] at h
  refine wpl_want hs.defers ?_ fun K hK => ?_
  ·simp only [Region.wanted, hy]
   exact beq_iff_eq.2 (hans.2 hc)
  ·refine (hd hc).go F I a w K _ (hst hc) (hi.perm hsel.perm.1) fun s v w' J _ hle hv hi' => hK _ _ ?_
   exact h.go J _ w' b cs hb hk (hl.trans hle) ((hs.mono hle).put (d := dIf _ d) ⟨fun _ => hv, fun hn => absurd hc hn⟩ hN') (fun _ => ((hst hc).mono hle).put hv hN') (hi'.perm (hsel.perm.2 _))
 ·rw [if_neg hc] at h
  refine wpl_skip ?_ ?_
  ·simp only [Region.wanted, hy]
   have : ¬ ((match a.tmps.getD gs undef with | .bool b => some b | _ => none) = some want) := fun e => hc (hans.1 e)
   simpa using this
  ·exact h.go I _ w b cs hb hk hl (hs.put (d := dIf _ d) ⟨fun hcc => absurd hcc hc, fun _ => rfl⟩ hN') (fun hcc => absurd hcc hc) ((hi.perm hsel.perm.1).perm (hsel.perm.2 _))
end Go.Q

namespace Go.Q
variable {P : Program} {f : FuncId} {N : Nat} {I0 : Imm} {R : Goal} {g : G} {M : List Res} {k : List Item} {dst : Option Tmp} {ty : TypeId} {pos : String} {after : Array Edge} {gd : Option (Nat × Bool)}
class Flat (d : D) : Prop where
 flat : ∀ {I J v}, d.rel I v → d.rel J v
instance (k : IntKind) (n : Int) : Flat (dInt k n) := ⟨fun h => h⟩
instance (p : Prop) : Flat (dB p) := ⟨fun h => h⟩
def whole (w : World) : Imm := ⟨fun b => w.heap[b]?, w.os, w.tape, w.output⟩
theorem le_whole {I : Imm} {w : World} (h : Inv I M w) : I.le (whole w) := ⟨h.imm, h.os, h.tape, h.output⟩
theorem row_view {I : Imm} {w : World} {α : Type} {v : Value} {T n : Nat} {f' : α → List D} {xs : List α} (h : Inv I M w) (hm : rRow v T n f' xs ∈ M) : (dSl n f' xs).rel (whole w) v := by
 obtain ⟨s, t, rfl⟩ := List.append_of_mem hm
 obtain ⟨J, _, h2, h3⟩ := row_freeze (h.perm List.perm_middle)
 exact (dSl n f' xs).mono (le_whole h3) h2
theorem run_rowForm {α : Type} {v : Value} {T n : Nat} {f' : α → List D} {xs : List α} (hm : In (rRow v T n f' xs) M) (hx : 0 < xs.length) (h : ∀ b cap, v = .slice (some ⟨b, 0, none⟩) xs.length cap → Run P f N I0 R g M k) : Run P f N I0 R g M k := by
 constructor
 intro I a w b cs hb hk hl hs hi
 obtain ⟨s, t, e⟩ := List.append_of_mem hm.mem
 have hi' := hi
 rw [e] at hi'
 rcases row_cases (hi'.perm List.perm_middle) with ⟨_, h2⟩ | ⟨b', cap, cs', h2, _⟩
 ·rw [h2] at hx; cases hx
 ·exact (h b' cap h2).go I a w b cs hb hk hl hs hi
inductive Bor (M : List Res) : List D → List D → Prop where
 | nil : Bor M [] []
 | same {d : D} {ds es : List D} : Bor M ds es → Bor M (d :: ds) (d :: es)
 | row {v : Value} {T n : Nat} {α : Type} {f' : α → List D} {xs : List α} {ds es : List D} : In (rRow v T n f' xs) M → Bor M ds es → Bor M (dVal v :: ds) (dSl n f' xs :: es)
theorem Bor.rel {I : Imm} {w : World} (h : Inv I M w) : ∀ {ds es : List D} {vs : List Value}, Bor M ds es → relL ds I vs → relL es (whole w) vs := by
 intro ds es vs hb
 induction hb generalizing vs with
 | nil => intro hr; cases vs with | nil => trivial | cons => cases hr
 | same _ ih => intro hr; cases vs with | nil => cases hr | cons => exact ⟨D.mono _ (le_whole h) hr.1, ih hr.2⟩
 | row hm _ ih =>
  intro hr
  cases vs with
  | nil => cases hr
  | cons =>
   refine ⟨?_, ih hr.2⟩
   rw [show _ = _ from hr.1]
   exact row_view h hm.mem
end Go.Q

namespace Go.Q
instance : Inhabited D := ⟨dTop⟩
end Go.Q

namespace Go.Q
variable {P : Program} {f : FuncId} {N : Nat} {I0 : Imm} {R : Goal} {g : G} {M : List Res} {k : List Item} {dst : Option Tmp} {ty : TypeId} {pos : String} {after : Array Edge} {gd : Option (Nat × Bool)}
end Go.Q

namespace Go.Q
variable {P : Program} {f : FuncId} {N : Nat} {I0 : Imm} {R : Goal} {g : G} {M : List Res} {k : List Item}
variable {dst : Option Tmp} {ty : TypeId} {pos : String} {after : Array Edge} {gd : Option (Nat × Bool)}
def rBuf (b T n : Nat) (els : List (List D)) : Res :=
 ⟨some b, fun I o => ∃ cs, o = some (.cells cs T (0, 0)) ∧ (∀ e ∈ els, e.length = n) ∧ relL els.flatten I cs.toList, fun h ⟨cs, e, h1, r⟩ => ⟨cs, e, h1, relL_mono h r⟩⟩
def sl (b n k len cap : Nat) : Value := .slice (some ⟨b, k * n, none⟩) len cap
def junk (n m : Nat) : List (List D) := List.replicate m (List.replicate n dTop)
theorem flatten_len {n : Nat} : ∀ {els : List (List D)}, (∀ e ∈ els, e.length = n) → els.flatten.length = els.length * n
 | [], _ => by simp
 | e :: els, h => by
  simp only [List.flatten_cons, List.length_append, List.length_cons, Nat.add_mul, Nat.one_mul]
  rw [flatten_len (fun x hx => h x (List.mem_cons_of_mem _ hx)), h e (List.mem_cons_self ..)]
  omega
theorem flatten_take {n : Nat} : ∀ {els : List (List D)} (i : Nat), (∀ e ∈ els, e.length = n) → (els.take i).flatten = els.flatten.take (i * n)
 | [], i, _ => by simp
 | e :: els, 0, _ => by simp
 | e :: els, i + 1, h => by
  have he := h e (List.mem_cons_self ..)
  rw [List.take_succ_cons, List.flatten_cons, flatten_take i (fun x hx => h x (List.mem_cons_of_mem _ hx)), List.flatten_cons, List.take_append]
  rw [List.take_of_length_le (l := e) (by rw [he, Nat.add_mul]; omega), he, Nat.add_mul, Nat.one_mul, Nat.add_sub_cancel]
theorem flatten_drop {n : Nat} : ∀ {els : List (List D)} (i : Nat), (∀ e ∈ els, e.length = n) → (els.drop i).flatten = els.flatten.drop (i * n)
 | [], i, _ => by simp
 | e :: els, 0, _ => by simp
 | e :: els, i + 1, h => by
  have he := h e (List.mem_cons_self ..)
  rw [List.drop_succ_cons, flatten_drop i (fun x hx => h x (List.mem_cons_of_mem _ hx)), List.flatten_cons, List.drop_append]
  rw [@List.drop_eq_nil_of_le _ e _ (by rw [he, Nat.add_mul]; omega), he, Nat.add_mul, Nat.one_mul, Nat.add_sub_cancel, List.nil_append]
theorem flatten_map {α : Type} {f' : α → List D} : ∀ {xs : List α}, (xs.map f').flatten = xs.flatMap f'
 | [] => rfl
 | x :: xs => by simp only [List.map_cons, List.flatten_cons, List.flatMap_cons, flatten_map]
theorem relL_top {I : Imm} : ∀ (vs : List Value), relL (List.replicate vs.length dTop) I vs
 | [] => trivial
 | _ :: vs => ⟨trivial, relL_top vs⟩
theorem junk_flat (n m : Nat) : (junk n m).flatten = List.replicate (m * n) dTop := by
 induction m with
 | zero => simp [junk]
 | succ m ih =>
  unfold junk at ih ⊢
  rw [List.replicate_succ, List.flatten_cons, ih, List.replicate_append_replicate, Nat.add_mul]
  congr 1
  omega
theorem junk_len {n m : Nat} : ∀ e ∈ junk n m, e.length = n := by
 intro e he
 rw [List.eq_of_mem_replicate he]
 simp
theorem row_open {α : Type} {b len cap : Nat} {T n : Nat} {f' : α → List D} {xs : List α} {I : Imm} {F : List Res} {w : World} (h : Inv I (rRow (.slice (some ⟨b, 0, none⟩) len cap) T n f' xs :: F) w) :
  len = xs.length ∧ xs.length ≤ cap ∧ cap ≤ maxLen ∧ xs.length ≤ lenMax ∧ (∀ x ∈ xs, (f' x).length = n) ∧ Inv I (rBuf b T n (xs.map f' ++ junk n (cap - xs.length)) :: F) w := by
 have h1 := h.own _ (List.mem_cons_self ..)
 obtain ⟨hb, o, h3, b', cap', cs, h4, h5, h6, h7, h8, h9, h10, h11⟩ := h1
 simp only [Value.slice.injEq, Option.some.injEq, Addr.mk.injEq] at h4 h5
 obtain ⟨⟨h4, _⟩, hl, hc⟩ := h4
 subst h4 h5 hc hl
 refine ⟨rfl, h7, h8, h9, h10, ?_⟩
 have hlen : ∀ e ∈ xs.map f' ++ junk n (cap - xs.length), e.length = n := by
  intro e he
  rcases List.mem_append.1 he with he | he
  ·obtain ⟨x, hx, rfl⟩ := List.mem_map.1 he
   exact h10 x hx
  ·exact junk_len e he
 refine ⟨h.os, h.tape, h.output, h.imm, fun r hr => ?_, h.apart⟩
 rcases List.mem_cons.1 hr with rfl | hr
 ·refine ⟨hb, _, h3, cs, rfl, hlen, ?_⟩
  rw [List.flatten_append, flatten_map, junk_flat]
  rw [← List.take_append_drop (xs.length * n) cs.toList]
  refine relL_append h11 ?_
  have : (cap - xs.length) * n = (cs.toList.drop (xs.length * n)).length := by
   rw [List.length_drop, show cs.toList.length = cap * n by simp [h6], Nat.sub_mul]
  rw [this]
  exact relL_top _
 ·exact h.own r (List.mem_cons_of_mem _ hr)
theorem row_shut {α : Type} {b len cap : Nat} {T n : Nat} {f' : α → List D} {xs : List α} {els : List (List D)} {I : Imm} {F : List Res} {w : World} (h : Inv I (rBuf b T n (xs.map f' ++ els) :: F) w)
  (hl : len = xs.length) (hc : xs.length + els.length = cap) (hm : cap ≤ maxLen) (hx : xs.length ≤ lenMax) : Inv I (rRow (.slice (some ⟨b, 0, none⟩) len cap) T n f' xs :: F) w := by
 subst hl
 obtain ⟨hb, o, h3, cs, h4, h5, h6⟩ := h.own _ (List.mem_cons_self ..)
 injection h4 with h4
 subst h4
 refine ⟨h.os, h.tape, h.output, h.imm, fun r hr => ?_, h.apart⟩
 rcases List.mem_cons.1 hr with rfl | hr
 ·have h7 : ∀ x ∈ xs, (f' x).length = n := fun x hx => h5 _ (List.mem_append_left _ (List.mem_map_of_mem hx))
  have h8 := relL_length h6
  rw [flatten_len h5, List.length_append, List.length_map, hc] at h8
  refine ⟨hb, _, h3, b, cap, cs, rfl, rfl, by simpa using h8.symm, by omega, hm, hx, h7, ?_⟩
  have h9 := relL_take (xs.length * n) h6
  rw [← flatten_take _ h5, List.take_left' (by simp)] at h9
  rwa [flatten_map] at h9
 ·exact h.own r (List.mem_cons_of_mem _ hr)
theorem own_buf {I : Imm} {b T n : Nat} {els : List (List D)} {M : List Res} {w : World} (h : Inv I M w) (hm : rBuf b T n els ∈ M) :
  ∃ cs, w.heap[b]? = some (.cells cs T (0, 0)) ∧ (∀ e ∈ els, e.length = n) ∧ relL els.flatten I cs.toList := by
 obtain ⟨_, o, h3, cs, h4, h5, h6⟩ := h.own _ hm
 injection h4 with h4
 subst h4
 exact ⟨cs, h3, h5, h6⟩
theorem buf_cells {I : Imm} {b T n : Nat} {els : List (List D)} {w : World} {cs : Array Value} (h3 : w.heap[b]? = some (.cells cs T (0, 0))) (h5 : ∀ e ∈ els, e.length = n) (h6 : relL els.flatten I cs.toList) (kk m : Nat) (hk : m ≠ 0 → kk + m ≤ els.length) :
  ((cs.toList.drop (kk * n)).take (m * n)).length = m * n ∧ relL ((els.drop kk).take m).flatten I ((cs.toList.drop (kk * n)).take (m * n)) ∧
  ∀ j u, ((cs.toList.drop (kk * n)).take (m * n))[j]? = some u → w.cell? ((⟨b, kk * n, none⟩ : Addr).add j) = some u := by
 have hl := relL_length h6
 rw [flatten_len h5] at hl
 refine ⟨?_, ?_, fun j u hj => ?_⟩
 ·rw [List.length_take, List.length_drop, ← hl]
  by_cases h0 : m = 0
  ·subst h0; simp
  ·have := Nat.mul_le_mul_right n (hk h0)
   rw [Nat.add_mul] at this
   omega
 ·rw [flatten_take _ (fun e he => h5 e (List.mem_of_mem_drop he)), flatten_drop _ h5]
  exact relL_take _ (relL_drop _ h6)
 ·rw [List.getElem?_take] at hj
  split at hj
  ·rw [List.getElem?_drop, Array.getElem?_toList] at hj
   rw [Addr.add_lit]
   simp [World.cell?, h3, hj]
  ·cases hj
def put (els : List (List D)) (kk : Nat) (new : List (List D)) : List (List D) := els.take kk ++ new ++ els.drop (kk + new.length)
theorem buf_write {I : Imm} {b T n : Nat} {els new : List (List D)} {F : List Res} {w : World} (h : Inv I (rBuf b T n els :: F) w) {cs : Array Value} (h3 : w.heap[b]? = some (.cells cs T (0, 0)))
  {vs : List Value} (hn : ∀ e ∈ new, e.length = n) (hv : relL new.flatten I vs) (kk : Nat) (hk : kk + new.length ≤ els.length) :
  kk * n + vs.length ≤ cs.size ∧ Inv I (rBuf b T n (put els kk new) :: F) (w.setRow b (cs.toList.take (kk * n) ++ vs ++ cs.toList.drop (kk * n + vs.length)).toArray) := by
 obtain ⟨cs', h3', h5, h6⟩ := own_buf h (List.mem_cons_self ..)
 rw [h3] at h3'
 injection h3' with h3'
 injection h3' with h3'
 subst h3'
 have hl := relL_length h6
 rw [flatten_len h5] at hl
 have hvl := relL_length hv
 rw [flatten_len hn] at hvl
 have hle := Nat.mul_le_mul_right n hk
 rw [Nat.add_mul] at hle
 refine ⟨by rw [← hvl]; simp at hl; omega, ?_⟩
 refine h.write (b := b) rfl rfl rfl rfl rfl (fun c hc _ => setRow_other w b c _ hc) (setRow_heap w b cs _ T _ h3) ⟨_, rfl, fun e he => ?_, ?_⟩
 ·unfold put at he
  rcases List.mem_append.1 he with he | he
  ·rcases List.mem_append.1 he with he | he
   ·exact h5 e (List.mem_of_mem_take he)
   ·exact hn e he
  ·exact h5 e (List.mem_of_mem_drop he)
 ·unfold put
  rw [List.flatten_append, List.flatten_append, flatten_take _ h5, flatten_drop _ h5]
  refine relL_append (relL_append (relL_take _ h6) hv) ?_
  rw [← hvl, Nat.add_mul]
  exact relL_drop _ h6

section
variable {x y z lo hi mx : Operand} {t e : TypeId} {agg : Bool} {n : Nat} {b kk len cap : Nat} {kd kd' kd2 : IntKind} {i j m : Int}
theorem loc_sliceOwnFrom [ht : TySl P t e] [hv : TyV P e agg n] (hx : opd g x = some (dVal (sl b n kk len cap))) (hy : opd g lo = some (dInt kd i)) (h : 0 ≤ i ∧ i ≤ len ∧ len ≤ cap) :
  LocP P ⟨dst, .slice t x (some lo) none none, ty, pos, after, gd⟩ g N M (dVal (sl b n (if cap = i.toNat then kk else kk + i.toNat) (len - i.toNat) (cap - i.toNat))) :=
 locP_of_run fun I a w hs hinv => by
  have hp : a.eval x = .slice (some ⟨b, kk * n, none⟩) len cap := opd_sound hs hx
  have hlo : a.eval lo = .int kd i := opd_sound hs hy
  have hb1 : (0 ≤ i ∧ i ≤ (len : Int)) := by omega
  refine ⟨sl b n (if cap = i.toNat then kk else kk + i.toNat) (len - i.toNat) (cap - i.toNat), ?_, rfl⟩
  by_cases hc : cap = i.toNat
  ·simp [execOp, Instr.sliceAt, Instr.slice, hp, hlo, run_underlying ht.eq, Instr.sliceBounds, Instr.sliceBound, asIntOf, hb1, run_sizeOf hv, hc, sl]
  ·simp [execOp, Instr.sliceAt, Instr.slice, hp, hlo, run_underlying ht.eq, Instr.sliceBounds, Instr.sliceBound, asIntOf, hb1, run_sizeOf hv, hc, sl, Addr.add_lit, Nat.add_mul]
theorem loc_sliceOwnTo [ht : TySl P t e] [hv : TyV P e agg n] (hx : opd g x = some (dVal (sl b n kk len cap))) (hy : opd g hi = some (dInt kd j)) (h : 0 ≤ j ∧ j ≤ cap) :
  LocP P ⟨dst, .slice t x none (some hi) none, ty, pos, after, gd⟩ g N M (dVal (sl b n kk j.toNat cap)) :=
 locP_of_run fun I a w hs hinv => by
  have hp : a.eval x = .slice (some ⟨b, kk * n, none⟩) len cap := opd_sound hs hx
  have hlo : a.eval hi = .int kd j := opd_sound hs hy
  have hb1 : (0 ≤ j ∧ j ≤ (cap : Int)) := by omega
  have hadd : (⟨b, kk * n, none⟩ : Addr).add 0 = ⟨b, kk * n, none⟩ := by rw [Addr.add_lit]; rfl
  refine ⟨sl b n kk j.toNat cap, ?_, rfl⟩
  simp [execOp, Instr.sliceAt, Instr.slice, hp, hlo, run_underlying ht.eq, Instr.sliceBounds, Instr.sliceBound, asIntOf, hb1, run_sizeOf hv, sl, hadd]
theorem loc_sliceOwn [ht : TySl P t e] [hv : TyV P e agg n] (hx : opd g x = some (dVal (sl b n kk len cap))) (hy : opd g lo = some (dInt kd i)) (hz : opd g hi = some (dInt kd' j)) (h : 0 ≤ i ∧ i ≤ j ∧ j ≤ cap) :
  LocP P ⟨dst, .slice t x (some lo) (some hi) none, ty, pos, after, gd⟩ g N M (dVal (sl b n (if cap = i.toNat then kk else kk + i.toNat) (j.toNat - i.toNat) (cap - i.toNat))) :=
 locP_of_run fun I a w hs hinv => by
  have hp : a.eval x = .slice (some ⟨b, kk * n, none⟩) len cap := opd_sound hs hx
  have hlo : a.eval lo = .int kd i := opd_sound hs hy
  have hhi : a.eval hi = .int kd' j := opd_sound hs hz
  have hb1 : (0 ≤ j ∧ j ≤ (cap : Int)) := by omega
  have hb2 : (0 ≤ i ∧ i ≤ max j 0) := by omega
  refine ⟨sl b n (if cap = i.toNat then kk else kk + i.toNat) (j.toNat - i.toNat) (cap - i.toNat), ?_, rfl⟩
  by_cases hc : cap = i.toNat
  ·simp [execOp, Instr.sliceAt, Instr.slice, hp, hlo, hhi, run_underlying ht.eq, Instr.sliceBounds, Instr.sliceBound, asIntOf, hb1, hb2, run_sizeOf hv, eq_true hc, sl]
  ·simp [execOp, Instr.sliceAt, Instr.slice, hp, hlo, hhi, run_underlying ht.eq, Instr.sliceBounds, Instr.sliceBound, asIntOf, hb1, hb2, run_sizeOf hv, hc, sl, Addr.add_lit, Nat.add_mul]
theorem loc_sliceOwn3 [ht : TySl P t e] [hv : TyV P e agg n] (hx : opd g x = some (dVal (sl b n kk len cap))) (hy : opd g lo = some (dInt kd i)) (hz : opd g hi = some (dInt kd' j)) (hm : opd g mx = some (dInt kd2 m)) (h : 0 ≤ i ∧ i ≤ j ∧ j ≤ m ∧ m ≤ cap) :
  LocP P ⟨dst, .slice t x (some lo) (some hi) (some mx), ty, pos, after, gd⟩ g N M dTop :=
 locP_of_run fun I a w hs hinv => by
  have hp : a.eval x = .slice (some ⟨b, kk * n, none⟩) len cap := opd_sound hs hx
  have hlo : a.eval lo = .int kd i := opd_sound hs hy
  have hhi : a.eval hi = .int kd' j := opd_sound hs hz
  have hmx : a.eval mx = .int kd2 m := opd_sound hs hm
  have hb1 : (0 ≤ m ∧ m ≤ (cap : Int)) := by omega
  have hb2 : (0 ≤ j ∧ j ≤ max m 0) := by omega
  have hb3 : (0 ≤ i ∧ i ≤ max j 0) := by omega
  exact ⟨_, by simp [execOp, Instr.sliceAt, Instr.slice, hp, hlo, hhi, hmx, run_underlying ht.eq, Instr.sliceBounds, Instr.sliceBound, asIntOf, hb1, hb2, hb3, run_sizeOf hv]; rfl, trivial⟩
theorem loc_lenOwn [ht : TySl P t e] (hx : opd g x = some (dVal (sl b n kk len cap))) : LocP P ⟨dst, .call ⟨.builtin .len, #[x], #[t]⟩, ty, pos, after, gd⟩ g N M (dInt .i64 (len : Nat)) :=
 locP_of_run fun I a w hs hi => by
  have hp : a.eval x = .slice (some ⟨b, kk * n, none⟩) len cap := opd_sound hs hx
  exact ⟨.int .i64 len, by simp [execOp, resolve, invoke, builtin, Builtin.len_, hp, run_underlying ht.eq, goInt], rfl⟩
theorem loc_capOwn [ht : TySl P t e] (hx : opd g x = some (dVal (sl b n kk len cap))) : LocP P ⟨dst, .call ⟨.builtin .cap, #[x], #[t]⟩, ty, pos, after, gd⟩ g N M (dInt .i64 (cap : Nat)) :=
 locP_of_run fun I a w hs hi => by
  have hp : a.eval x = .slice (some ⟨b, kk * n, none⟩) len cap := opd_sound hs hx
  exact ⟨.int .i64 cap, by simp [execOp, resolve, invoke, builtin, Builtin.cap_, hp, run_underlying ht.eq, goInt], rfl⟩

theorem loc_indexOwn [ht : TySl P t e] [hv : TyV P e agg n] (hx : opd g x = some (dVal (sl b n kk len cap))) (hy : opd g y = some (dInt kd i)) (hi : 0 ≤ i ∧ i < len) :
  LocP P ⟨dst, .indexAddr t x y, ty, pos, after, gd⟩ g N M (dVal (ptr b ((kk + i.toNat) * n))) :=
 locP_of_run fun I a w hs hinv => by
  have hp : a.eval x = .slice (some ⟨b, kk * n, none⟩) len cap := opd_sound hs hx
  have hlo : a.eval y = .int kd i := opd_sound hs hy
  refine ⟨ptr b ((kk + i.toNat) * n), ?_, rfl⟩
  simp [execOp, Instr.indexAt, hp, hlo, asIntOf, run_underlying ht.eq, hi, run_sizeOf hv, ptr, Addr.add_lit, Nat.add_mul]
theorem loc_loadBufN [ht : TyV P t true n] {T : TypeId} {els : List (List D)} {ds : List D} {q : Nat} (hx : opd g x = some (dVal (ptr b (q * n)))) (hm : In (rBuf b T n els) M) (hd : els[q]? = some ds) :
  LocP P ⟨dst, .load t x, ty, pos, after, gd⟩ g N M (dAgg ds) :=
 locP_of_run fun I a w hs hi => by
  have hp : a.eval x = .pointer (some ⟨b, q * n, none⟩) := opd_sound hs hx
  obtain ⟨cs, h3, h5, h6⟩ := own_buf hi hm.mem
  have hq := (List.getElem?_eq_some_iff.1 hd).1
  obtain ⟨e1, e2, e3⟩ := buf_cells h3 h5 h6 q 1 (by omega)
  have e4 : (els.drop q).take 1 = [ds] := by
   rw [List.drop_eq_getElem_cons hq]
   rw [List.getElem?_eq_getElem hq] at hd
   injection hd with hd
   rw [hd]; rfl
  rw [e4, List.flatten_singleton] at e2
  have h8 := run_loadCells_list (P := P) w _ _ e3
  rw [e1, Nat.one_mul] at h8
  rw [Nat.one_mul] at e2
  exact ⟨.agg ((cs.toList.drop (q * n)).take n).toArray, by simp [execOp, hp, Instr.loadAt, Instr.sureAddr, loadVar, run_isAgg ht, run_sizeOf ht, h8], _, rfl, by simpa using e2⟩
theorem put_one {els : List (List D)} {q : Nat} {ds : List D} (h : q < els.length) : put els q [ds] = els.set q ds := by
 unfold put
 rw [List.set_eq_take_append_cons_drop, if_pos h]
 simp
theorem loc_storeBuf1 [ht : TyV P t false 1] {T : TypeId} {els : List (List D)} {d : D} [ho : One d] {q : Nat} (hx : opd g x = some (dVal (ptr b (q * 1)))) (hy : opd g y = some d) (hq : q < els.length) :
  LocM P ⟨none, .store t x y, ty, pos, after, gd⟩ g N [rBuf b T 1 els] (fun _ : Unit => True) (fun _ => dTop) (fun _ => [rBuf b T 1 (els.set q [d])]) := by
 constructor
 intro F I a w K Q hs hi hK
 have hp : a.eval x = .pointer (some ⟨b, q * 1, none⟩) := opd_sound hs hx
 have hd := opd_sound hs hy
 have h1 := ho.one hd
 obtain ⟨cs, h3, h5, h6⟩ := own_buf hi (List.mem_cons_self ..)
 have hnew : ∀ e ∈ ([[d]] : List (List D)), e.length = 1 := by intro e he; rw [List.mem_singleton.1 he]; rfl
 obtain ⟨w1, w2⟩ := buf_write hi h3 (vs := [a.eval y]) hnew ⟨hd, trivial⟩ q (by simp; omega)
 have hst := run_storeCells_at P b (q * 1) T [a.eval y] 0 cs w h3 (by simpa using w1) (by simpa using h1.2)
 simp only [Nat.add_zero] at hst
 unfold Oper.wp
 have hrun : (execOp a.eval ⟨none, .store t x y, ty, pos, after, gd⟩).run P w = .ok .skip (w.setRow b (cs.toList.take (q * 1) ++ [a.eval y] ++ cs.toList.drop (q * 1 + [a.eval y].length)).toArray) := by
  simp only [execOp, hp, Instr.storeAt, Instr.sureAddr, storeVar, Sem.run_bind, Sem.run_pure, Result.andThen_ok, run_sizeOf ht, h1.1, List.size_toArray, List.length_singleton, ne_eq, not_true_eq_false, if_false, hst]
 rw [hrun]
 refine hK () undef _ I trivial I.le_refl trivial ?_
 rw [put_one hq] at w2
 exact w2
theorem loc_storeBufN [ht : TyV P t true n] {T : TypeId} {els : List (List D)} {ds : List D} [ho : OneAll ds] {q : Nat} (hx : opd g x = some (dVal (ptr b (q * n)))) (hy : opd g y = some (dAgg ds)) (hq : q < els.length) (hn : Nat.beq ds.length n = true) :
  LocM P ⟨none, .store t x y, ty, pos, after, gd⟩ g N [rBuf b T n els] (fun _ : Unit => True) (fun _ => dTop) (fun _ => [rBuf b T n (els.set q ds)]) := by
 constructor
 intro F I a w K Q hs hi hK
 have hp : a.eval x = .pointer (some ⟨b, q * n, none⟩) := opd_sound hs hx
 obtain ⟨us, hyv, hd⟩ := opd_sound hs hy
 obtain ⟨cs, h3, h5, h6⟩ := own_buf hi (List.mem_cons_self ..)
 have hdn := Nat.eq_of_beq_eq_true hn
 have hnew : ∀ e ∈ ([ds] : List (List D)), e.length = n := by intro e he; rw [List.mem_singleton.1 he]; exact hdn
 obtain ⟨w1, w2⟩ := buf_write hi h3 (vs := us.toList) hnew (by simpa using hd) q (by simp; omega)
 have hst := run_storeCells_at P b (q * n) T us.toList 0 cs w h3 (by simpa using w1) (ho.all hd)
 simp only [Nat.add_zero] at hst
 have hsz : us.size = n := by have := relL_length hd; simp at this; omega
 have hcc : (Value.agg us).cells = us := rfl
 unfold Oper.wp
 have hrun : (execOp a.eval ⟨none, .store t x y, ty, pos, after, gd⟩).run P w = .ok .skip (w.setRow b (cs.toList.take (q * n) ++ us.toList ++ cs.toList.drop (q * n + us.toList.length)).toArray) := by
  simp only [execOp, hp, hyv, Instr.storeAt, Instr.sureAddr, storeVar, Sem.run_bind, Sem.run_pure, Result.andThen_ok, run_sizeOf ht, hcc, hsz, ne_eq, not_true_eq_false, if_false, hst]
 rw [hrun]
 refine hK () undef _ I trivial I.le_refl trivial ?_
 rw [put_one hq] at w2
 exact w2
end

theorem exec_copy {a : Act} {x y : Operand} {t t' : TypeId} {u v r : Value} {w w' : World} (hp : a.eval x = u) (hq : a.eval y = v) (hr : (Builtin.copy_ #[t, t'] ty #[u, v]).run P w = .ok r w') :
  (execOp a.eval ⟨dst, .call ⟨.builtin .copy, #[x, y], #[t, t']⟩, ty, pos, after, gd⟩).run P w = .ok (.value r) w' := by
 simp only [execOp, resolve, invoke, builtin, Sem.run_bind, Sem.run_pure, Result.andThen_ok, List.map_toArray, List.map_cons, List.map_nil, hp, hq, hr]
theorem exec_append {a : Act} {x y : Operand} {t t' : TypeId} {u v r : Value} {w w' : World} (hp : a.eval x = u) (hq : a.eval y = v) (hr : (Builtin.append_ #[t, t'] ty #[u, v]).run P w = .ok r w') :
  (execOp a.eval ⟨dst, .call ⟨.builtin .append, #[x, y], #[t, t']⟩, ty, pos, after, gd⟩).run P w = .ok (.value r) w' := by
 simp only [execOp, resolve, invoke, builtin, Sem.run_bind, Sem.run_pure, Result.andThen_ok, List.map_toArray, List.map_cons, List.map_nil, hp, hq, hr]
theorem exec_clear {a : Act} {x : Operand} {t : TypeId} {u r : Value} {w w' : World} (hp : a.eval x = u) (hr : (Builtin.clear_ #[t] ty #[u]).run P w = .ok r w') :
  (execOp a.eval ⟨dst, .call ⟨.builtin .clear, #[x], #[t]⟩, ty, pos, after, gd⟩).run P w = .ok (.value r) w' := by
 simp only [execOp, resolve, invoke, builtin, Sem.run_bind, Sem.run_pure, Result.andThen_ok, List.map_toArray, List.map_cons, List.map_nil, hp, hr]
theorem one_flat {I : Imm} : ∀ {ls : List (List D)} {vs : List Value}, (∀ e ∈ ls, OneAll e) → relL ls.flatten I vs → ∀ u ∈ vs, u.oneCell' = true
 | [], [], _, _, u, hu => by cases hu
 | [], _ :: _, _, h, _, _ => by cases h
 | e :: ls, vs, ho, hr, u, hu => by
  rw [List.flatten_cons] at hr
  have g1 := relL_take e.length hr
  have g2 := relL_drop e.length hr
  rw [List.take_left] at g1
  rw [List.drop_left] at g2
  rcases List.mem_append.1 (show u ∈ vs.take e.length ++ vs.drop e.length by rw [List.take_append_drop]; exact hu) with hu | hu
  ·exact (ho e (List.mem_cons_self ..)).all g1 u hu
  ·exact one_flat (fun e he => ho e (List.mem_cons_of_mem _ he)) g2 u hu
section
variable {x y : Operand} {t t' e : TypeId} {agg : Bool} {n : Nat} {b b' kk kk' len len' cap cap' : Nat} {T : TypeId} {els els' : List (List D)}
theorem run_copyTo {w : World} {cs : Array Value} {sz : Nat} (ht : P.underlying t = some (.slice e)) (hsz : ∀ w, (sizeOf e).run P w = .ok sz w) (h3 : w.heap[b]? = some (.cells cs T (0, 0)))
  {p : Addr} {ls cp o ld : Nat} {vs : List Value} (hl : vs.length = (min ls ld) * sz) (hv : ∀ j u, vs[j]? = some u → w.cell? (p.add j) = some u) (h1 : ∀ u ∈ vs, u.oneCell' = true) (hfit : o + vs.length ≤ cs.size) :
  (Builtin.copy_ #[t, t'] ty #[.slice (some ⟨b, o, none⟩) ld cap, .slice (some p) ls cp]).run P w = .ok (goInt (min ls ld : Nat)) (w.setRow b (cs.toList.take o ++ vs ++ cs.toList.drop (o + vs.length)).toArray) := by
 have hf := run_firstCells_some (P := P) w sz (min ls ld) p ls cp vs hl hv
 have hst := run_storeCells_at P b o T vs 0 cs w h3 (by simpa using hfit) h1
 simp only [Nat.add_zero] at hst
 have hf' : (Builtin.firstCells sz (Nat.min ls ld) (.slice (some p) ls cp)).run P w = .ok vs.toArray w := hf
 simp only [Builtin.copy_, Sem.run_bind, Sem.run_pure, Result.andThen_ok, List.getElem?_toArray, List.getElem?_cons_zero, List.getElem?_cons_succ, run_underlying ht, Builtin.lenOf, hsz, hf', hst]
theorem min_zero_copy {w : World} {sz : Nat} (ht : P.underlying t = some (.slice e)) (hsz : ∀ w, (sizeOf e).run P w = .ok sz w) {d s : Option Addr} {ld ls cd cp : Nat} (h0 : min ls ld = 0) :
  (Builtin.copy_ #[t, t'] ty #[.slice d ld cd, .slice s ls cp]).run P w = .ok (goInt (0 : Nat)) w := by
 have hl : ∀ a, (loadCells a 0).run P w = .ok #[] w := fun a => by simpa using run_loadCells_list (P := P) w a [] (by simp)
 have h0' : Nat.min ls ld = 0 := h0
 cases d <;> cases s <;> simp [Builtin.copy_, run_underlying ht, Builtin.lenOf, hsz, h0', Builtin.firstCells, hl, storeCells]
theorem loc_copyOwn [ht : TySl P t e] [hv : TyV P e agg n] (hx : opd g x = some (dVal (sl b n kk len cap))) (hy : opd g y = some (dVal (sl b n kk' len' cap')))
  (h1 : min len' len ≠ 0 → kk + min len' len ≤ els.length ∧ kk' + min len' len ≤ els.length) (ho : ∀ e ∈ (els.drop kk').take (min len' len), OneAll e) :
  LocM P ⟨dst, .call ⟨.builtin .copy, #[x, y], #[t, t']⟩, ty, pos, after, gd⟩ g N [rBuf b T n els] (fun _ : Unit => True) (fun _ => dInt .i64 (min len' len : Nat)) (fun _ => [rBuf b T n (put els kk ((els.drop kk').take (min len' len)))]) := by
 constructor
 intro F I a w K Q hs hi hK
 have hp : a.eval x = .slice (some ⟨b, kk * n, none⟩) len cap := opd_sound hs hx
 have hq : a.eval y = .slice (some ⟨b, kk' * n, none⟩) len' cap' := opd_sound hs hy
 obtain ⟨cs, h3, h5, h6⟩ := own_buf hi (List.mem_cons_self ..)
 unfold Oper.wp
 by_cases h0 : min len' len = 0
 ·rw [exec_copy hp hq (min_zero_copy (P := P) (w := w) ht.eq (run_sizeOf hv) h0)]
  refine hK () _ _ I trivial I.le_refl (by rw [h0]; rfl) ?_
  rw [h0]
  simpa [put] using hi
 ·obtain ⟨e1, e2, e3⟩ := buf_cells h3 h5 h6 kk' (min len' len) (fun h => (h1 h).2)
  have hlen : ((els.drop kk').take (min len' len)).length = min len' len := by rw [List.length_take, List.length_drop]; have := (h1 h0).2; omega
  obtain ⟨w1, w2⟩ := buf_write hi h3 (new := (els.drop kk').take (min len' len)) (fun e he => h5 e (List.mem_of_mem_drop (List.mem_of_mem_take he))) e2 kk (by rw [hlen]; exact (h1 h0).1)
  rw [exec_copy hp hq (run_copyTo (P := P) ht.eq (run_sizeOf hv) h3 e1 e3 (one_flat ho e2) w1)]
  exact hK () _ _ I trivial I.le_refl rfl w2
theorem loc_copyImm [ht : TySl P t e] [hv : TyV P e agg n] {α : Type} {f' : α → List D} {ys : List α} [h1 : ∀ x, OneAll (f' x)] (hx : opd g x = some (dVal (sl b n kk len cap))) (hy : opd g y = some (dSl n f' ys))
  (h2 : min ys.length len ≠ 0 → kk + min ys.length len ≤ els.length) :
  LocM P ⟨dst, .call ⟨.builtin .copy, #[x, y], #[t, t']⟩, ty, pos, after, gd⟩ g N [rBuf b T n els] (fun _ : Unit => True) (fun _ => dInt .i64 (min ys.length len : Nat)) (fun _ => [rBuf b T n (put els kk ((ys.take (min ys.length len)).map f'))]) := by
 constructor
 intro F I a w K Q hs hi hK
 have hp : a.eval x = .slice (some ⟨b, kk * n, none⟩) len cap := opd_sound hs hx
 obtain ⟨ad, cp, hq, q1, q2, q3, q4⟩ := opd_sound hs hy
 obtain ⟨cs, h3, h5, h6⟩ := own_buf hi (List.mem_cons_self ..)
 unfold Oper.wp
 by_cases h0 : min ys.length len = 0
 ·rw [exec_copy hp hq (min_zero_copy (P := P) (w := w) ht.eq (run_sizeOf hv) h0)]
  refine hK () _ _ I trivial I.le_refl (by rw [h0]; rfl) ?_
  rw [h0]
  simpa [put] using hi
 ·have hel : ∀ i x, (ys.take (min ys.length len))[i]? = some x → (f' x).length = n ∧ ∃ p, ad = some p ∧ p.spot = none ∧ I.at (p.add (i * n)) (f' x) := by
   intro i x hx
   rw [List.getElem?_take] at hx
   split at hx
   ·exact q4 i x hx
   ·cases hx
  have hi0 : Inv I (rBuf b T n els :: F) w := hi
  obtain ⟨vs, v1, v2, v3⟩ := dSl_cells hi0 (a := ad) (xs := ys.take (min ys.length len)) 0 (by simpa using hel)
  have hlen : (ys.take (min ys.length len)).length = min ys.length len := by rw [List.length_take]; omega
  rw [hlen] at v1
  obtain ⟨x0, hx0⟩ : ∃ x0, (ys.take (min ys.length len))[0]? = some x0 := ⟨_, List.getElem?_eq_getElem (by rw [hlen]; omega)⟩
  obtain ⟨_, p, hap, _⟩ := hel 0 x0 hx0
  subst hap
  have v4 : ∀ j u, vs[j]? = some u → w.cell? (p.add j) = some u := by simpa using v3 p rfl
  obtain ⟨w1, w2⟩ := buf_write hi h3 (new := (ys.take (min ys.length len)).map f') (fun e he => by
   obtain ⟨x, hx, rfl⟩ := List.mem_map.1 he
   obtain ⟨i, hi⟩ := List.getElem?_of_mem hx
   exact (hel i x hi).1) (by rw [flatten_map]; exact v2) kk (by rw [List.length_map, hlen]; exact h2 h0)
  rw [exec_copy hp hq (run_copyTo (P := P) ht.eq (run_sizeOf hv) h3 v1 v4 (oneAll_flat h1 v2) w1)]
  exact hK () _ _ I trivial I.le_refl rfl w2
theorem loc_appendOwn [ht : TySl P t e] [hv : TyV P e agg n] (hx : opd g x = some (dVal (sl b n 0 len cap))) (hy : opd g y = some (dVal (sl b n kk' len' cap')))
  (h1 : len + len' ≤ cap ∧ cap ≤ els.length) (h2 : len' ≠ 0 → kk' + len' ≤ els.length) (hT : T = e) (ho : ∀ e ∈ (els.drop kk').take len', OneAll e) :
  LocM P ⟨dst, .call ⟨.builtin .append, #[x, y], #[t, t]⟩, ty, pos, after, gd⟩ g N [rBuf b T n els] (fun _ : Unit => True) (fun _ => dVal (sl b n 0 (len + len') cap)) (fun _ => [rBuf b T n (put els len ((els.drop kk').take len'))]) := by
 subst hT
 constructor
 intro F I a w K Q hs hi hK
 have hp : a.eval x = .slice (some ⟨b, 0, none⟩) len cap := by have : a.eval x = .slice (some ⟨b, 0 * n, none⟩) len cap := opd_sound hs hx; simpa using this
 have hq : a.eval y = .slice (some ⟨b, kk' * n, none⟩) len' cap' := opd_sound hs hy
 obtain ⟨cs, h3, h5, h6⟩ := own_buf hi (List.mem_cons_self ..)
 unfold Oper.wp
 have hsz := hv.size_eq
 cases hin : P.info? T with
 | none => simp [hin] at hsz
 | some i =>
  simp only [hin, Option.map_some, Option.some.injEq] at hsz
  subst hsz
  obtain ⟨e1, e2, e3⟩ := buf_cells h3 h5 h6 kk' len' h2
  have hlen : ((els.drop kk').take len').length = len' := by
   rw [List.length_take, List.length_drop]
   by_cases h0 : len' = 0
   ·omega
   ·have := h2 h0; omega
  obtain ⟨w1, w2⟩ := buf_write hi h3 (new := (els.drop kk').take len') (fun e he => h5 e (List.mem_of_mem_drop (List.mem_of_mem_take he))) e2 len (by rw [hlen]; omega)
  rw [exec_append hp hq (run_append_room (P := P) w t ty T i ht.eq hin b len cap cs h3 _ len' cap' _ e1 e3 (one_flat ho e2) h1.1 w1)]
  refine hK () _ _ I trivial I.le_refl (by simp [sl, dVal]) w2
theorem size_zeroCells' (z : Array Value) (m : Nat) : (Builtin.zeroCells z m).size = m * z.size := by simp [Builtin.zeroCells]
theorem loc_clearOwn [ht : TySl P t e] {bytes : Nat} {z : Value} [hz : TyZ P e bytes z] [hv : TyV P e agg n] (hx : opd g x = some (dVal (sl b n kk len cap))) (h1 : len ≠ 0 → kk + len ≤ els.length) (hzn : z.cells.size = n) (hzo : ∀ u ∈ z.cells.toList, u.oneCell' = true) :
  LocM P ⟨dst, .call ⟨.builtin .clear, #[x], #[t]⟩, ty, pos, after, gd⟩ g N [rBuf b T n els] (fun _ : Unit => True) (fun _ => dTop) (fun _ => [rBuf b T n (if len = 0 then els else put els kk (junk n len))]) := by
 constructor
 intro F I a w K Q hs hi hK
 have hp : a.eval x = .slice (some ⟨b, kk * n, none⟩) len cap := opd_sound hs hx
 obtain ⟨cs, h3, h5, h6⟩ := own_buf hi (List.mem_cons_self ..)
 obtain ⟨i, hin, hiz, his, hib⟩ := info_of_z hz hv
 unfold Oper.wp
 by_cases h0 : len = 0
 ·subst h0
  rw [exec_clear (r := .tuple #[]) (w' := w) hp (by simp [Builtin.clear_, run_underlying ht.eq])]
  exact hK () _ _ I trivial I.le_refl trivial (by simpa using hi)
 ·obtain ⟨m, rfl⟩ := Nat.exists_eq_succ_of_ne_zero h0
  have hvl : (Builtin.zeroCells z.cells (m + 1)).toList.length = (m + 1) * n := by rw [Array.length_toList, size_zeroCells', hzn]
  have hjl : (junk n (m + 1)).length = m + 1 := by simp [junk]
  have hrel : relL (junk n (m + 1)).flatten I (Builtin.zeroCells z.cells (m + 1)).toList := by
   rw [junk_flat, ← hvl]
   exact relL_top _
  obtain ⟨w1, w2⟩ := buf_write hi h3 (new := junk n (m + 1)) junk_len hrel kk (by rw [hjl]; exact h1 h0)
  have hone : ∀ u ∈ (Builtin.zeroCells z.cells (m + 1)).toList, u.oneCell' = true := by
   intro u hu
   simp only [Builtin.zeroCells, Array.toList_map, Array.toList_range, List.mem_map, List.mem_range] at hu
   obtain ⟨j, hj, rfl⟩ := hu
   by_cases hzc : z.cells.size = 0
   ·rw [hzc] at hj; omega
   ·have hlt : j % z.cells.size < z.cells.size := Nat.mod_lt _ (by omega)
    rw [getElem!_pos z.cells _ hlt]
    exact hzo _ (by simp)
  have hst := run_storeCells_at P b (kk * n) T _ 0 cs w h3 (by simpa using w1) hone
  simp only [Nat.add_zero] at hst
  have hzv : (zeroValue e).run P w = .ok z w := by simp [zeroValue, typeInfo, hin, hiz]
  rw [exec_clear (r := .tuple #[]) (w' := w.setRow b (cs.toList.take (kk * n) ++ (Builtin.zeroCells z.cells (m + 1)).toList ++ cs.toList.drop (kk * n + (Builtin.zeroCells z.cells (m + 1)).toList.length)).toArray) hp (by
   simp only [Builtin.clear_, Sem.run_bind, Sem.run_pure, Result.andThen_ok, List.getElem?_toArray, List.getElem?_cons_zero, run_underlying ht.eq, hzv, hst])]
  rw [if_neg h0] at hK
  exact hK () _ _ I trivial I.le_refl trivial w2
end

section
variable {x y : Operand} {t t' e : TypeId} {agg : Bool} {n : Nat} {b kk len cap : Nat} {T : TypeId} {els : List (List D)}
theorem loc_appendZeros [ht : TySl P t e] {bytes : Nat} {z : Value} [hz : TyZ P e bytes z] [hv : TyV P e agg n] [hi64 : TyInt P t' .i64] {m : Nat} (hx : opd g x = some (dVal (sl b n kk len cap))) (hy : opd g y = some (dInt .i64 (m : Nat)))
  (h1 : cap < len + m ∧ 0 < m ∧ 0 < n) (h2 : kk + len ≤ els.length) (hzn : z.cells.size = n) (hb : (len + m) * bytes ≤ 140737488355328) (hl : len + m ≤ lenMax) :
  LocM P ⟨dst, .call ⟨.builtin .append, #[x, y], #[t, t']⟩, ty, pos, after, gd⟩ g N [rBuf b T n els] (fun s : Nat × Nat => len + m ≤ s.2 ∧ s.2 ≤ maxLen) (fun s => dVal (sl s.1 n 0 (len + m) s.2)) (fun s => [rBuf s.1 e n ((els.drop kk).take len ++ junk n (s.2 - len)), rBuf b T n els]) := by
 constructor
 intro F I a w K Q hs hi hK
 have hp : a.eval x = .slice (some ⟨b, kk * n, none⟩) len cap := opd_sound hs hx
 have hq : a.eval y = .int .i64 m := opd_sound hs hy
 obtain ⟨cs, h3, h5, h6⟩ := own_buf hi (List.mem_cons_self ..)
 obtain ⟨i, hin, hiz, his, hib⟩ := info_of_z hz hv
 subst his hib
 obtain ⟨e1, e2, e3⟩ := buf_cells h3 h5 h6 kk len (fun _ => h2)
 have hge := grownCap_ge w (len + m) cap e
 have hcm := grownCap_le_maxLen w (len + m) cap e (by unfold lenMax at hl; simp only [maxLen]; omega)
 have hfit : Builtin.nextslicecap (len + m) cap * i.bytes ≤ 281474976710656 := growslice_fits (by omega) hb
 have hrun : (Builtin.append_ #[t, t'] ty #[.slice (some ⟨b, kk * i.size, none⟩) len cap, .int .i64 m]).run P w =
   .ok (.slice (some ⟨w.heap.size, 0, none⟩) (len + m) (grownCap w (len + m) cap e))
    (w.drew.alloc (.cells (((cs.toList.drop (kk * i.size)).take (len * i.size)).toArray ++ Builtin.zeroCells z.cells m ++ Builtin.zeroCells z.cells (grownCap w (len + m) cap e - (len + m))) e)) := by
  have hn : ¬ (len + m ≤ cap) := by omega
  have hw : IntKind.i64.wrap (m : Int) = m := by rw [IntWalk.i64_in _ (by unfold lenMax at hl; omega)]
  have h63' : ¬ (9223372036854775807 < ((len : Int) + (m : Int))) := by unfold lenMax at hl; omega
  have h48' : ¬ (281474976710656 < Builtin.nextslicecap (len + m) cap * i.bytes) := by omega
  have hmb : m * i.bytes ≤ 140737488355328 := Nat.le_trans (Nat.mul_le_mul_right _ (by omega)) hb
  have h48i : ¬ (281474976710656 < (m : Int) * (i.bytes : Int)) := by rw [← Int.natCast_mul]; omega
  have hneg : ¬ ((m : Int) < 0) := by omega
  have hns : ¬ (m * i.size = 0) := Nat.mul_ne_zero (by omega) (by omega)
  have hfo := run_firstCells_some (P := P) w.drew i.size len ⟨b, kk * i.size, none⟩ len cap _ e1 (by simpa using e3)
  simp [Builtin.append_, run_underlying ht.eq, run_underlying hi64.eq, sizeOf, typeInfo, zeroValue, hin, hiz, asInt, asIntOf, hw, hn, hneg, hns, h63', h48', h48i, Question.forced, hfo, newRow, grownCap]
 unfold Oper.wp
 rw [exec_append hp hq hrun]
 have hd : Inv I (rBuf b T i.size els :: F) w.drew := Inv.of_eq hi rfl rfl rfl rfl
 refine hK (w.heap.size, grownCap w (len + m) cap e) _ _ I ⟨by simpa using hge, hcm⟩ I.le_refl (by simp [sl, dVal]) ?_
 have hlen : ((els.drop kk).take len).length = len := by rw [List.length_take, List.length_drop]; omega
 refine hd.allocOwn _ _ rfl ⟨_, rfl, fun e he => ?_, ?_⟩
 ·rcases List.mem_append.1 he with he | he
  ·exact h5 e (List.mem_of_mem_drop (List.mem_of_mem_take he))
  ·exact junk_len e he
 ·rw [List.flatten_append, junk_flat]
  simp only [Array.toList_append, List.append_assoc]
  refine relL_append e2 ?_
  have : (grownCap w (len + m) cap e - len) * i.size = ((Builtin.zeroCells z.cells m).toList ++ (Builtin.zeroCells z.cells (grownCap w (len + m) cap e - (len + m))).toList).length := by
   rw [List.length_append, Array.length_toList, Array.length_toList, size_zeroCells', size_zeroCells', hzn, ← Nat.add_mul]
   congr 1
   omega
  rw [this]
  exact relL_top _
class TyOver (P : Program) (f : FuncId) (t : outParam TypeId) : Prop where
  is : ∃ fn tR, P.funcs[f]? = some fn ∧ (fn.name == "runtime.NumGoroutine") = false ∧ fn.body.isNone = true ∧ Extern.findNext fn = none ∧ Extern.find fn = some (Extern.SlicesOverlaps.overlaps #[t, t] #[tR])
theorem loc_overlaps {f : FuncId} [hf : TyOver P f t] [ht : TySl P t e] [hv : TyV P e agg n] {α : Type} {f' : α → List D} {ys : List α} {ats : Array TypeId} (hx : opd g x = some (dSl n f' ys)) (hy : opd g y = some (dVal (sl b n kk len cap))) (hm : In (rBuf b T n els) M) (hl : len ≠ 0 → kk + len ≤ els.length) :
    LocP P ⟨dst, .call ⟨.value (.func f), #[x, y], ats⟩, ty, pos, after, gd⟩ g N M (dB False) :=
  locP_of_run fun I a w hs hi => by
    obtain ⟨fn, tR, e1, e2, e3, e4, e5⟩ := hf.is
    obtain ⟨ad, cp, hp, q1, q2, q3, q4⟩ := opd_sound hs hx
    have hq : a.eval y = .slice (some ⟨b, kk * n, none⟩) len cap := opd_sound hs hy
    obtain ⟨cs, h3, h5, h6⟩ := own_buf hi hm.mem
    have hown := hi.own _ hm.mem
    have hbn : I.blk b = none := hown.1
    have hans : (Extern.SlicesOverlaps.overlaps #[t, t] #[tR] #[.slice ad ys.length cp, .slice (some ⟨b, kk * n, none⟩) len cap]).run P w = .ok (.bool false) w := by
      change Sem.run P (α := Value) (do
        let some t := (#[t, t] : Array TypeId)[0]? | stuck "slices.overlaps: no parameter types"
        let .slice elem ← underlying t | stuck "slices.overlaps: slice type expected"
        let size ← sizeOf elem
        match ad, (some ⟨b, kk * n, none⟩ : Option Addr) with
        | some a, some b =>
          if ys.length = 0 ∨ len = 0 ∨ size = 0 then pure (Value.bool false)
          else if a.block != b.block && (← frozen a) && (← frozen b) then unsupported .addressObserved
          else do
            if a.block != b.block then do
              noView a; noView b
              if ← mayBeOne a b then return Value.bool ((← choose (.extern "sameAddr.stringBytes" 2)) == 1)
            pure (Value.bool (a.block == b.block && a.off < b.off + len * size && b.off < a.off + ys.length * size))
        | _, _ => pure (Value.bool false)) w = _
      cases ad with
      | none => simp [run_underlying ht.eq, run_sizeOf hv]
      | some p =>
        by_cases h0 : ys.length = 0 ∨ len = 0 ∨ n = 0
        · simp only [List.length_eq_zero_iff] at h0
          simp [run_underlying ht.eq, run_sizeOf hv]
          intro g1 g2 g3
          rcases h0 with h0 | h0 | h0 <;> contradiction
        · obtain ⟨y0, hy0⟩ : ∃ y0, ys[0]? = some y0 := ⟨_, List.getElem?_eq_getElem (by omega)⟩
          obtain ⟨g1, p', g2, g3, g4, cs', T', fz, g5, g6⟩ := q4 0 y0 hy0
          injection g2 with g2
          subst g2
          rw [Nat.zero_mul, Addr.add_zero'] at g5 g6
          have hne : p.block ≠ b := by intro e; rw [e, hbn] at g5; cases g5
          have hw := hi.imm _ _ g5
          have hnb : (p.block != b) = true := by simpa using hne
          have hl0 := relL_length g6
          have hcs' : cs'.size ≠ 0 := by
            intro hz
            have : cs'.toList = [] := by simpa using hz
            rw [this] at hl0
            simp [g1] at hl0
            omega
          have hl2 := relL_length h6
          rw [flatten_len h5] at hl2
          have hcs : cs.size ≠ 0 := by
            have := hl (by omega)
            have : 0 < els.length * n := Nat.mul_pos (by omega) (by omega)
            simp at hl2
            omega
          have hsa : w.shape? p.block = some (T', cs'.size) := by simp [World.shape?, hw]
          have hsb : w.shape? b = some (T, cs.size) := by simp [World.shape?, h3]
          have hfb : ∀ k, w.frozen? ⟨b, k, none⟩ = false := fun k => by simp [World.frozen?, h3]
          have hfr : ∀ (x : Addr), (frozen x).run P w = .ok (w.frozen? x) w := fun x => rfl
          have hsh : ∀ (x : Nat), (shape x).run P w = .ok (w.shape? x) w := fun x => rfl
          have hva : (noView p).run P w = .ok () w := by simp [noView, viewAt, hsh, hsa]
          have hvb : (noView ⟨b, kk * n, none⟩).run P w = .ok () w := by simp [noView, viewAt, hsh, hsb]
          have hsb2 : (stringish ⟨b, kk * n, none⟩).run P w = .ok false w := by simp [stringish, hfr, hfb, hsh, hsb]
          have hsa2 : ∃ s, (stringish p).run P w = .ok s w := by
            simp only [stringish, Sem.run_bind, hfr, Result.andThen_ok]
            cases w.frozen? p with
            | true => exact ⟨true, by simp⟩
            | false => exact ⟨w.frozen? { block := p.block, off := cs'.size }, by simp [hsh, hsa, hfr]⟩
          obtain ⟨s, hs2⟩ := hsa2
          have hcs2 : ∃ m, cs.size = m + 1 := Nat.exists_eq_succ_of_ne_zero hcs
          have hmb : (mayBeOne p ⟨b, kk * n, none⟩).run P w = .ok false w := by
            obtain ⟨m, hm2⟩ := hcs2
            obtain ⟨m', hm3⟩ := Nat.exists_eq_succ_of_ne_zero hcs'
            cases s <;> simp [mayBeOne, hs2, hsb2, hsh, hsa, hsb, hm2, hm3]
          simp [run_underlying ht.eq, run_sizeOf hv, h0, hnb, hfr, hfb, hva, hvb, hmb, hne]
    refine ⟨.bool false, ?_, false, rfl, by simp⟩
    have h1 := run_callFunc_extern (P := P) e1 e2 e3 e4 e5 #[.slice ad ys.length cp, .slice (some ⟨b, kk * n, none⟩) len cap] w
    have h2 := execOp_call_slot (dst := dst) (ty := ty) (pos := pos) (after := after) (gd := gd) (a := a) (c := .func f) (f := f) (xs := [x, y]) (cap := #[]) rfl ats
    rw [show (#[x, y] : Array Operand) = [x, y].toArray from rfl, h2]
    simp only [List.map_cons, List.map_nil, hp, hq, Array.append_empty]
    rw [h1, hans]
    rfl
end
end Go.Q

namespace Go.Q
variable {P : Program} {f : FuncId} {N : Nat} {I0 : Imm} {R : Goal} {g : G} {M : List Res} {k : List Item}
variable {dst : Option Tmp} {ty : TypeId} {pos : String} {after : Array Edge} {gd : Option (Nat × Bool)}
theorem sl_zero (b n len cap : Nat) : Value.slice (some ⟨b, 0, none⟩) len cap = sl b n 0 len cap := by simp [sl]
theorem run_openRow {α : Type} {v : Value} {T n : Nat} {f' : α → List D} {xs : List α} {C : Res → List Res} {F : List Res} (hm : Sel (rRow v T n f' xs) M C F) (hx : xs ≠ [])
  (h : ∀ b cap, v = sl b n 0 xs.length cap → xs.length ≤ cap → cap ≤ maxLen → xs.length ≤ lenMax → (∀ x ∈ xs, (f' x).length = n) → Run P f N I0 R g (C (rBuf b T n (xs.map f' ++ junk n (cap - xs.length)))) k) : Run P f N I0 R g M k := by
 constructor
 intro I a w b cs hb hk hl hs hi
 have hi' := hi.perm hm.perm.1
 rcases row_cases hi' with ⟨_, h2⟩ | ⟨b', cap, cs', h2, _⟩
 ·exact absurd h2 hx
 ·subst h2
  obtain ⟨_, h4, h5, h6, h7, h8⟩ := row_open hi'
  exact (h b' cap (sl_zero ..) h4 h5 h6 h7).go I a w b cs hb hk hl hs (h8.perm (hm.perm.2 _))
theorem inv_shut {α : Type} {b len cap : Nat} {T n : Nat} {f' : α → List D} {xs : List α} {els els' : List (List D)} {I : Imm} {F : List Res} {w : World} (h : Inv I (rBuf b T n els :: F) w) (he : els = xs.map f' ++ els')
  (hl : len = xs.length) (hc : xs.length + els'.length = cap) (hm : cap ≤ maxLen) (hx : xs.length ≤ lenMax) : Inv I (rRow (sl b n 0 len cap) T n f' xs :: F) w := by
 subst he
 rw [← sl_zero]
 exact row_shut h hl hc hm hx
theorem loc_sliceRowTop {t e : TypeId} {agg : Bool} {n T : Nat} {α : Type} {f' : α → List D} {xs : List α} {v : Value} {x lo : Operand} {kd : IntKind} {i : Int} [ht : TySl P t e] [hv : TyV P e agg n] (hx : opd g x = some (dVal v)) (hm : In (rRow v T n f' xs) M) (hy : opd g lo = some (dInt kd i)) (h : 0 ≤ i ∧ i ≤ xs.length) :
  LocP P ⟨dst, .slice t x (some lo) none none, ty, pos, after, gd⟩ g N M dTop :=
 locP_of_run fun I a w hs hinv => by
  have hp : a.eval x = v := opd_sound hs hx
  have hlo : a.eval lo = .int kd i := opd_sound hs hy
  obtain ⟨s, t', e⟩ := List.append_of_mem hm.mem
  rw [e] at hinv
  rcases row_cases (hinv.perm List.perm_middle) with ⟨h2, h3⟩ | ⟨b', cap, cs', h2, _⟩
  ·subst h2; subst h3
   have h0 : (0 ≤ i ∧ i ≤ (0 : Int)) := by simpa using h
   exact ⟨_, by simp [execOp, Instr.sliceAt, Instr.slice, hp, hlo, run_underlying ht.eq, Instr.sliceBounds, Instr.sliceBound, asIntOf, h0, run_sizeOf hv]; rfl, trivial⟩
  ·subst h2
   exact ⟨_, by simp [execOp, Instr.sliceAt, Instr.slice, hp, hlo, run_underlying ht.eq, Instr.sliceBounds, Instr.sliceBound, asIntOf, h, run_sizeOf hv]; rfl, trivial⟩
section
variable {x y z lo hi mx : Operand} {t e : TypeId} {agg : Bool} {n : Nat} {b kk len cap : Nat} {kd kd' kd2 : IntKind} {i j m : Int}
theorem loc_sliceOwnFromLt [ht : TySl P t e] [hv : TyV P e agg n] (hx : opd g x = some (dVal (sl b n kk len cap))) (hy : opd g lo = some (dInt kd i)) (h : 0 ≤ i ∧ i ≤ len ∧ len ≤ cap ∧ i < cap) :
  LocP P ⟨dst, .slice t x (some lo) none none, ty, pos, after, gd⟩ g N M (dVal (sl b n (kk + i.toNat) (len - i.toNat) (cap - i.toNat))) :=
 (loc_sliceOwnFrom hx hy ⟨h.1, h.2.1, h.2.2.1⟩).conv (by rw [if_neg (by omega)])
theorem loc_sliceOwnLt [ht : TySl P t e] [hv : TyV P e agg n] (hx : opd g x = some (dVal (sl b n kk len cap))) (hy : opd g lo = some (dInt kd i)) (hz : opd g hi = some (dInt kd' j)) (h : 0 ≤ i ∧ i ≤ j ∧ j ≤ cap ∧ i < cap) :
  LocP P ⟨dst, .slice t x (some lo) (some hi) none, ty, pos, after, gd⟩ g N M (dVal (sl b n (kk + i.toNat) (j.toNat - i.toNat) (cap - i.toNat))) :=
 (loc_sliceOwn hx hy hz ⟨h.1, h.2.1, h.2.2.1⟩).conv (by rw [if_neg (by omega)])
end

theorem junk_length (n m : Nat) : (junk n m).length = m := by simp [junk]
theorem put_left {A J new : List (List D)} {kk : Nat} (h : kk + new.length ≤ A.length) : put (A ++ J) kk new = put A kk new ++ J := by
 unfold put
 rw [List.take_append_of_le_length (by omega), List.drop_append_of_le_length (by omega)]
 simp
theorem insert_list {A J : List (List D)} {X : List (List D)} {x : List D} {i p q r m : Nat} (hi : i < A.length) (hp : p = i + 1) (hq : q = i) (hr : r = i) (hm : m = A.length - i) (hX : X = [x]) (hJ : 0 < J.length) :
  put (put (A ++ J) p (((A ++ J).drop q).take m)) r X = (A.take i ++ [x] ++ A.drop i) ++ J.drop 1 := by
 rw [hp, hq, hr, hm, hX]
 clear hp hq hr hm hX p q r m X
 generalize hqi : i = q at *
 clear hqi i
 have e1 : ((A ++ J).drop q).take (A.length - q) = A.drop q := by
  rw [List.drop_append_of_le_length (by omega), List.take_append_of_le_length (by simp), List.take_of_length_le (by simp)]
 rw [e1]
 match J, hJ with
 | j :: J, _ =>
  have e2 : put (A ++ j :: J) (q + 1) (A.drop q) = (A.take (q + 1) ++ A.drop q) ++ J := by
   unfold put
   rw [List.take_append_of_le_length (by omega), List.length_drop, List.drop_append, @List.drop_eq_nil_of_le _ A (q + 1 + (A.length - q)) (by omega), show q + 1 + (A.length - q) - A.length = 1 by omega]
   simp
  rw [e2, put_left (by simp; omega)]
  congr 1
  unfold put
  rw [List.take_append_of_le_length (by simp; omega), List.take_take, show min q (q + 1) = q by omega]
  congr 1
  rw [List.length_singleton, List.drop_append, List.drop_eq_nil_of_le (by simp; omega), List.nil_append, List.length_take, show q + 1 - min (q + 1) A.length = 0 by omega]
  rfl
theorem insert_grow {A B J X Y : List (List D)} {x : List D} {i p q r c : Nat} (hi : i < A.length) (hp : p = i) (hq : q = i) (hr : r = i + 1) (hX : X = [x]) (hY : Y = A.drop i) (hc : A.length + 1 ≤ c) (hB : B.length = c - i) :
  put (put (((A ++ J).drop 0).take p ++ B) q X) r Y = (A.take i ++ [x] ++ A.drop i) ++ B.drop (A.length + 1 - i) := by
 rw [hp, hq, hr, hX, hY]
 clear hp hq hr hX hY p q r X Y
 generalize hqi : i = s at *
 clear hqi i
 have e2 : ((A ++ J).drop 0).take s = A.take s := by rw [List.drop_zero, List.take_append_of_le_length (by omega)]
 rw [e2]
 have e3 : put (A.take s ++ B) s [x] = A.take s ++ [x] ++ B.drop 1 := by
  unfold put
  rw [List.take_append_of_le_length (by simp; omega), List.take_take, Nat.min_self, List.length_singleton, List.drop_append, List.drop_eq_nil_of_le (by simp; omega), List.nil_append, List.length_take, show s + 1 - min s A.length = 1 by omega]
 rw [e3]
 unfold put
 rw [List.take_append_of_le_length (by simp; omega), List.take_of_length_le (by simp; omega)]
 congr 1
 rw [List.length_drop, List.drop_append, List.drop_eq_nil_of_le (by simp; omega), List.nil_append, List.drop_drop]
 congr 1
 simp
 omega
theorem delete_list {A J : List (List D)} {n i j p q m r d : Nat} (hi : i < j) (hj : j ≤ A.length) (hp : p = i) (hq : m ≠ 0 → q = j) (hm : m = A.length - j) (hr : r = i + (A.length - j)) (hd : d = j - i) :
  put (put (A ++ J) p (((A ++ J).drop q).take m)) r (junk n d) = (A.take i ++ A.drop j) ++ (junk n (j - i) ++ J) := by
 rw [hp, hm, hr, hd]
 rw [hm] at hq
 clear hp hm hr hd p m r d
 generalize hqi : i = p at *
 clear hqi i
 have e1 : ((A ++ J).drop q).take (A.length - j) = A.drop j := by
  by_cases h0 : A.length - j = 0
  ·rw [h0, List.take_zero, List.drop_eq_nil_of_le (by omega)]
  ·rw [hq h0, List.drop_append_of_le_length (by omega), List.take_append_of_le_length (by simp), List.take_of_length_le (by simp)]
 rw [e1]
 have e2 : put (A ++ J) p (A.drop j) = (A.take p ++ A.drop j) ++ (A.drop (p + (A.length - j)) ++ J) := by
  rw [put_left (by simp; omega)]
  unfold put
  simp
 rw [e2]
 unfold put
 rw [List.take_append_of_le_length (by simp; omega), List.take_of_length_le (by simp; omega)]
 rw [List.append_assoc]
 congr 1
 ·rw [junk_length, List.drop_append, List.drop_eq_nil_of_le (by simp; omega), List.nil_append]
  have : p + (A.length - j) + (j - p) - (A.take p ++ A.drop j).length = j - p := by simp; omega
  rw [this, List.drop_append, List.drop_drop, List.drop_eq_nil_of_le (by omega), List.length_drop, show j - p - (A.length - (p + (A.length - j))) = 0 by omega]
  simp
theorem run_shutRow {α : Type} {b len cap T n : Nat} {f' : α → List D} {xs : List α} {els els' : List (List D)} {C : Res → List Res} {F : List Res} (hm : Sel (rBuf b T n els) M C F) (he : els = xs.map f' ++ els')
  (hl : len = xs.length) (hc : xs.length + els'.length = cap) (hcm : cap ≤ maxLen) (hx : xs.length ≤ lenMax) (h : Run P f N I0 R g (C (rRow (sl b n 0 len cap) T n f' xs)) k) : Run P f N I0 R g M k :=
 run_weaken (fun _ _ _ hs hi => ⟨hs, (inv_shut (hi.perm hm.perm.1) he hl hc hcm hx).perm (hm.perm.2 _)⟩) h
theorem opd_conv {x : Operand} {d d' : D} (h : opd g x = some d) (e : d = d') : opd g x = some d' := e ▸ h

section
variable {R : Goal} {ops : Array Oper} {rest : List Oper} {op : Op} {r : Res} {C : Res → List Res} {F : List Res} {dst : Tmp}
theorem run_updS {σ : Type} {φ : σ → Prop} {d : σ → D} {r' : σ → Res} (hN : Nat.blt dst N = true) (hs : Sel r M C F)
  (hd : LocM P ⟨some dst, op, ty, pos, after, none⟩ g N [r] φ d (fun s => [r' s])) (h : ∀ s, φ s → RunL P f N I0 R ((dst, d s) :: g) (C (r' s)) ops rest k) :
  RunL P f N I0 R g M ops (⟨some dst, op, ty, pos, after, none⟩ :: rest) k := run_upd hd hN hs h
theorem run_updS0 {σ : Type} {φ : σ → Prop} {d : σ → D} {r' : σ → Res} (hs : Sel r M C F)
  (hd : LocM P ⟨none, op, ty, pos, after, none⟩ g N [r] φ d (fun s => [r' s])) (h : ∀ s, φ s → RunL P f N I0 R g (C (r' s)) ops rest k) :
  RunL P f N I0 R g M ops (⟨none, op, ty, pos, after, none⟩ :: rest) k := run_upd0 hd hs h
theorem runL_fact {l : List Oper} {s : Nat} {d : D} {p : Prop} (hs : look g s = some d) (hp : ∀ I v, d.rel I v → p) (h : p → RunL P f N I0 R g M ops l k) : RunL P f N I0 R g M ops l k := by
 constructor
 intro I a w b cs hb hk hl hsl hi
 exact (h (hp _ _ (hsl.slot s d hs))).go I a w b cs hb hk hl hsl hi
theorem run_updG {σ : Type} {φ : σ → Prop} {d : σ → D} {Mout : σ → List Res} (hN : Nat.blt dst N = true)
  (hd : LocM P ⟨some dst, op, ty, pos, after, none⟩ g N [r] φ d Mout) (h : ∀ s, φ s → RunL P f N I0 R ((dst, d s) :: g) (Mout s ++ F) ops rest k) :
  RunL P f N I0 R g (r :: F) ops (⟨some dst, op, ty, pos, after, none⟩ :: rest) k := by
 have := run_opM (F := F) hd hN h
 exact this
end
theorem one_part {α : Type} {f' : α → List D} [h1 : ∀ x, OneAll (f' x)] {xs : List α} {J : List (List D)} {q m : Nat} (h : m ≠ 0 → q + m ≤ xs.length) : ∀ e ∈ ((xs.map f' ++ J).drop q).take m, OneAll e := by
 intro e he
 have he' : e ∈ xs.map f' := by
  by_cases h0 : m = 0
  ·subst h0; simp at he
  ·have h2 := h h0
   obtain ⟨i, hi⟩ := List.getElem?_of_mem he
   rw [List.getElem?_take] at hi
   split at hi
   ·rw [List.getElem?_drop, List.getElem?_append_left (by simp; omega)] at hi
    exact List.mem_of_getElem? hi
   ·cases hi
 obtain ⟨x, -, rfl⟩ := List.mem_map.1 he'
 exact h1 x
end Go.Q

namespace Go.Q
structure Pn where
 session : Int
 version : Int
deriving Inhabited
structure Pins where
 rows : List Pn
 kept : List Int
deriving Inhabited
structure Strt where
 read : Int
 version : Int
 p : Int
 from' : Int
 draws : Int
deriving Inhabited
structure Disk where
 seed : Int
 drawn : Int
 begun : List Strt
deriving Inhabited
structure Tape where
 numbers : List Int
 at' : Int
deriving Inhabited
structure Schm where
 kind : Int
 servers : Int
 degree : Int
 group : Int
deriving Inhabited
abbrev cPn (x : Pn) : List D := [dInt .i64 x.session, dInt .i64 x.version]
abbrev cStrt (x : Strt) : List D := [dInt .i64 x.read, dInt .i64 x.version, dInt .i64 x.p, dInt .i64 x.from', dInt .i64 x.draws]
abbrev cSchm (x : Schm) : List D := [dInt .i64 x.kind, dInt .i64 x.servers, dInt .i64 x.degree, dInt .i64 x.group]
abbrev dSchm (x : Schm) : D := dAgg (cSchm x)
theorem Pn.ext' {a b : Pn} (h1 : a.session = b.session) (h2 : a.version = b.version) : a = b := by cases a; cases b; simp_all
theorem Strt.ext' {a b : Strt} (h1 : a.read = b.read) (h2 : a.version = b.version) (h3 : a.p = b.p) (h4 : a.from' = b.from') (h5 : a.draws = b.draws) : a = b := by cases a; cases b; simp_all
example (x : Pn) : OneAll (cPn x) := inferInstance
example (x : Strt) : OneAll (cStrt x) := inferInstance
end Go.Q

namespace Go.Q
variable {P : Program} {f : FuncId} {N : Nat} {I0 : Imm} {R : Goal} {g : G} {M : List Res} {k : List Item}
inductive Restr (g : G) : List Nat → G → Prop where
 | nil : Restr g [] []
 | cons {s : Nat} {d : D} {ks : List Nat} {g0 : G} : look g s = some d → Restr g ks g0 → Restr g (s :: ks) ((s, d) :: g0)
@[reducible] def app : G → G → G
 | [], h => h
 | x :: e, h => x :: app e h
theorem Restr.keep {g g0 : G} {ks : List Nat} (h : Restr g ks g0) : Keep g g0 := by
 induction h with
 | nil => exact .nil
 | cons h1 _ ih => exact .cons h1 (fun _ _ x => x) ih
theorem Keep.app {g e g0 : G} (h1 : Keep g e) (h2 : Keep g g0) : Keep g (app e g0) := by
 induction h1 with
 | nil => exact h2
 | cons a b _ ih => exact .cons a b ih
theorem run_loopE {c : Code} {σ : Type} {ks : List Nat} {g0 : G} (hr : Restr g ks g0) (E : σ → G) (Mo : σ → List Res) (φ : σ → Prop) (μ : σ → Nat) (s0 : σ) (h0 : φ s0) (hg : Keep g (E s0)) (hM : M = Mo s0)
  (round : ∀ s, φ s → (∀ s', φ s' → μ s' < μ s → Run P f N I0 R (app (E s') g0) (Mo s') (.inLoop c :: k)) → Run P f N I0 R (app (E s) g0) (Mo s) (.code c :: .inLoop c :: k)) :
  Run P f N I0 R g M (.code (.loop c) :: k) :=
 run_loop' (fun s => app (E s) g0) Mo φ μ s0 h0 (hg.app hr.keep) hM round
theorem run_loopC {c : Code} {σ : Type} {ks : List Nat} {g0 : G} (hr : Restr g ks g0) (E : σ → G) (φ : σ → Prop) (μ : σ → Nat) (s0 : σ) (h0 : φ s0) (hg : Keep g (E s0))
  (round : ∀ s, φ s → (∀ s', φ s' → μ s' < μ s → Run P f N I0 R (app (E s') g0) M (.inLoop c :: k)) → Run P f N I0 R (app (E s) g0) M (.code c :: .inLoop c :: k)) :
  Run P f N I0 R g M (.code (.loop c) :: k) :=
 run_loop' (fun s => app (E s) g0) (fun _ => M) φ μ s0 h0 (hg.app hr.keep) rfl round
theorem run_againE {c : Code} {σ : Type} {E : σ → G} {g0 : G} {Mo : σ → List Res} {φ : σ → Prop} {μ : σ → Nat} {m : Nat}
  (ih : ∀ s', φ s' → μ s' < m → Run P f N I0 R (app (E s') g0) (Mo s') (.inLoop c :: k)) (s' : σ) (hφ : φ s') (hμ : μ s' < m) (hg : Keep g (E s')) (h0 : Keep g g0) (hM : M = Mo s') : Run P f N I0 R g M (.inLoop c :: k) :=
 run_keep (hg.app h0) (hM ▸ ih s' hφ hμ)
theorem run_againC {c : Code} {σ : Type} {E : σ → G} {g0 : G} {φ : σ → Prop} {μ : σ → Nat} {m : Nat}
  (ih : ∀ s', φ s' → μ s' < m → Run P f N I0 R (app (E s') g0) M (.inLoop c :: k)) (s' : σ) (hφ : φ s') (hμ : μ s' < m) (hg : Keep g (E s')) (h0 : Keep g g0) : Run P f N I0 R g M (.inLoop c :: k) :=
 run_keep (hg.app h0) (ih s' hφ hμ)
theorem run_joinE {c : Code} {σ : Type} {ks : List Nat} {g0 : G} (hr : Restr g ks g0) (E : σ → G) (Mo : σ → List Res) (φ : σ → Prop)
  (h2 : (∀ s, φ s → Run P f N I0 R (app (E s) g0) (Mo s) k) → Run P f N I0 R g M (.code c :: k)) (h1 : ∀ s, φ s → Run P f N I0 R (app (E s) g0) (Mo s) k) : Run P f N I0 R g M (.code c :: k) := h2 h1
theorem run_joinC {c : Code} {σ : Type} {ks : List Nat} {g0 : G} (hr : Restr g ks g0) (E : σ → G) (φ : σ → Prop)
  (h2 : (∀ s, φ s → Run P f N I0 R (app (E s) g0) M k) → Run P f N I0 R g M (.code c :: k)) (h1 : ∀ s, φ s → Run P f N I0 R (app (E s) g0) M k) : Run P f N I0 R g M (.code c :: k) := h2 h1
theorem run_atE {σ : Type} {E : σ → G} {g0 : G} {Mo : σ → List Res} {φ : σ → Prop} (j : ∀ s, φ s → Run P f N I0 R (app (E s) g0) (Mo s) k) (s : σ) (hφ : φ s) (hM : M = Mo s) (hg : Keep g (E s)) (h0 : Keep g g0) : Run P f N I0 R g M k :=
 run_keep (hg.app h0) (hM ▸ j s hφ)
theorem run_atC {σ : Type} {E : σ → G} {g0 : G} {φ : σ → Prop} (j : ∀ s, φ s → Run P f N I0 R (app (E s) g0) M k) (s : σ) (hφ : φ s) (hg : Keep g (E s)) (h0 : Keep g g0) : Run P f N I0 R g M k :=
 run_keep (hg.app h0) (j s hφ)
@[reducible] def appR : List Res → List Res → List Res
 | [], F => F
 | r :: A, F => r :: appR A F
theorem run_front {r : Res} {C : Res → List Res} {F : List Res} (hm : Sel r M C F) (h : Run P f N I0 R g (r :: F) k) : Run P f N I0 R g M k :=
 run_weaken (fun _ _ _ hs hi => ⟨hs, hi.perm hm.perm.1⟩) h
theorem run_loopF {c : Code} {σ : Type} {ks : List Nat} {g0 : G} {F : List Res} (hr : Restr g ks g0) (E : σ → G) (A : σ → List Res) (φ : σ → Prop) (μ : σ → Nat) (s0 : σ) (h0 : φ s0) (hg : Keep g (E s0)) (hM : M = appR (A s0) F)
  (round : ∀ s, φ s → (∀ s', φ s' → μ s' < μ s → Run P f N I0 R (app (E s') g0) (appR (A s') F) (.inLoop c :: k)) → Run P f N I0 R (app (E s) g0) (appR (A s) F) (.code c :: .inLoop c :: k)) :
  Run P f N I0 R g M (.code (.loop c) :: k) :=
 run_loop' (fun s => app (E s) g0) (fun s => appR (A s) F) φ μ s0 h0 (hg.app hr.keep) hM round
theorem run_againF {c : Code} {σ : Type} {E : σ → G} {g0 : G} {A : σ → List Res} {F : List Res} {φ : σ → Prop} {μ : σ → Nat} {m : Nat}
  (ih : ∀ s', φ s' → μ s' < m → Run P f N I0 R (app (E s') g0) (appR (A s') F) (.inLoop c :: k)) (s' : σ) (hφ : φ s') (hμ : μ s' < m) (hg : Keep g (E s')) (h0 : Keep g g0) (hM : M = appR (A s') F) : Run P f N I0 R g M (.inLoop c :: k) :=
 run_keep (hg.app h0) (hM ▸ ih s' hφ hμ)
theorem run_joinF {c : Code} {σ : Type} {ks : List Nat} {g0 : G} (F : List Res) (hr : Restr g ks g0) (E : σ → G) (A : σ → List Res) (φ : σ → Prop)
  (hF : ∃ A0, M = appR A0 F) (h2 : (∀ s, φ s → Run P f N I0 R (app (E s) g0) (appR (A s) F) k) → Run P f N I0 R g M (.code c :: k)) (h1 : ∀ s, φ s → Run P f N I0 R (app (E s) g0) (appR (A s) F) k) : Run P f N I0 R g M (.code c :: k) := h2 h1
theorem run_atF {σ : Type} {E : σ → G} {g0 : G} {A : σ → List Res} {F : List Res} {φ : σ → Prop} (j : ∀ s, φ s → Run P f N I0 R (app (E s) g0) (appR (A s) F) k) (s : σ) (hφ : φ s) (hM : M = appR (A s) F) (hg : Keep g (E s)) (h0 : Keep g g0) : Run P f N I0 R g M k :=
 run_keep (hg.app h0) (hM ▸ j s hφ)
inductive Ups : List D → List D → Prop where
 | nil : Ups [] []
 | cons {d e : D} {ds es : List D} : (∀ I v, d.rel I v → e.rel I v) → Ups ds es → Ups (d :: ds) (e :: es)
theorem Ups.rel {ds es : List D} (h : Ups ds es) : ∀ {I : Imm} {vs : List Value}, relL ds I vs → relL es I vs := by
 induction h with
 | nil => intro I vs h; exact h
 | cons h1 _ ih =>
  intro I vs h
  cases vs with
  | nil => cases h
  | cons v vs => exact ⟨h1 _ _ h.1, ih h.2⟩
theorem d_aggU {ds es : List D} (h : Ups ds es) : ∀ I v, (dAgg ds).rel I v → (dAgg es).rel I v := fun _ _ ⟨cs, e, r⟩ => ⟨cs, e, h.rel r⟩
end Go.Q

namespace Go.Q
open Classical
noncomputable def idxP {α : Type} (q : α → Prop) : List α → Int
 | [] => -1
 | x :: xs => if q x then 0 else (if idxP q xs < 0 then -1 else idxP q xs + 1)
theorem idxP_none {α : Type} {q : α → Prop} : ∀ {xs : List α}, (∀ x ∈ xs, ¬ q x) → idxP q xs = -1
 | [], _ => rfl
 | x :: xs, h => by
  have h1 := h x (List.mem_cons_self ..)
  have h2 := idxP_none (xs := xs) fun y hy => h y (List.mem_cons_of_mem _ hy)
  simp [idxP, h1, h2]
theorem idxP_at {α : Type} [Inhabited α] {q : α → Prop} : ∀ {xs : List α} {i : Nat}, i < xs.length → (∀ j, j < i → ¬ q (xs[j]?.getD default)) → q (xs[i]?.getD default) → idxP q xs = i
 | x :: xs, 0, _, _, h => by
  have : q x := by simpa using h
  simp [idxP, this]
 | x :: xs, i + 1, hi, hb, h => by
  have h1 : ¬ q x := by simpa using hb 0 (by omega)
  have h2 := idxP_at (xs := xs) (i := i) (by simpa using hi) (fun j hj => by simpa using hb (j + 1) (by omega)) (by simpa using h)
  simp only [idxP, if_neg h1, h2]
  rw [if_neg (by omega)]
  omega
theorem idxP_nonneg {α : Type} {q : α → Prop} : ∀ {xs : List α}, 0 ≤ idxP q xs ↔ ∃ x ∈ xs, q x
 | [] => by simp [idxP]
 | x :: xs => by
  have ih := idxP_nonneg (q := q) (xs := xs)
  by_cases h : q x
  ·simp [idxP, h]
  ·by_cases h2 : idxP q xs < 0
   ·have : ¬ ∃ x ∈ xs, q x := fun e => by have := ih.2 e; omega
    simp only [idxP, if_neg h, if_pos h2]
    simp only [List.mem_cons, exists_eq_or_imp, h, false_or]
    exact ⟨fun h => by omega, fun h => absurd h this⟩
   ·have : ∃ x ∈ xs, q x := ih.1 (by omega)
    simp only [idxP, if_neg h, if_neg h2]
    simp only [List.mem_cons, exists_eq_or_imp, h, false_or]
    exact ⟨fun _ => this, fun _ => by omega⟩
noncomputable def bsGo (lt : Nat → Prop) (i j : Nat) : Nat :=
 if i < j then (if lt ((i + j) / 2) then bsGo lt ((i + j) / 2 + 1) j else bsGo lt i ((i + j) / 2)) else i
termination_by j - i
theorem bsGo_le (lt : Nat → Prop) (i j : Nat) (h : i ≤ j) : i ≤ bsGo lt i j ∧ bsGo lt i j ≤ j := by
 fun_induction bsGo lt i j <;> omega
theorem bsGo_at {lt : Nat → Prop} {i j k : Nat} (hij : i ≤ j) (hi : i ≤ k) (hj : k ≤ j) (h1 : ∀ a, a < k → lt a) (h2 : ∀ a, k ≤ a → a < j → ¬ lt a) : bsGo lt i j = k := by
 fun_induction bsGo lt i j with
 | case1 i j h hl ih =>
  refine ih (by omega) ?_ hj h2
  by_cases c : k ≤ (i + j) / 2
  ·exact absurd hl (h2 _ c (by omega))
  ·omega
 | case2 i j h hl ih =>
  refine ih (by omega) hi ?_ (fun a ha hb => h2 a ha (by omega))
  by_cases c : (i + j) / 2 < k
  ·exact absurd (h1 _ c) hl
  ·omega
 | case3 i j h => omega
noncomputable def lead {α : Type} (q : α → Prop) : List α → Nat
 | [] => 0
 | x :: xs => if q x then lead q xs + 1 else 0
theorem lead_le {α : Type} (q : α → Prop) : ∀ xs : List α, lead q xs ≤ xs.length
 | [] => Nat.le_refl _
 | x :: xs => by have := lead_le q xs; simp only [lead]; split <;> simp <;> omega
theorem lead_lt {α : Type} [Inhabited α] {q : α → Prop} : ∀ {xs : List α} (j : Nat), j < lead q xs → q (xs[j]?.getD default)
 | [], j, h => by simp [lead] at h
 | x :: xs, j, h => by
  simp only [lead] at h
  split at h
  ·rename_i hq
   cases j with
   | zero => simpa using hq
   | succ j => simpa using lead_lt (xs := xs) j (by omega)
  ·omega
theorem lead_end {α : Type} [Inhabited α] {q : α → Prop} : ∀ {xs : List α}, lead q xs < xs.length → ¬ q (xs[lead q xs]?.getD default)
 | [], h => by simp [lead] at h
 | x :: xs, h => by
  simp only [lead] at h ⊢
  split
  ·rename_i hq
   rw [if_pos hq] at h
   simpa using lead_end (xs := xs) (by simpa using h)
  ·rename_i hq; simpa using hq
theorem take_snoc {α : Type} [Inhabited α] {xs : List α} {k : Nat} (h : k < xs.length) : xs.take (k + 1) = xs.take k ++ [xs[k]?.getD default] := by
 rw [List.take_add_one, List.getElem?_eq_getElem h]
 simp
theorem forall_getD {α : Type} [Inhabited α] {p : α → Prop} {xs : List α} (h : ∀ j, j < xs.length → p (xs[j]?.getD default)) : ∀ x ∈ xs, p x := by
 intro x hx
 obtain ⟨i, hi⟩ := List.getElem?_of_mem hx
 have h1 := (List.getElem?_eq_some_iff.1 hi).1
 have h2 := h i h1
 rw [hi] at h2
 exact h2
def cmpI (x y : Int) : Int := if x < y then -1 else if y < x then 1 else 0
theorem list_extD {α : Type} [Inhabited α] {xs ys : List α} (h : xs.length = ys.length) (he : ∀ j, j < xs.length → xs[j]?.getD default = ys[j]?.getD default) : xs = ys := by
 apply List.ext_getElem h
 intro i h1 h2
 have := he i h1
 simpa [h1, h2] using this
end Go.Q

namespace Go.Q
variable {P : Program} {g : G} {N : Nat} {M : List Res} {dst : Option Tmp} {ty : TypeId} {pos : String} {after : Array Edge} {gd : Option (Nat × Bool)} {t t' : TypeId} {x y : Operand} {k kd : IntKind} {m n : Int}
theorem u64_in {m : Int} (h : 0 ≤ m ∧ m < 18446744073709551616) : IntKind.u64.wrap m = m := by rw [IntKind.wrap_u64]; omega
theorem loc_convU {s : TypeId} {k0 : IntKind} [h1 : TyInt P s k0] [h2 : TyInt P t .u64] (hx : opd g x = some (dInt kd m)) (h : 0 ≤ m ∧ m < 18446744073709551616) : LocP P ⟨dst, .convert s t x, ty, pos, after, gd⟩ g N M (dInt .u64 m) :=
 (loc_convW hx).conv (by rw [u64_in h])
theorem loc_shr {c : Nat} (hx : opd g x = some (dInt k m)) (hy : opd g y = some (dInt kd (c : Nat))) (hc : (Nat.blt c 64 && Nat.blt c k.bits) = true) : LocP P ⟨dst, .binOp .shr t x y t', ty, pos, after, gd⟩ g N M (dInt k (m.fdiv (2 ^ c))) :=
 locP_of_run fun I a w hs _ => by
  have h1 : a.eval x = .int k m := opd_sound hs hx
  have h2 : a.eval y = .int kd c := opd_sound hs hy
  have e : eqGuard .shr t x y (.int k m) (.int kd c) = pure () := by unfold eqGuard; rfl
  simp only [Bool.and_eq_true, Nat.blt_eq] at hc
  have hn : ¬ ((c : Int) < 0) := by omega
  refine ⟨.int k (m.fdiv (2 ^ c)), ?_, rfl⟩
  have h3 : Int.toNat (c : Int) = c := by omega
  have h4 : (binOp .shr t (.int k m) (.int kd c)).run P w = .ok (.int k (m.fdiv (2 ^ c))) w := by
   simp only [binOp, Op.shift]
   rw [if_neg hn]
   simp [Nat.min_eq_left (Nat.le_of_lt hc.2)]
  simp [execOp, h1, h2, e, h4]
theorem loc_shrN {c : Nat} {q : Int} (hx : opd g x = some (dInt k m)) (hy : opd g y = some (dInt kd (c : Nat))) (hc : (Nat.blt c 64 && Nat.blt c k.bits) = true) (hq : (2 : Int) ^ c = q) (h : 0 ≤ m) (hq0 : 0 ≤ q) : LocP P ⟨dst, .binOp .shr t x y t', ty, pos, after, gd⟩ g N M (dInt k (m / q)) :=
 (loc_shr hx hy hc).conv (by rw [hq, Int.fdiv_eq_ediv_of_nonneg _ hq0])
end Go.Q

namespace Go.Q
open Classical
variable {P : Program} {f : FuncId} {N : Nat} {I0 : Imm} {g : G} {M : List Res} {k : List Item} {R : Goal}
variable {dst : Option Tmp} {ty : TypeId} {pos : String} {after : Array Edge} {gd : Option (Nat × Bool)}
def reps {α : Type} : Nat → List α → List α
 | 0, _ => []
 | c + 1, xs => xs ++ reps c xs
structure RepI {α : Type} (c : Nat) (xs : List α) (T : Nat) (s : Nat × List α) : Prop where
 len : s.2.length = T
 le : s.1 ≤ T
 eq : s.2.take s.1 = (reps c xs).take s.1
 mul : s.1 < T → 0 < s.1 ∧ ∃ a, s.1 = a * xs.length ∧ a ≤ c

theorem LocP.up {o : Oper} {d d' : D} (h : LocP P o g N M d) (hd : ∀ I v, d.rel I v → d'.rel I v) : LocP P o g N M d' :=
 ⟨fun I a w K Q hs hi hK => h.go I a w K Q hs hi fun v w' J h1 h2 h3 => hK v w' J h1 (hd _ _ h2) h3⟩
theorem LocP.upV {o : Oper} {v : Value} (h : LocP P o g N M (dSlV v)) : LocP P o g N M (dVal v) := h.up fun _ _ h => h.1
theorem run_freezeRowCellV {b kk : Nat} {T' : TypeId} {ds : List D} {C C' : Res → List Res} {F F' : List Res} {α : Type} {T n : Nat} {f' : α → List D} {xs : List α} {v : Value} (hm : Sel (rRow v T n f' xs) M C F) (hc : Sel (rCells b T' ds) F C' F') (hk : ds[kk]? = some (dSlV v))
  (h : Run P f N I0 R g (C' (rCells b T' (ds.set kk (dSl n f' xs)))) k) : Run P f N I0 R g M k :=
 run_freezeUp (dSlV v) (dSl n f' xs) hm hc hk (fun J u h1 h2 => by rw [show u = v from h1.1]; exact h2) h

theorem LocM.frz {o : Oper} {Min : List Res} {T n : Nat} {α : Type} {f' : α → List D} {xs : List α} (h : LocM P o g N Min (fun _ : Value => True) (fun v => dVal v) (fun v => [rRow v T n f' xs])) {r : Res} (hr : Min = [r]) :
  LocM P o g N [r] (fun _ : Unit => True) (fun _ => dSl n f' xs) (fun _ => [rNone]) := by
 subst hr
 constructor
 intro F I a w K Q hs hi hK
 refine h.go F I a w K Q hs hi fun v u w' J _ h1 h2 h3 => ?_
 obtain ⟨J', h4, h5, h6⟩ := row_freeze h3
 refine hK () u w' J' trivial (h1.trans h4) ?_ (none_ok h6)
 rw [show u = v from h2]
 exact h5
theorem LocM.frz0 {o : Oper} {T n : Nat} {α : Type} {f' : α → List D} {xs : List α} (h : LocM P o g N [] (fun _ : Value => True) (fun v => dVal v) (fun v => [rRow v T n f' xs])) : LocP P o g N M (dSl n f' xs) := by
 constructor
 intro I a w K Q hs hi hK
 refine h.go M I a w K Q hs hi fun v u w' J _ h1 h2 h3 => ?_
 obtain ⟨J', h4, h5, h6⟩ := row_freeze h3
 refine hK u w' J' (h1.trans h4) ?_ h6
 rw [show u = v from h2]
 exact h5
end Go.Q

namespace Go.Q
structure Ans where
 known : Prop
 row : List Int
deriving Inhabited
structure Nte where
 kind : Int
 read : Int
 probe : Int
 server : Int
 version : Int
 query : List Int
 values : List Int
 mark : Int
deriving Inhabited
structure Held where
 head : Hd
 rows : List (List Int)
deriving Inhabited
structure Job where
 read : Int
 probe : Int
 version : Int
 query : List Int
 got : List Int
deriving Inhabited
structure Srv where
 id : Int
 scheme : Schm
 up : Prop
 versions : List Held
 jobs : List Job
structure Psn where
 id : Int
 secret : Int
deriving Inhabited
abbrev cNte (n : Nte) : List D := [dInt .i64 n.kind, dInt .i64 n.read, dInt .i64 n.probe, dInt .i64 n.server, dInt .i64 n.version, dInts n.query, dInts n.values, dInt .i64 n.mark]
abbrev cHeld (h : Held) : List D := [dInt .i64 h.head.number, dInt .i64 h.head.p, dInt .i64 h.head.count, dInt .i64 h.head.width, dInt .i64 h.head.root, dRows h.rows]
abbrev cJob (j : Job) : List D := [dInt .i64 j.read, dInt .i64 j.probe, dInt .i64 j.version, dInts j.query, dInts j.got]
abbrev cSrv (v : Srv) : List D := [dInt .i64 v.id, dInt .i64 v.scheme.kind, dInt .i64 v.scheme.servers, dInt .i64 v.scheme.degree, dInt .i64 v.scheme.group, dB v.up, dSl 6 cHeld v.versions, dSl 5 cJob v.jobs]
abbrev cPsn (p : Psn) : List D := [dInt .i64 p.id, dInt .i64 p.secret]
abbrev dHeld (x : Held) : D := dAgg (cHeld x)
abbrev dJob (x : Job) : D := dAgg (cJob x)
abbrev dSrv (x : Srv) : D := dAgg (cSrv x)
abbrev dNte (x : Nte) : D := dAgg (cNte x)
abbrev dPsn (x : Psn) : D := dAgg (cPsn x)
end Go.Q
