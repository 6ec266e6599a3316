/- Pins; plain mathematics, no program. -/
import Derived.Test.YtmofkofgpeibiaaQOwn5
import Derived.Test.YtmofkofgpeibiaaQMap
import Derived.Test.YtmofkofgpeibiaaQPlainZC
import Derived.Test.YtmofkofgpeibiaaQCuckB
set_option linter.unusedVariables false
set_option linter.unusedSimpArgs false
namespace Go.Q
open Classical
def keptOk (l : List Int) (j : Nat) : Prop := 1 ≤ l[j]?.getD default ∧ l[j]?.getD default ≤ 2147483646 ∧ (0 < j → l[j - 1]?.getD default < l[j]?.getD default)
def rowOk (kept : List Int) (l : List Pn) (j : Nat) : Prop := 0 ≤ (l[j]?.getD default).session ∧ (0 < j → (l[j - 1]?.getD default).session < (l[j]?.getD default).session) ∧ (l[j]?.getD default).version ∈ kept
structure okPins (p : Pins) : Prop where
 one : 1 ≤ p.kept.length
 most : p.kept.length ≤ 16
 reads : p.rows.length ≤ 64
 kept : ∀ j, j < p.kept.length → keptOk p.kept j
 rows : ∀ j, j < p.rows.length → rowOk p.kept p.rows j
end Go.Q

namespace Go.Q
open Classical
structure Dc where
 xs : List Int
 k : Nat
deriving Inhabited
def Dc.val (d : Dc) (n : Int) : Int := if d.k < d.xs.length then d.xs[d.k]?.getD default % n else 0
def Dc.next (d : Dc) : Dc := ⟨d.xs, if d.k < d.xs.length then d.k + 1 else d.k⟩
structure okDc (d : Dc) : Prop where
 byte : ∀ x ∈ d.xs, 0 ≤ x ∧ x ≤ 255
 len : d.xs.length ≤ 300
theorem Dc.val_nonneg {d : Dc} {n : Int} (hn : 1 ≤ n) : 0 ≤ d.val n := by
 unfold Dc.val
 split
 ·exact Int.emod_nonneg _ (by omega)
 ·omega
theorem Dc.val_lt {d : Dc} {n : Int} (hn : 1 ≤ n) : d.val n < n := by
 unfold Dc.val
 split
 ·exact Int.emod_lt_of_pos _ (by omega)
 ·omega
theorem Dc.next_ok {d : Dc} (h : okDc d) : okDc d.next := ⟨h.byte, h.len⟩
structure rowsP (kept : List Int) (l : List Pn) : Prop where
 nonneg : ∀ r ∈ l, 0 ≤ r.session
 mem : ∀ r ∈ l, r.version ∈ kept
 asc : l.Pairwise fun a b => a.session < b.session
structure keptP (l : List Int) : Prop where
 bd : ∀ v ∈ l, 1 ≤ v ∧ v ≤ 2147483646
 asc : l.Pairwise fun a b => a < b
end Go.Q

namespace Go.Q
open Classical
theorem okP_7 : okP 7 := by
 refine ⟨by omega, by omega, fun d h1 h2 h3 => ?_⟩
 have hd : d ≤ 2 := by by_cases h : d ≤ 2; (· exact h); (· exfalso; have := mul_bd (a := 3) (A := d) (b := 3) (B := d) (by omega) (by omega) (by omega) (by omega); omega)
 have : d = 2 := by omega
 subst this; omega

noncomputable def limN (s : Schm) (n : Int) : Int := if s.kind = 1 then n * (s.servers - 1) else if s.kind = 2 then n * s.degree else (n + s.group - 1) / s.group * s.degree
theorem grp_bd {n g : Int} (hn : 1 ≤ n ∧ n ≤ 1024) (hg : 1 ≤ g ∧ g ≤ 10) : 1 ≤ (n + g - 1) / g ∧ (n + g - 1) / g ≤ 1024 := by
 constructor
 ·exact (Int.le_ediv_iff_mul_le (by omega)).2 (by omega)
 ·have h1 : (n + g - 1) / g * g ≤ n + g - 1 := Int.ediv_mul_le _ (by omega)
  by_cases h : (n + g - 1) / g ≤ 1024
  ·exact h
  ·exfalso
   have h2 : 1025 * g ≤ (n + g - 1) / g * g := Int.mul_le_mul_of_nonneg_right (by omega) (by omega)
   have : n ≤ 1024 := hn.2
   omega
theorem limN_bd {s : Schm} {p n : Int} (hv : validS s p) (hn : 1 ≤ n ∧ n ≤ 1024) : 0 ≤ limN s n ∧ limN s n ≤ 10240 := by
 have hb := shape_bd hv.1
 have hs := hv.1
 unfold shapeS at hs
 unfold limN
 split
 ·have := mul_bd (a := n) (b := s.servers - 1) (A := 1024) (B := 10) (by omega) (by omega) (by omega) (by omega); omega
 ·split
  ·have := mul_bd (a := n) (b := s.degree) (A := 1024) (B := 10) (by omega) (by omega) (by omega) (by omega); omega
  ·have h3 : s.kind = 3 := by have := shape_kind hv.1; omega
   have hg := grp_bd hn (g := s.group) (by omega)
   have := mul_bd (a := (n + s.group - 1) / s.group) (b := s.degree) (A := 1024) (B := 10) (by omega) (by omega) (by omega) (by omega); omega
theorem lim_ok {s : Schm} {p n : Int} (hv : validS s p) (hn : 1 ≤ n ∧ n ≤ 1024) : limE s p n = 0 ∧ limL s p n = List.replicate (limN s n).toNat p := by
 have hl := lookE_ok hv hn
 have hs := hv.1
 unfold shapeS at hs
 unfold limE limL limN
 rw [if_neg (Classical.not_not.2 hl), if_neg (Classical.not_not.2 hl)]
 by_cases h1 : s.kind = 1
 ·have e := parE_ok (p := p) (rows := n) (s := s.servers) hv.2.1 (by omega) hn
  simp only [if_pos h1]
  exact ⟨e, by unfold limsP; rw [if_pos e]⟩
 ·have hp : s.servers < p := hv.2.2.resolve_left h1
  simp only [if_neg h1]
  by_cases h2 : s.kind = 2
  ·have e := planRE_ok (p := p) (s := s.servers) (d := s.degree) (rows := n) hv.2.1 (by omega) (by omega) hp hn
   simp only [if_pos h2]
   exact ⟨e, by unfold limsC; rw [if_pos e]⟩
  ·have h3 : s.kind = 3 := by have := shape_kind hv.1; omega
   have e := codRE_ok (codE_ok (p := p) (s := s.servers) (d := s.degree) (g := s.group) hv.2.1 (by omega) hp (by omega) (by omega) (by omega)) (grp_bd hn (g := s.group) (by omega))
   simp only [if_neg h2]
   exact ⟨e, by unfold limsG; rw [if_pos e]⟩
end Go.Q

namespace Go.Q
def askT (bk : List (List Int)) (pr : List Int) : Nat → List (Int × Int)
 | 0 => []
 | k + 1 => askT bk pr k ++ if 0 < (bk[k]?.getD default).length then [(((bk[k]?.getD default).length : Int), pr[k]?.getD default)] else []
def askL (b : Bat) : List (Int × Int) := askT b.bk b.pr b.bk.length
theorem ask_yes {bk : List (List Int)} {pr : List Int} {k : Nat} (h : 0 < (bk[k]?.getD default).length) : askT bk pr (k + 1) = askT bk pr k ++ [(((bk[k]?.getD default).length : Int), pr[k]?.getD default)] := by
 rw [askT, if_pos h]
theorem ask_no {bk : List (List Int)} {pr : List Int} {k : Nat} (h : ¬ 0 < (bk[k]?.getD default).length) : askT bk pr (k + 1) = askT bk pr k := by
 rw [askT, if_neg h, List.append_nil]
theorem ask_pre (bk : List (List Int)) (pr : List Int) (k : Nat) : ∀ j, ∃ r, askT bk pr (k + j) = askT bk pr k ++ r
 | 0 => ⟨[], by rw [List.append_nil]; rfl⟩
 | j + 1 => by
  obtain ⟨r, hr⟩ := ask_pre bk pr k j
  exact ⟨r ++ if 0 < (bk[k + j]?.getD default).length then [(((bk[k + j]?.getD default).length : Int), pr[k + j]?.getD default)] else [], by rw [show k + (j + 1) = (k + j) + 1 by omega, askT, hr, List.append_assoc]⟩
theorem ask_at {b : Bat} {k : Nat} (hk : k < b.bk.length) (h : 0 < (b.bk[k]?.getD default).length) : (askL b)[(askT b.bk b.pr k).length]? = some (((b.bk[k]?.getD default).length : Int), b.pr[k]?.getD default) := by
 obtain ⟨r, hr⟩ := ask_pre b.bk b.pr (k + 1) (b.bk.length - (k + 1))
 unfold askL
 rw [show k + 1 + (b.bk.length - (k + 1)) = b.bk.length by omega, ask_yes h] at hr
 rw [hr, List.append_assoc, List.getElem?_append_right (Nat.le_refl _), Nat.sub_self]
 rfl
theorem ask_len (bk : List (List Int)) (pr : List Int) : ∀ k, (askT bk pr k).length ≤ k
 | 0 => Nat.le_refl _
 | k + 1 => by
  have := ask_len bk pr k
  unfold askT
  rw [List.length_append]
  split <;> simp <;> omega
theorem ask_mem {bk : List (List Int)} {pr : List Int} : ∀ {k : Nat} {q : Int × Int}, q ∈ askT bk pr k → ∃ l, (l ∈ bk ∧ 0 < l.length) ∧ q.1 = (l.length : Int)
 | 0, _, h => by cases h
 | k + 1, q, h => by
  unfold askT at h
  rcases List.mem_append.1 h with h | h
  ·exact ask_mem h
  ·split at h
   ·rename_i hl
    have := List.mem_singleton.1 h
    subst this
    refine ⟨bk[k]?.getD default, ⟨?_, hl⟩, rfl⟩
    by_cases hk : k < bk.length
    ·rw [List.getElem?_eq_getElem hk]; exact List.getElem_mem hk
    ·rw [List.getElem?_eq_none (by omega)] at hl; exact absurd hl (by simp [default, instInhabitedList])
   ·cases h
theorem ascB_len {l : List Int} (h : ascB l) : l.length ≤ 1024 := by
 have := asc_len (a := 0) (n := 1024) h.1 h.2
 omega
theorem ask_bd {b : Bat} (h : BatOk b) {q : Int × Int} (hq : q ∈ askL b) : 1 ≤ q.1 ∧ q.1 ≤ 1024 := by
 obtain ⟨l, ⟨h1, h2⟩, h3⟩ := ask_mem hq
 have := ascB_len (h.asc l h1)
 omega
noncomputable def limT (s : Schm) (p : Int) (qs : List (Int × Int)) : List Int := qs.flatMap fun q => limL s p q.1
theorem limT_next {s : Schm} {p : Int} {qs : List (Int × Int)} {i : Nat} {x : Int × Int} (h : qs[i]? = some x) : limT s p (qs.take (i + 1)) = limT s p (qs.take i) ++ limL s p x.1 := by
 unfold limT
 rw [List.take_add_one, h, List.flatMap_append]
 simp
theorem limT_len {s : Schm} {p : Int} (hv : validS s p) : ∀ {qs : List (Int × Int)}, (∀ q ∈ qs, 1 ≤ q.1 ∧ q.1 ≤ 1024) → (limT s p qs).length ≤ 10240 * qs.length
 | [], _ => by simp [limT]
 | q :: qs, h => by
  have h1 := h q (List.mem_cons_self ..)
  have ih := limT_len hv (qs := qs) fun r hr => h r (List.mem_cons_of_mem _ hr)
  have h2 := (lim_ok hv h1).2
  have h3 := limN_bd hv h1
  unfold limT at ih ⊢
  rw [List.flatMap_cons, List.length_append, h2, List.length_replicate, List.length_cons]
  omega
def lastA (l : List Int) (k : Nat) : Int := if k = 0 then -1 else l[k - 1]?.getD default
theorem lastA_lt {l : List Int} (h : ascB l) {k : Nat} (hk : k < l.length) : lastA l k < l[k]?.getD default ∧ l[k]?.getD default < 1024 := by
 have h1 := h.2 (l[k]?.getD default) (by rw [List.getElem?_eq_getElem hk]; exact List.getElem_mem hk)
 refine ⟨?_, h1.2⟩
 unfold lastA
 split
 ·omega
 ·rw [List.getElem?_eq_getElem (by omega : k - 1 < l.length), List.getElem?_eq_getElem hk]
  exact List.pairwise_iff_getElem.1 h.1 (k - 1) k (by omega) hk (by omega)
theorem lastA_next (l : List Int) (k : Nat) : lastA l (k + 1) = l[k]?.getD default := by unfold lastA; rw [if_neg (by omega)]; rfl
end Go.Q

namespace Go.Q
variable {P : Program} {f : FuncId} {N : Nat} {I0 : Imm} {R : Goal} {g : G} {M : List Res} {k : List Item}
variable {ty : TypeId} {pos : String} {after : Array Edge} {ops : Array Oper} {rest : List Oper}
end Go.Q

namespace Go.Q
variable {P : Program} {f : FuncId} {N : Nat} {I0 : Imm} {R : Goal} {g : G} {M : List Res} {k : List Item}
theorem d_ifT {p : Prop} {d : D} (hp : p) : ∀ I v, d.rel I v → (dIf p d).rel I v := fun _ _ h => ⟨fun _ => h, fun hn => absurd hp hn⟩
theorem guard_yields {l : List Oper} {gs : Tmp} {j : Nat} (hj : (l[j]?).bind (·.dst) = some gs) (a : Act) : yielded l.toArray a.tmps j = (match a.tmps.getD gs undef with | .bool b => some b | _ => none) := by
 simp only [yielded, List.getElem?_toArray, hj, Option.bind_some, Array.getD_eq_getD_getElem?]
 cases hx : a.tmps[gs]? with
 | none => rfl
 | some u => cases u <;> rfl
theorem run_gsure {l : List Oper} {rest : List Oper} {dst : Option Tmp} {gs : Tmp} {j : Nat} {want : Bool} {op : Op} {ty : TypeId} {pos : String} {after : Array Edge} {dg : D} {c : Prop}
  (hj : (l[j]?).bind (·.dst) = some gs) (hg : look g gs = some dg) (hgd : guardD want dg c) (hc : c)
  (h : RunL P f N I0 R g M l.toArray (⟨dst, op, ty, pos, after, none⟩ :: rest) k) : RunL P f N I0 R g M l.toArray (⟨dst, op, ty, pos, after, some (j, want)⟩ :: rest) k := by
 constructor
 intro I a w b cs hb hk hl hs hi
 have hgs := hs.slot gs _ hg
 have hw : Region.wanted ⟨dst, op, ty, pos, after, some (j, want)⟩ (yielded l.toArray (R.act a).tmps) = true := by
  have hy : yielded l.toArray (R.act a).tmps j = _ := guard_yields hj (R.act a)
  simp only [Region.wanted, hy]
  exact beq_iff_eq.2 ((hgd I _ hgs).2 hc)
 have h1 := h.go I a w b cs hb hk hl hs hi
 simp only [wpListIn] at h1 ⊢
 rw [if_pos hw]
 rw [if_pos (by rfl)] at h1
 exact h1
theorem run_gskip {l : List Oper} {rest : List Oper} {dst gs : Tmp} {j : Nat} {want : Bool} {op : Op} {ty : TypeId} {pos : String} {after : Array Edge} {dg : D} {c : Prop}
  (hj : (l[j]?).bind (·.dst) = some gs) (hg : look g gs = some dg) (hgd : guardD want dg c) (hc : ¬ c) (hN : Nat.blt dst N = true) (d : D)
  (h : RunL P f N I0 R ((dst, dIf c d) :: g) M l.toArray rest k) : RunL P f N I0 R g M l.toArray (⟨some dst, op, ty, pos, after, some (j, want)⟩ :: rest) k := by
 constructor
 intro I a w b cs hb hk hl hs hi
 have hgs := hs.slot gs _ hg
 have hN' : dst < N := by simpa [Nat.blt_eq] using hN
 refine wpl_skip ?_ ?_
 ·simp only [Region.wanted, guard_yields hj a]
  have : ¬ ((match a.tmps.getD gs undef with | .bool b => some b | _ => none) = some want) := fun e => hc ((hgd I _ hgs).1 e)
  simpa using this
 ·exact h.go I _ w b cs hb hk hl (hs.put (d := dIf _ d) ⟨fun hcc => absurd hcc hc, fun _ => rfl⟩ hN') hi
end Go.Q

namespace Go.Q
variable {P : Program} {N : Nat} {g : G} {M : List Res}
variable {dst : Option Tmp} {ty : TypeId} {pos : String} {after : Array Edge} {gd : Option (Nat × Bool)}
instance (f : FuncId) : One (dVal (.func (.func f) #[] #[])) := ⟨fun h => by rw [show _ = _ from h]; exact ⟨rfl, rfl⟩⟩
end Go.Q

namespace Go.Q
open Go.Proofs
open Classical
theorem bwithin_spec (n lo hi : Int) : SpecP Try.prog 15 [dInt .i64 n, dInt .i64 lo, dInt .i64 hi] (dB (lo ≤ n ∧ n ≤ hi)) := by
 refine specP_of_body Try.func15 rfl rfl (fun I M => ?_)
 refine au 17 ?_
 refine run_retP Try.func15 rfl rfl ?_
 exact d_B (by constructor <;> (intro h; omega))
theorem bplan1_spec (n r : Int) (hn : 1 ≤ n ∧ n ≤ 1024) : SpecP Try.prog 17 [dInt .i64 r, dBox [dInt .i64 n]] (dB (¬ (0 ≤ r ∧ r ≤ n - 1))) := by
 refine specP_of_body Try.func17 rfl rfl (fun I M => ?_)
 refine au 9 ?_
 refine run_op (loc_call (bwithin_spec _ _ _) rfl) rfl ?_
 refine au 3 ?_
 refine run_retP Try.func17 rfl rfl ?_
 exact fun _ _ h => h
theorem cfB_spec (n : Int) (hn : 1 ≤ n ∧ n ≤ 1024) (ls : List Int) : SpecP Try.prog 16 [dInts ls, dClo 17 [dBox [dInt .i64 n]]] (dB (∃ x ∈ ls, ¬ (0 ≤ x ∧ x ≤ n - 1))) :=
 specP_pre (containsFuncI_spec (fun x => ¬ (0 ≤ x ∧ x ≤ n - 1)) ls) (relL_last (ds := [dInts ls]) (clo_fun (P := Try.prog) (Ds := fun x : Int => [dInt .i64 x]) (d := fun x => dB (¬ (0 ≤ x ∧ x ≤ n - 1))) (fun x => bplan1_spec n x hn)))
theorem plan_spec (h : Hsh) (hh : okH h) (n : Nat) (hn : 1 ≤ n ∧ n ≤ 1024) (rows : List Int) (hr : ∀ r ∈ rows, 0 ≤ r ∧ r < (n : Int)) (hl : 1 ≤ rows.length) : SpecP Try.prog 9 [dHsh h, dInt .i64 (n : Nat), dInts rows] (dTup [dBat (planB h n rows), dInt .i64 (asgE h rows)]) := by
  refine specP_of_body Try.func9 rfl rfl (fun I M => ?_)
  refine au 4 ?_
  refine run_new (loc_allocOwn (by simp)) rfl (fun b1 _ => ?_)
  refine au 6 ?_
  refine run_op (loc_call (bwithin_spec _ _ _) rfl) rfl ?_
  refine au 10 ?_
  refine run_gop rfl rfl gdI.ok (fun hg => loc_call (cfB_spec _ (by omega) _) rfl) rfl ?_
  refine au 3 ?_
  refine run_cond rfl (fun h2 => ?_) (fun h2 => ?_)
  · exfalso; rcases h2 with (h1 | h1) | ⟨x, h1, h2⟩; (· omega); (· omega); (· have := hr x h1; omega)
  ·
   refine au 5 ?_
   refine run_op (loc_call (layout_spec h hh n hn.2) rfl) rfl ?_
   refine au 12 ?_
   refine run_cond rfl (fun h3 => ?_) (fun h3 => ?_)
   · exfalso; exact h3 rfl
   ·
    refine au 5 ?_
    refine run_op (loc_call (assign_spec h hh rows (fun x hx => by have := hr x hx; unfold okIt; omega)) rfl) rfl ?_
    refine au 3 ?_
    refine run_new (loc_allocOwn (by simp)) rfl (fun b4 _ => ?_)
    refine au 9 ?_
    refine run_cond rfl (fun h5 => ?_) (fun h5 => ?_)
    ·
     have c1 := h5
     refine au 7 ?_
     refine run_retGP Try.func9 rfl (.cellN rfl (.there (.here)) (by rfl) (.tmp rfl (.nil))) ?_ (fun _ _ h => inv_tail (inv_tail (h)))
     exact d_tup2 (d_aggU3 (by unfold planB; rw [if_neg c1]) (.cons d_nil (.cons d_nil (.cons d_nil .nil)))) (fun _ _ h => h)
    ·
     have c1 : asgE h rows = 0 := Classical.not_not.1 h5
     have hA := asg_ok hh c1
     have hll := layF_len h n
     have hal := hA.len
     refine au 7 ?_
     refine run_new (loc_allocOwn (by simp)) rfl (fun b11 _ => ?_)
     refine au 6 ?_
     first | refine runL_fact (s := 53) rfl (fun _ _ h => dSl_len h) (fun hlen6 => ?_) | skip
     refine au 4 ?_
     refine run_cellsUp (kk := 1) (b := b11) (dVal (.slice none 0 0)) (dSlV (.slice none 0 0)) (.here) rfl (fun J u h => ⟨h, _, _, _, h⟩) ?_
     refine run_rowNil 3 1 fI ?_
     refine run_front (.here) ?_
     refine run_front (.there (.here)) ?_
     refine run_loopF (σ := Value × Nat) (ks := [2, 6, 11, 53, 54]) (.cons rfl (.cons rfl (.cons rfl (.cons rfl (.cons rfl (.nil)))))) (fun q => [(55, dInt .i64 (q.2 : Nat))]) (fun q => [rCells b11 35 [dRows (layF h n), dSlV q.1, dInts (asgB h rows)], rRow q.1 3 1 fI (prK (layF h n) rows (asgB h rows) q.2)]) (fun q => q.2 ≤ (layF h n).length) (fun q => (layF h n).length - q.2) ((.slice none 0 0, 0)) (Nat.zero_le _) (.cons rfl (by first | exact fun _ _ h => h | exact d_int (by omega) | exact d_int (by simp) | exact d_intN (by omega) | exact d_any) .nil) (rfl) ?_
     intro q hq ih7
     have hql := prK_len (layF h n) rows (asgB h rows) q.2
     refine au 5 ?_
     refine run_cond rfl (fun h8 => ?_) (fun h8 => ?_)
     ·
      have hqn : q.2 < (layF h n).length := by omega
      have hlw := hA.low ((asgB h rows)[q.2]?.getD default) (by rw [List.getElem?_eq_getElem (by omega)]; exact List.getElem_mem _)
      refine au 27 ?_
      refine run_cond rfl (fun h9 => ?_) (fun h9 => ?_)
      ·
       have c2 := h9
       refine dr_start _ (.one (σ := Value) 9 (fun _ => True)) [⟨[(11, none)], [], none⟩,
           ⟨[(73, some (0, false))], [0], some (0, 0, false)⟩,
           ⟨[(13, none)], [], none⟩,
           ⟨[(2, none)], [], none⟩,
           ⟨[(14, none)], [], none⟩,
           ⟨[(76, some (3, false)), (77, some (4, false))], [3, 4], none⟩,
           ⟨[(78, some (5, false))], [3, 4, 5], none⟩,
           ⟨[(75, some (2, false)), (79, some (6, false))], [2, 3, 4, 5, 6], none⟩,
           ⟨[(80, some (7, false))], [2, 3, 4, 5, 6, 7], none⟩,
           ⟨[(74, some (1, false)), (81, some (8, false))], [0, 1, 2, 3, 4, 5, 6, 7, 8], some (1, 0, true)⟩,
           ⟨[(11, none)], [0, 1, 2, 3, 4, 5, 6, 7, 8, 9], none⟩,
           ⟨[(83, some (10, false)), (82, some (9, false))], [0, 1, 2, 3, 4, 5, 6, 7, 8, 9, 10], some (0, 0, true)⟩] [_, _, _, _] _ rfl rfl ?_
       refine da 1 ?_
       first | refine dq_read rfl (fun s => .op rfl (.nil)) rfl rfl (fun s hs _ hm => LocP.upV (loc_loadOwn1 rfl hm (by rfl))) (by exact .cons (.inr fun _ _ _ => rfl) (.nil)) ?_ | refine dq_read rfl (fun s => .op rfl (.nil)) rfl rfl (fun s hs _ hm => loc_loadOwn1 rfl hm (by rfl)) (by exact .cons (.inr fun _ _ _ => rfl) (.nil)) ?_
       refine da 5 ?_
       refine dq_pure rfl (fun s => .op rfl (.op rfl (.nil))) (fun s hs _ => loc_call (indexI_spec _ _) rfl) (by exact .cons (.inr fun _ _ _ => rfl) (.nil)) ?_
       refine dq_pure rfl (fun s => .op rfl (.nil)) (fun s hs _ => loc_buildSlice rfl rfl (.one rfl (.nil)) rfl rfl) (by exact .cons (.inr fun _ _ _ => rfl) (.nil)) ?_
       refine dq_choose id (fun _ t => t) rfl (fun _ _ => ⟨rfl, id, trivial⟩) (fun s => .op rfl (.op rfl (.nil))) rfl rfl (fun s hs => LocM.rowV (loc_append1 _ rfl rfl rfl rfl (by first | omega | (simp [lenMax]; omega) | (simp [lenMax]; done) | assumption) (by first | omega | (simp [lenMax]; omega) | (simp [lenMax]; done) | assumption))) (by exact .cons (.inl rfl) (.nil)) (fun _ _ => rfl) ?_
       refine da 1 ?_
       refine dq_write0 rfl (fun s => .op rfl (.op rfl (.nil))) rfl rfl (fun s hs => loc_store1 rfl rfl rfl) (by exact .cons (.inl rfl) (.nil)) ?_
       refine dq_end (rs := [_, _, _, _]) (.bool true) rfl (fun _ => rfl) (.cons rfl (.nil)) rfl (fun _ => rfl) (fun v10 _ => ?_)
       dsimp only [outG, outM, List.map, List.set, id]
       refine au 6 ?_
       exact run_againF ih7 ((v10, q.2 + 1)) (by simp only; omega) (by simp only; omega) (.cons rfl (by first | exact fun _ _ h => h | exact d_int (by omega) | exact d_int (by simp) | exact d_intN (by omega) | exact d_any) .nil) (.cons rfl (fun _ _ x => x) (.cons rfl (fun _ _ x => x) (.cons rfl (fun _ _ x => x) (.cons rfl (fun _ _ x => x) (.cons rfl (fun _ _ x => x) (.nil)))))) (by simp only [appR]; rw [prK_next, show prAt ((layF h n)[q.2]?.getD default) rows ((asgB h rows)[q.2]?.getD default) = idxP (rows[(((asgB h rows)[q.2]?.getD default)).toNat]?.getD default = ·) ((layF h n)[q.2]?.getD default) by unfold prAt; rw [if_pos (by omega)]]; try rfl)
      ·
       have c2 := h9
       refine au 3 ?_
       first | refine runL_fact (s := 85) rfl (fun _ _ h => dSl_len h) (fun hlen11 => ?_) | skip
       refine au 4 ?_
       refine run_cond rfl (fun h12 => ?_) (fun h12 => ?_)
       ·
        have c3 := h12
        refine au 2 ?_
        first | refine run_op (LocP.upV (loc_loadOwn1 rfl (.here) (by rfl))) rfl ?_ | refine run_op (loc_loadOwn1 rfl (.here) (by rfl)) rfl ?_
        refine run_op (loc_buildSlice rfl rfl (.one rfl (.nil)) rfl rfl) rfl ?_
        refine run_append1 rfl (.there (.here)) rfl (by rfl) (by rfl) (by first | omega | (simp [lenMax]; omega) | (simp [lenMax]; done) | assumption) (by first | omega | (simp [lenMax]; omega) | (simp [lenMax]; done) | assumption) rfl (fun v13 => ?_)
        refine runL_rowV (s := 91) rfl (.there (.here)) ?_
        refine au 9 ?_
        exact run_againF ih7 ((v13, q.2 + 1)) (by simp only; omega) (by simp only; omega) (.cons rfl (by first | exact fun _ _ h => h | exact d_int (by omega) | exact d_int (by simp) | exact d_intN (by omega) | exact d_any) .nil) (.cons rfl (fun _ _ x => x) (.cons rfl (fun _ _ x => x) (.cons rfl (fun _ _ x => x) (.cons rfl (fun _ _ x => x) (.cons rfl (fun _ _ x => x) (.nil)))))) (by simp only [appR]; rw [prK_next, show prAt ((layF h n)[q.2]?.getD default) rows ((asgB h rows)[q.2]?.getD default) = 0 by unfold prAt; rw [if_neg (by omega), if_pos (by omega)]]; try rfl)
       ·
        have c3 := h12
        refine au 2 ?_
        first | refine run_op (LocP.upV (loc_loadOwn1 rfl (.here) (by rfl))) rfl ?_ | refine run_op (loc_loadOwn1 rfl (.here) (by rfl)) rfl ?_
        refine run_op (loc_buildSlice rfl rfl (.one rfl (.nil)) rfl rfl) rfl ?_
        refine run_append1 rfl (.there (.here)) rfl (by rfl) (by rfl) (by first | omega | (simp [lenMax]; omega) | (simp [lenMax]; done) | assumption) (by first | omega | (simp [lenMax]; omega) | (simp [lenMax]; done) | assumption) rfl (fun v14 => ?_)
        refine runL_rowV (s := 68) rfl (.there (.here)) ?_
        refine au 9 ?_
        exact run_againF ih7 ((v14, q.2 + 1)) (by simp only; omega) (by simp only; omega) (.cons rfl (by first | exact fun _ _ h => h | exact d_int (by omega) | exact d_int (by simp) | exact d_intN (by omega) | exact d_any) .nil) (.cons rfl (fun _ _ x => x) (.cons rfl (fun _ _ x => x) (.cons rfl (fun _ _ x => x) (.cons rfl (fun _ _ x => x) (.cons rfl (fun _ _ x => x) (.nil)))))) (by simp only [appR]; rw [prK_next, show prAt ((layF h n)[q.2]?.getD default) rows ((asgB h rows)[q.2]?.getD default) = -1 by unfold prAt; rw [if_neg (by omega), if_neg (by omega)]]; try rfl)
     ·
      refine au 2 ?_
      rw [show q.2 = (layF h n).length by omega]
      first | refine run_freezeRowCellV (kk := 1) (.there (.here)) (.here) rfl ?_ | refine run_freezeRowCell (kk := 1) (.there (.here)) (.here) rfl ?_
      refine au 5 ?_
      refine run_retGP Try.func9 rfl (.cellN rfl (.there (.there (.here))) (by rfl) (.tmp rfl (.nil))) ?_ (fun _ _ h => inv_tail (inv_tail (inv_tail (h))))
      exact d_tup2 (d_eq (by unfold planB; rw [if_pos c1]; rfl)) (d_int c1.symm)
end Go.Q

namespace Go.Q
open Go.Proofs
open Classical
theorem ascends_spec (l : List Int) (h : ascB l) : SpecP Try.prog 24 [dInts l] (dB True) := by
  refine specP_of_body Try.func24 rfl rfl (fun I M => ?_)
  refine au 12 ?_
  first | refine runL_fact (s := 6) rfl (fun _ _ h => dSl_len h) (fun hlen1 => ?_) | skip
  refine au 4 ?_
  refine run_loopC (σ := Nat) (ks := [6, 7]) (.cons rfl (.cons rfl (.nil))) (fun k => [(3, dInt .i64 (lastA l k)), (8, dInt .i64 (k : Nat))]) (fun k => k ≤ l.length) (fun k => l.length - k) (0) (Nat.zero_le _) (.cons rfl (d_int rfl) (.cons rfl (by first | exact fun _ _ h => h | exact d_int (by omega) | exact d_int (by simp) | exact d_intN (by omega) | exact d_any) .nil)) ?_
  intro k hk ih2
  refine au 5 ?_
  refine run_cond rfl (fun h3 => ?_) (fun h3 => ?_)
  ·
   have hlt := lastA_lt h (k := k) (by omega)
   refine au 21 ?_
   refine run_cond rfl (fun h4 => ?_) (fun h4 => ?_)
   · exfalso; have := h4; omega
   ·
    refine au 10 ?_
    exact run_againC ih2 (k + 1) (by omega) (by omega) (.cons rfl (d_int (lastA_next l k).symm) (.cons rfl (by first | exact fun _ _ h => h | exact d_int (by omega) | exact d_int (by simp) | exact d_intN (by omega) | exact d_any) .nil)) (.cons rfl (fun _ _ x => x) (.cons rfl (fun _ _ x => x) (.nil)))
  ·
   refine au 5 ?_
   refine run_retP Try.func24 rfl rfl ?_
   exact fun _ _ h => h
theorem numbered_spec (it : List Int) (hn : it.length ≤ 64) (h : ∃ k : Nat, (1 ≤ k ∧ k ≤ 12) ∧ (flt (· ≠ -1) it).Perm (itsN 0 k)) : SpecP Try.prog 25 [dInts it] (dB True) := by
  obtain ⟨k, hk, hkp⟩ := h
  have hkl : (flt (· ≠ -1) it).length = k := by rw [hkp.length_eq]; simp [itsN]
  refine specP_of_body Try.func25 rfl rfl (fun I M => ?_)
  refine au 12 ?_
  first | refine runL_fact (s := 8) rfl (fun _ _ h => dSl_len h) (fun hlen1 => ?_) | skip
  refine au 4 ?_
  refine run_rowNil 3 1 fI ?_
  refine run_loopF (σ := Value × Nat) (ks := [8, 9]) (.cons rfl (.cons rfl (.nil))) (fun q => [(3, dVal q.1), (10, dInt .i64 (q.2 : Nat))]) (fun q => [rRow q.1 3 1 fI (flt (· ≠ -1) (it.take q.2))]) (fun q => q.2 ≤ it.length) (fun q => it.length - q.2) ((.slice none 0 0, 0)) (Nat.zero_le _) (.cons rfl (by first | exact fun _ _ h => h | exact d_int (by omega) | exact d_int (by simp) | exact d_intN (by omega) | exact d_any) (.cons rfl (by first | exact fun _ _ h => h | exact d_int (by omega) | exact d_int (by simp) | exact d_intN (by omega) | exact d_any) .nil)) (rfl) ?_
  intro q hq ih2
  have hfl := flt_len (· ≠ -1) (it.take q.2)
  rw [List.length_take] at hfl
  have hlm : (flt (· ≠ -1) (it.take q.2)).length + 1 ≤ lenMax := by unfold lenMax; omega
  refine au 5 ?_
  refine run_cond rfl (fun h3 => ?_) (fun h3 => ?_)
  ·
   have hft := flt_take (· ≠ (-1 : Int)) (xs := it) (k := q.2) (by omega)
   refine au 14 ?_
   refine run_cond rfl (fun h4 => ?_) (fun h4 => ?_)
   ·
    rw [if_pos h4] at hft
    refine au 3 ?_
    refine run_op (loc_buildSlice rfl rfl (.one rfl (.nil)) rfl rfl) rfl ?_
    refine run_append1 rfl (.here) rfl (by rfl) (by rfl) (by first | omega | (simp [lenMax]; omega) | (simp [lenMax]; done) | assumption) (by first | omega | (simp [lenMax]; omega) | (simp [lenMax]; done) | assumption) rfl (fun v5 => ?_)
    refine au 7 ?_
    exact run_againF ih2 ((v5, q.2 + 1)) (by simp only; omega) (by simp only; omega) (.cons rfl (by first | exact fun _ _ h => h | exact d_int (by omega) | exact d_int (by simp) | exact d_intN (by omega) | exact d_any) (.cons rfl (by first | exact fun _ _ h => h | exact d_int (by omega) | exact d_int (by simp) | exact d_intN (by omega) | exact d_any) .nil)) (.cons rfl (fun _ _ x => x) (.cons rfl (fun _ _ x => x) (.nil))) (by simp only [appR]; rw [hft])
   ·
    rw [if_neg h4, List.append_nil] at hft
    refine au 6 ?_
    exact run_againF ih2 ((q.1, q.2 + 1)) (by simp only; omega) (by simp only; omega) (.cons rfl (by first | exact fun _ _ h => h | exact d_int (by omega) | exact d_int (by simp) | exact d_intN (by omega) | exact d_any) (.cons rfl (by first | exact fun _ _ h => h | exact d_int (by omega) | exact d_int (by simp) | exact d_intN (by omega) | exact d_any) .nil)) (.cons rfl (fun _ _ x => x) (.cons rfl (fun _ _ x => x) (.nil))) (by simp only [appR]; rw [hft])
  ·
   refine au 2 ?_
   have hall : it.take q.2 = it := List.take_of_length_le (by omega)
   rw [hall]
   refine au 2 ?_
   refine run_callM rfl (.here) (sort_spec q.1 _ (by omega)) rfl (fun r9 hr9 => ?_)
   refine au 1 ?_
   have hrl := hr9.1.length_eq
   refine run_rowForm (.here) (by omega) (fun bq cq eq => ?_)
   rw [eq]
   refine au 8 ?_
   refine run_loopC (σ := Nat) (ks := [23, 24]) (.cons rfl (.cons rfl (.nil))) (fun j => [(25, dInt .i64 (j : Nat))]) (fun j => j ≤ r9.length) (fun j => r9.length - j) (0) ((by omega)) (.cons rfl (by first | exact fun _ _ h => h | exact d_int (by omega) | exact d_int (by simp) | exact d_intN (by omega) | exact d_any) .nil) ?_
   intro j hj ih6
   refine au 5 ?_
   refine run_cond rfl (fun h7 => ?_) (fun h7 => ?_)
   ·
    have hrg := sort_range (hr9.1.trans hkp) hr9.2 j (by omega)
    refine au 17 ?_
    refine run_cond rfl (fun h8 => ?_) (fun h8 => ?_)
    · exfalso; exact h8 hrg
    ·
     refine au 6 ?_
     exact run_againC ih6 (j + 1) (by omega) (by omega) (.cons rfl (by first | exact fun _ _ h => h | exact d_int (by omega) | exact d_int (by simp) | exact d_intN (by omega) | exact d_any) .nil) (.cons rfl (fun _ _ x => x) (.cons rfl (fun _ _ x => x) (.nil)))
   ·
    refine au 5 ?_
    refine run_drop (.cons _ (.refl _)) ?_
    refine run_retP Try.func25 rfl rfl ?_
    exact fun _ _ h => h
theorem bvalid_spec (b : Bat) (h : BatOk b) : SpecP Try.prog 12 [dBat b] (dB True) := by
  have hbm := h.most
  have hbp := h.prl
  have hbi := h.itl
  refine specP_of_body Try.func12 rfl rfl (fun I M => ?_)
  refine au 9 ?_
  first | refine runL_fact (s := 7) rfl (fun _ _ h => dSl_len h) (fun hlen1 => ?_) | skip
  refine au 7 ?_
  refine run_op (loc_call (bwithin_spec _ _ _) rfl) rfl ?_
  refine au 18 ?_
  refine run_cond rfl (fun h2 => ?_) (fun h2 => ?_)
  · exfalso; have := h2; omega
  ·
   refine au 6 ?_
   first | refine runL_fact (s := 27) rfl (fun _ _ h => dSl_len h) (fun hlen3 => ?_) | skip
   refine au 4 ?_
   refine run_loopC (σ := Nat) (ks := [1, 27, 28]) (.cons rfl (.cons rfl (.cons rfl (.nil)))) (fun k => [(29, dInt .i64 (k : Nat))]) (fun k => k ≤ b.bk.length) (fun k => b.bk.length - k) (0) ((by omega)) (.cons rfl (by first | exact fun _ _ h => h | exact d_int (by omega) | exact d_int (by simp) | exact d_intN (by omega) | exact d_any) .nil) ?_
   intro k hk ih4
   refine au 5 ?_
   refine run_cond rfl (fun h5 => ?_) (fun h5 => ?_)
   ·
    have hkn : k < b.bk.length := by omega
    refine au 15 ?_
    refine run_op (loc_call (ascends_spec _ (h.asc _ (getD_mem hkn))) rfl) rfl ?_
    refine au 2 ?_
    refine run_cond rfl (fun h6 => ?_) (fun h6 => ?_)
    · exfalso; exact h6 trivial
    ·
     refine au 5 ?_
     first | refine runL_fact (s := 38) rfl (fun _ _ h => dSl_len h) (fun hlen7 => ?_) | skip
     refine au 4 ?_
     refine run_cond rfl (fun h8 => ?_) (fun h8 => ?_)
     ·
      have hno := h.none k hkn (by omega)
      refine au 18 ?_
      refine run_cond rfl (fun h9 => ?_) (fun h9 => ?_)
      · exfalso; have := h9; omega
      ·
       refine au 7 ?_
       exact run_againC ih4 (k + 1) (by omega) (by omega) (.cons rfl (by first | exact fun _ _ h => h | exact d_int (by omega) | exact d_int (by simp) | exact d_intN (by omega) | exact d_any) .nil) (.cons rfl (fun _ _ x => x) (.cons rfl (fun _ _ x => x) (.cons rfl (fun _ _ x => x) (.nil))))
     ·
      have hso := h.some k hkn (by omega)
      refine au 8 ?_
      first | refine runL_fact (s := 61) rfl (fun _ _ h => dSl_len h) (fun hlen10 => ?_) | skip
      refine au 2 ?_
      refine run_op (loc_call (bwithin_spec _ _ _) rfl) rfl ?_
      refine au 12 ?_
      refine run_cond rfl (fun h11 => ?_) (fun h11 => ?_)
      · exfalso; have := h11; omega
      ·
       refine au 7 ?_
       exact run_againC ih4 (k + 1) (by omega) (by omega) (.cons rfl (by first | exact fun _ _ h => h | exact d_int (by omega) | exact d_int (by simp) | exact d_intN (by omega) | exact d_any) .nil) (.cons rfl (fun _ _ x => x) (.cons rfl (fun _ _ x => x) (.cons rfl (fun _ _ x => x) (.nil))))
   ·
    refine au 5 ?_
    refine run_op (loc_call (numbered_spec _ (by omega) h.num) rfl) rfl ?_
    refine au 2 ?_
    refine run_retP Try.func12 rfl rfl ?_
    exact fun _ _ h => h
theorem blook_spec (s : Schm) (p : Int) (hv : validS s p) (b : Bat) (h : BatOk b) : SpecP Try.prog 26 [dSchm s, dAgg [dInt .i64 p], dBat b] (dInt .i64 0) := by
  refine specP_of_body Try.func26 rfl rfl (fun I M => ?_)
  refine au 12 ?_
  refine run_op (loc_call (bvalid_spec b h) rfl) rfl ?_
  refine au 3 ?_
  refine run_cond rfl (fun h1 => ?_) (fun h1 => ?_)
  · exfalso; exact h1 trivial
  ·
   refine au 4 ?_
   refine run_op (loc_call (valid_spec _ _) rfl) rfl ?_
   refine au 3 ?_
   refine run_cond rfl (fun h2 => ?_) (fun h2 => ?_)
   · exfalso; exact h2 hv
   ·
    refine au 6 ?_
    refine run_retP Try.func26 rfl rfl ?_
    exact fun _ _ h => h
theorem basked1_iter (b : Bat) (h : BatOk b) : ∀ (I : Imm) (lb : List Value), relL [dBox (cBat b)] I lb → IterOk Try.prog 38 lb (α := Int × Int) (fun q => [dInt .i64 q.1, dInt .i64 q.2]) (askL b) ([]) I := by
  have hbp := h.prl
  refine iter_of_body Try.func38 rfl rfl (fun l σ φ Mo F s0 I h0 hy => ?_)
  refine au 4 ?_
  first | refine runL_fact (s := 6) rfl (fun _ _ h => dSl_len h) (fun hlen1 => ?_) | skip
  refine au 4 ?_
  refine run_loopE (σ := Nat × σ) (ks := [0, 1, 6, 7]) (.cons rfl (.cons rfl (.cons rfl (.cons rfl (.nil))))) (fun t => [(8, dInt .i64 (t.1 : Nat))]) (fun t => Mo (askT b.bk b.pr t.1).length t.2 ++ (([] : List Res) ++ F)) (fun t => t.1 ≤ b.bk.length ∧ φ (askT b.bk b.pr t.1).length t.2) (fun t => b.bk.length - t.1) ((0, s0)) (⟨Nat.zero_le _, h0⟩) (.cons rfl (by first | exact fun _ _ h => h | exact d_int (by omega) | exact d_int (by simp) | exact d_intN (by omega) | exact d_any) .nil) (rfl) ?_
  rintro t ⟨hi, hs⟩ ih2
  refine au 5 ?_
  refine run_cond rfl (fun h3 => ?_) (fun h3 => ?_)
  ·
   have hil : t.1 < b.bk.length := by omega
   refine au 12 ?_
   by_cases hkn : (((b.bk[t.1]?.getD default).length : Nat) : Int) > 0
   ·
    have hE := ask_yes (bk := b.bk) (pr := b.pr) (k := t.1) (by omega)
    refine au 2 ?_
    first | refine runL_fact (s := 13) rfl (fun _ _ h => dSl_len h) (fun hlen4 => ?_) | skip
    refine au 3 ?_
    refine run_gsure rfl rfl gdI.ok hkn ?_
    refine au 1 ?_
    refine run_gsure rfl rfl gdI.ok hkn ?_
    refine au 1 ?_
    refine run_gsure rfl rfl gdI.ok hkn ?_
    first | refine runL_fact (s := 18) rfl (fun _ _ h => dSl_len h) (fun hlen5 => ?_) | skip
    refine au 1 ?_
    refine run_gsure rfl rfl gdI.ok hkn ?_
    refine au 1 ?_
    refine run_gsure rfl rfl gdI.ok hkn ?_
    refine au 1 ?_
    refine run_gsure rfl rfl gdI.ok hkn ?_
    refine au 1 ?_
    refine run_gsure rfl rfl gdI.ok hkn ?_
    refine au 1 ?_
    refine run_gsure rfl rfl gdI.ok hkn ?_
    refine au 1 ?_
    refine run_gsure rfl rfl gdI.ok hkn ?_
    refine run_yieldOp hy (i := (askT b.bk b.pr t.1).length) (x := ((((b.bk[t.1]?.getD default).length : Nat) : Int), b.pr[t.1]?.getD default)) (s := t.2) rfl rfl rfl (ask_at hil (by omega)) hs rfl (fun I us hr => hr) (fun s9 hs9 => ?_)
    refine run_gsure rfl rfl gdI.ok hkn ?_
    refine au 1 ?_
    refine runL_recast (s := 26) rfl (d_ifT hkn) ?_
    refine au 2 ?_
    refine run_cond rfl (fun h6 => ?_) (fun h6 => ?_)
    · exfalso; simp at h6
    ·
     refine au 6 ?_
     exact run_againE ih2 ((t.1 + 1, s9)) (⟨by simp only; omega, by simp only; rw [hE, List.length_append]; exact hs9⟩) (by simp only; omega) (.cons rfl (by first | exact fun _ _ h => h | exact d_int (by omega) | exact d_int (by simp) | exact d_intN (by omega) | exact d_any) .nil) (.cons rfl (fun _ _ x => x) (.cons rfl (fun _ _ x => x) (.cons rfl (fun _ _ x => x) (.cons rfl (fun _ _ x => x) (.nil))))) (by simp only; rw [hE, List.length_append]; rfl)
   ·
    have hE := ask_no (bk := b.bk) (pr := b.pr) (k := t.1) (by omega)
    refine au 2 ?_
    first | refine runL_fact (s := 13) rfl (fun _ _ h => dSl_len h) (fun hlen7 => ?_) | skip
    refine au 3 ?_
    refine run_gskip rfl rfl gdI.ok hkn rfl (dB True) ?_
    refine run_gskip rfl rfl gdI.ok hkn rfl (dB True) ?_
    refine run_gskip rfl rfl gdI.ok hkn rfl (dB True) ?_
    refine run_gskip rfl rfl gdI.ok hkn rfl (dB True) ?_
    refine run_gskip rfl rfl gdI.ok hkn rfl (dB True) ?_
    refine run_gskip rfl rfl gdI.ok hkn rfl (dB True) ?_
    refine run_gskip rfl rfl gdI.ok hkn rfl (dB True) ?_
    refine run_gskip rfl rfl gdI.ok hkn rfl (dB True) ?_
    refine run_gskip rfl rfl gdI.ok hkn rfl (dB True) ?_
    refine run_gskip rfl rfl gdI.ok hkn rfl (dB True) ?_
    refine au 2 ?_
    refine run_cond rfl (fun h8 => ?_) (fun h8 => ?_)
    · exfalso; simp at h8; omega
    ·
     refine au 6 ?_
     exact run_againE ih2 ((t.1 + 1, t.2)) (⟨by simp only; omega, by simp only; rw [hE]; exact hs⟩) (by simp only; omega) (.cons rfl (by first | exact fun _ _ h => h | exact d_int (by omega) | exact d_int (by simp) | exact d_intN (by omega) | exact d_any) .nil) (.cons rfl (fun _ _ x => x) (.cons rfl (fun _ _ x => x) (.cons rfl (fun _ _ x => x) (.cons rfl (fun _ _ x => x) (.nil))))) (by simp only; rw [hE])
  ·
   refine au 1 ?_
   have hE : askT b.bk b.pr t.1 = askL b := by unfold askL; rw [show t.1 = b.bk.length by omega]
   rw [hE] at hs
   refine run_ret0End (t.2) Try.func38 rfl  ?_ (hs) (fun I w h => by rw [hE] at h; exact h)
   exact fun _ _ _ => trivial
theorem basked_spec (b : Bat) (h : BatOk b) : SpecP Try.prog 27 [dBat b] (dSeq Try.prog (fun q : Int × Int => [dInt .i64 q.1, dInt .i64 q.2]) (askL b)) := by
 refine specP_of_body Try.func27 rfl rfl (fun I M => ?_)
 refine au 10 ?_
 refine run_retP Try.func27 rfl rfl ?_
 exact clo_seq (basked1_iter b h)
end Go.Q

namespace Go.Q
open Go.Proofs
open Classical
theorem blimits_spec (s : Schm) (p : Int) (hv : validS s p) (b : Bat) (h : BatOk b) : SpecP Try.prog 14 [dSchm s, dAgg [dInt .i64 p], dBat b] (dTup [dInts (limT s p (askL b)), dInt .i64 0]) := by
  have hbm := h.most
  refine specP_of_body Try.func14 rfl rfl (fun I M => ?_)
  refine au 5 ?_
  refine run_new (loc_allocOwn (by simp)) rfl (fun b1 _ => ?_)
  refine run_new (loc_allocOwn (by simp)) rfl (fun b2 _ => ?_)
  refine au 7 ?_
  refine run_op (loc_call (blook_spec s p hv b h) rfl) rfl ?_
  refine au 7 ?_
  refine run_cond rfl (fun h3 => ?_) (fun h3 => ?_)
  · exfalso; exact h3 rfl
  ·
   refine au 3 ?_
   refine run_new (loc_allocOwn (by simp)) rfl (fun b9 _ => ?_)
   refine au 5 ?_
   refine run_op (loc_call (basked_spec b h) rfl) rfl ?_
   refine au 2 ?_
   refine run_cellsUp (kk := 0) (b := b9) (dVal (.slice none 0 0)) (dSlV (.slice none 0 0)) (.here) rfl (fun J u h => ⟨h, _, _, _, h⟩) ?_
   refine run_rowNil 3 1 fI ?_
   refine run_front (.here) ?_
   refine run_front (.there (.here)) ?_
   refine run_rangeFunc (σ := Value) (ps := [22, 23]) (fun i v => True) (fun i v => [rCells b9 31 [dSlV v], rRow v 3 1 fI (limT s p ((askL b).take i))]) (.slice none 0 0) rfl rfl rfl (fun _ => rfl) rfl (trivial) rfl (fun i x1 v l1 r1 F1 J hx1 hφ => ?_) (fun D v hφ => ?_)
   ·
    dsimp only [setP]
    have hx4 := (List.getElem?_eq_some_iff.1 hx1).1
    have hxb := ask_bd h (List.mem_of_getElem? hx1)
    have hxl := lim_ok hv hxb
    have hxn := limN_bd hv hxb
    have hal : (askL b).length ≤ 64 := by have := ask_len b.bk b.pr b.bk.length; unfold askL; omega
    have hll : (limT s p ((askL b).take i)).length ≤ 10240 * ((askL b).take i).length := limT_len hv (fun q hq => ask_bd h (List.mem_of_mem_take hq))
    rw [List.length_take] at hll
    have hl2 : (limL s p x1.1).length ≤ 10240 := by rw [hxl.2, List.length_replicate]; omega
    refine au 3 ?_
    refine run_beginR (.here) ?_
    refine au 6 ?_
    refine run_op (loc_call (slimits_spec _ _ _) rfl) rfl ?_
    refine au 12 ?_
    refine run_cond rfl (fun h5 => ?_) (fun h5 => ?_)
    · exfalso; exact h5 hxl.1
    ·
     refine au 2 ?_
     first | refine run_op (LocP.upV (loc_loadOwn1 rfl (.there (.here)) (by rfl))) rfl ?_ | refine run_op (loc_loadOwn1 rfl (.there (.here)) (by rfl)) rfl ?_
     refine au 1 ?_
     refine run_append rfl (.there (.there (.here))) rfl (by rfl) (by first | omega | (simp [lenMax]; omega) | (simp [lenMax]; done) | assumption) (by first | omega | (simp [lenMax]; omega) | (simp [lenMax]; done) | assumption) rfl (fun v6 => ?_)
     refine runL_rowV (s := 36) rfl (.there (.there (.here))) ?_
     refine au 3 ?_
     rw [← limT_next hx1]
     exact run_roundEnd (v6) (trivial) .here rfl
   ·
    refine au 2 ?_
    first | refine run_freezeRowCellV (kk := 0) (.there (.there (.here))) (.there (.here)) rfl ?_ | refine run_freezeRowCell (kk := 0) (.there (.there (.here))) (.there (.here)) rfl ?_
    refine au 5 ?_
    refine run_retPMk (.here) Try.func14 rfl (.cell1 rfl (by first | exact .here | exact .there .here | exact .there (.there .here) | exact .there (.there (.there .here)) | exact .there (.there (.there (.there .here))) | exact .there (.there (.there (.there (.there .here))))) (.cell1 rfl (by first | exact .here | exact .there .here | exact .there (.there .here) | exact .there (.there (.there .here)) | exact .there (.there (.there (.there .here))) | exact .there (.there (.there (.there (.there .here))))) (.nil))) ?_ (fun _ _ h => h.sub (.cons _ (.cons _ (.cons _ (.refl _)))))
    exact d_tup2 (d_eq (by rw [List.take_length])) (fun _ _ h => h)
end Go.Q

namespace Go.Q
open Go.Proofs
open Classical
def rDc (b : Nat) (d : Dc) : Res := rCells b 53 [dSl 1 fU8 d.xs, dInt .i64 (d.k : Nat)]
theorem dnew_spec (xs : List Int) : Spec Try.prog 5 [dBy xs] [] (σ := Nat) (fun _ => True) (fun b => dVal (ptr b 0)) (fun b => [rDc b ⟨xs.take 300, 0⟩]) := by
  refine spec_of_body Try.func5 rfl rfl (fun I F => ?_)
  refine au 8 ?_
  refine run_op (loc_lenBy rfl) rfl ?_
  refine au 2 ?_
  refine run_cond rfl (fun h1 => ?_) (fun h1 => ?_)
  ·
   refine au 2 ?_
   refine run_op (loc_sliceToBy rfl rfl (by omega)) rfl ?_
   refine au 6 ?_
   refine run_new (loc_boxOwnN rfl) rfl (fun b2 _ => ?_)
   refine au 2 ?_
   refine run_ret (b2) Try.func5 rfl rfl ?_ (trivial) (fun _ _ h => h)
   exact fun _ _ h => h
  ·
   refine run_recast (s := 0) rfl (dBy_sl (by omega)) ?_
   refine au 5 ?_
   refine run_new (loc_boxOwnN rfl) rfl (fun b3 _ => ?_)
   refine au 2 ?_
   refine run_ret (b3) Try.func5 rfl rfl ?_ (trivial) (fun _ _ h => by rw [show xs.take 300 = xs from List.take_of_length_le (by omega)]; exact h)
   exact fun _ _ h => h
theorem pick_spec (b : Nat) (d : Dc) (n : Int) (h : okDc d) (hn : 1 ≤ n) : Spec Try.prog 7 [dVal (ptr b 0), dInt .i64 n] [rDc b d] (σ := Unit) (fun _ => True) (fun _ => dInt .i64 (d.val n)) (fun _ => [rDc b d.next]) := by
  refine spec_of_body Try.func7 rfl rfl (fun I F => ?_)
  show Run _ _ _ _ _ _ (rCells b 53 [dSl 1 fU8 d.xs, dInt .i64 (d.k : Nat)] :: F) _
  refine au 1 ?_
  have hlen := h.len
  refine au 5 ?_
  refine dr_start _ (.none) [⟨[(0, none)], [], none⟩,
      ⟨[(5, some (0, false))], [0], none⟩,
      ⟨[(6, some (1, false))], [0, 1], none⟩,
      ⟨[(7, some (2, false))], [0, 1, 2], some (0, 0, false)⟩,
      ⟨[(0, none)], [], none⟩,
      ⟨[(9, some (4, false))], [4], none⟩,
      ⟨[(10, some (5, false))], [4, 5], none⟩,
      ⟨[(11, some (6, false))], [4, 5, 6], some (0, 0, false)⟩,
      ⟨[(12, some (7, false))], [4, 5, 6, 7], none⟩,
      ⟨[(8, some (3, false)), (13, some (8, false))], [0, 1, 2, 3, 4, 5, 6, 7, 8], none⟩] [_] _ rfl rfl ?_
  refine da 10 ?_
  refine dq_end (rs := [_]) () rfl (fun _ => rfl) (.nil) rfl (fun _ => rfl) (fun _ _ => ?_)
  dsimp only [outG, outM, List.map, List.set, id]
  refine run_cond rfl (fun h1 => ?_) (fun h1 => ?_)
  ·
   refine au 4 ?_
   refine run_ret (()) Try.func7 rfl rfl ?_ (trivial) (fun _ _ h => by unfold Dc.next rDc; rw [if_neg (by omega)]; exact h)
   exact d_int (by unfold Dc.val; rw [if_neg (by omega)])
  ·
   refine au 13 ?_
   have hx := h.byte (d.xs[((d.k : Int) + 1 - 1).toNat]?.getD default) (getD_mem (by omega))
   refine dr_start _ (.none) [⟨[(0, none)], [], none⟩,
       ⟨[(22, some (0, false))], [0], none⟩,
       ⟨[(23, some (1, false))], [0, 1], none⟩,
       ⟨[(24, some (2, false))], [0, 1, 2], some (0, 0, false)⟩,
       ⟨[(0, none)], [], none⟩,
       ⟨[(26, some (4, false))], [4], none⟩,
       ⟨[(27, some (5, false))], [4, 5], none⟩,
       ⟨[(28, some (6, false))], [4, 5, 6], some (0, 0, false)⟩,
       ⟨[(29, some (7, false))], [4, 5, 6, 7], none⟩,
       ⟨[(25, some (3, false)), (30, some (8, false))], [0, 1, 2, 3, 4, 5, 6, 7, 8], none⟩,
       ⟨[(31, some (9, false))], [0, 1, 2, 3, 4, 5, 6, 7, 8, 9], none⟩,
       ⟨[(32, some (10, false))], [0, 1, 2, 3, 4, 5, 6, 7, 8, 9, 10], none⟩,
       ⟨[(1, none)], [], none⟩,
       ⟨[(33, some (11, false)), (34, some (12, false))], [0, 1, 2, 3, 4, 5, 6, 7, 8, 9, 10, 11, 12], none⟩,
       ⟨[(35, some (13, false))], [0, 1, 2, 3, 4, 5, 6, 7, 8, 9, 10, 11, 12, 13], none⟩] [_] _ rfl rfl ?_
   refine da 11 ?_
   first | refine dq_pure rfl (fun s => .op rfl (.nil)) (fun s hs _ => loc_conv rfl (by first | omega | assumption)) (by exact .nil) ?_ | refine dq_pure rfl (fun s => .op rfl (.nil)) (fun s hs _ => loc_convW rfl) (by exact .nil) ?_
   refine da 3 ?_
   refine dq_end (rs := [_]) () rfl (fun _ => rfl) (.nil) rfl (fun _ => rfl) (fun _ _ => ?_)
   dsimp only [outG, outM, List.map, List.set, id]
   refine run_ret (()) Try.func7 rfl rfl ?_ (trivial) (fun _ _ h => by unfold Dc.next rDc; rw [if_pos (by omega)]; exact h)
   exact d_int (by unfold Dc.val; rw [if_pos (by omega)]; congr 3; omega)
end Go.Q

namespace Go.Q
open Go.Proofs
open Classical
end Go.Q

namespace Go.Q
open Go.Proofs
open Classical
theorem dhashing_spec (b : Nat) (d : Dc) (h : okDc d) : Spec Try.prog 6 [dVal (ptr b 0)] [rDc b d] (σ := Hsh × Dc) (fun s => okH s.1 ∧ (2 ≤ s.1.m ∧ s.1.m ≤ 6) ∧ okDc s.2) (fun s => dHsh s.1) (fun s => [rDc b s.2]) := by
  refine spec_of_body Try.func6 rfl rfl (fun I F => ?_)
  refine au 2 ?_
  refine run_new (loc_allocOwn (by simp)) rfl (fun b1 _ => ?_)
  refine au 2 ?_
  have h1 := Dc.next_ok h
  have h2 := Dc.next_ok h1
  have hv0 := Dc.val_lt (d := d) (n := 5) (by omega)
  have hw0 := Dc.val_nonneg (d := d) (n := 5) (by omega)
  have hv1 := Dc.val_lt (d := d.next) (n := 3) (by omega)
  have hw1 := Dc.val_nonneg (d := d.next) (n := 3) (by omega)
  refine au 2 ?_
  refine run_callM rfl (.there (.here)) (pick_spec b _ _ (by assumption) (by omega)) rfl (fun s2 hs2 => ?_)
  first | refine run_op (loc_add rfl rfl (by first | omega | assumption | (simp; omega))) rfl ?_ | refine run_op (loc_addW rfl rfl) rfl ?_
  refine au 1 ?_
  refine run_new (loc_allocOwn (by simp)) rfl (fun b3 _ => ?_)
  refine au 6 ?_
  refine run_callM rfl (.there (.there (.here))) (pick_spec b _ _ (by assumption) (by omega)) rfl (fun s3 hs3 => ?_)
  first | refine run_op (loc_add rfl rfl (by first | omega | assumption | (simp; omega))) rfl ?_ | refine run_op (loc_addW rfl rfl) rfl ?_
  refine au 3 ?_
  refine run_cellsUp (kk := 1) (b := b3) (dVal (.slice none 0 0)) (dSlV (.slice none 0 0)) (.here) rfl (fun J u h => ⟨h, _, _, _, h⟩) ?_
  refine run_rowNil 55 2 cSh ?_
  refine run_front (.there (.there (.there (.here)))) ?_
  refine run_front (.there (.here)) ?_
  refine run_front (.there (.there (.here))) ?_
  refine run_loopF (σ := Value × List (Int × Int) × Dc) (ks := [0, 2, 3]) (.cons rfl (.cons rfl (.cons rfl (.nil)))) (fun q => [(4, dInt .i64 (1 + d.next.val 3 - (q.2.1.length : Nat)))]) (fun q => [rCells b3 28 [dInt .i64 (2 + d.val 5), dSlV q.1], rRow q.1 55 2 cSh q.2.1, rDc b q.2.2]) (fun q => (q.2.1.length : Int) ≤ 1 + d.next.val 3 ∧ (∀ x ∈ q.2.1, okSh x) ∧ okDc q.2.2) (fun q => (1 + d.next.val 3).toNat - q.2.1.length) ((.slice none 0 0, [], d.next.next)) (⟨by simp; omega, fun x hx => (by cases hx), h2⟩) (.cons rfl (d_int (by simp)) .nil) (rfl) ?_
  rintro q ⟨hl, hall, hok⟩ ih4
  have hok1 := Dc.next_ok hok
  have hv8 := Dc.val_lt (d := q.2.2) (n := 50) (by omega)
  have hw8 := Dc.val_nonneg (d := q.2.2) (n := 50) (by omega)
  have hv9 := Dc.val_lt (d := q.2.2.next) (n := 50) (by omega)
  have hw9 := Dc.val_nonneg (d := q.2.2.next) (n := 50) (by omega)
  refine au 6 ?_
  refine run_cond rfl (fun h5 => ?_) (fun h5 => ?_)
  ·
   refine au 3 ?_
   refine dr_start _ (.one (σ := Value) 9 (fun _ => True)) [⟨[(3, none)], [], none⟩,
       ⟨[(16, some (0, false))], [0], some (0, 0, false)⟩,
       ⟨[(0, none)], [], none⟩,
       ⟨[(18, some (2, false))], [2], some (2, 0, true)⟩,
       ⟨[(19, some (3, false))], [2, 3], none⟩,
       ⟨[(0, none)], [], none⟩,
       ⟨[(21, some (5, false))], [2, 3, 5], some (2, 1, true)⟩,
       ⟨[(20, some (4, false)), (22, some (6, false))], [2, 3, 4, 5, 6], none⟩,
       ⟨[(23, some (7, false))], [2, 3, 4, 5, 6, 7], none⟩,
       ⟨[(17, some (1, false)), (24, some (8, false))], [0, 1, 2, 3, 4, 5, 6, 7, 8], some (1, 0, true)⟩,
       ⟨[(3, none)], [0, 1, 2, 3, 4, 5, 6, 7, 8, 9], none⟩,
       ⟨[(26, some (10, false)), (25, some (9, false))], [0, 1, 2, 3, 4, 5, 6, 7, 8, 9, 10], some (0, 0, true)⟩] [_, _, _, _] _ rfl rfl ?_
   refine da 1 ?_
   first | refine dq_read rfl (fun s => .op rfl (.nil)) rfl rfl (fun s hs _ hm => LocP.upV (loc_loadOwn1 rfl hm (by rfl))) (by exact .cons (.inr fun _ _ _ => rfl) (.nil)) ?_ | refine dq_read rfl (fun s => .op rfl (.nil)) rfl rfl (fun s hs _ hm => loc_loadOwn1 rfl hm (by rfl)) (by exact .cons (.inr fun _ _ _ => rfl) (.nil)) ?_
   refine da 1 ?_
   refine dq_write rfl (fun s => .op rfl (.nil)) rfl rfl (fun s hs => loc_callM (pick_spec b _ _ (by assumption) (by omega)) rfl) (by exact .cons (.inr fun _ _ _ => ⟨rfl, rfl⟩) (.nil)) ?_
   first | refine dq_pure rfl (fun s => .op rfl (.nil)) (fun s hs _ => loc_add rfl rfl (by first | omega | assumption | (simp; omega))) (by exact .cons (.inr fun _ _ _ => rfl) (.nil)) ?_ | refine dq_pure rfl (fun s => .op rfl (.nil)) (fun s hs _ => loc_addW rfl rfl) (by exact .cons (.inr fun _ _ _ => rfl) (.nil)) ?_
   refine da 1 ?_
   refine dq_write rfl (fun s => .op rfl (.nil)) rfl rfl (fun s hs => loc_callM (pick_spec b _ _ (by assumption) (by omega)) rfl) (by exact .cons (.inr fun _ _ _ => ⟨rfl, rfl⟩) (.nil)) ?_
   refine da 1 ?_
   refine dq_pure rfl (fun s => .op rfl (.nil)) (fun s hs _ => loc_buildSlice rfl rfl (.agg rfl (.nil)) rfl rfl) (by exact .cons (.inr fun _ _ _ => rfl) (.nil)) ?_
   refine dq_choose id (fun _ t => t) rfl (fun _ _ => ⟨rfl, id, trivial⟩) (fun s => .op rfl (.op rfl (.nil))) rfl rfl (fun s hs => LocM.rowV (loc_append1 (1 + q.2.2.val 50, q.2.2.next.val 50) rfl rfl rfl rfl (by first | omega | (simp [lenMax]; omega) | (simp [lenMax]; done) | assumption) (by first | omega | (simp [lenMax]; omega) | (simp [lenMax]; done) | assumption))) (by exact .cons (.inl rfl) (.nil)) (fun _ _ => rfl) ?_
   refine da 1 ?_
   refine dq_write0 rfl (fun s => .op rfl (.op rfl (.nil))) rfl rfl (fun s hs => loc_store1 rfl rfl rfl) (by exact .cons (.inl rfl) (.nil)) ?_
   refine dq_end (rs := [_, _, _, _]) (.bool true) rfl (fun _ => rfl) (.cons rfl (.nil)) rfl (fun _ => rfl) (fun v9 _ => ?_)
   dsimp only [outG, outM, List.map, List.set, id]
   refine au 3 ?_
   first | refine run_op (loc_sub rfl rfl (by first | omega | assumption | (simp; omega))) rfl ?_ | refine run_op (loc_subW rfl rfl) rfl ?_
   refine au 2 ?_
   exact run_againF ih4 ((v9, q.2.1 ++ [(1 + q.2.2.val 50, q.2.2.next.val 50)], q.2.2.next.next)) (⟨by simp only [List.length_append, List.length_singleton]; omega, fun x hx => by rcases List.mem_append.1 hx with hx | hx; (· exact hall x hx); (· rw [List.mem_singleton.1 hx]; exact ⟨⟨by simp only; omega, by simp only; omega⟩, by simp only; omega, by simp only; omega⟩), Dc.next_ok hok1⟩) (by simp only [List.length_append, List.length_singleton]; omega) (.cons rfl (d_int (by simp only [List.length_append, List.length_singleton]; omega)) .nil) (.cons rfl (fun _ _ x => x) (.cons rfl (fun _ _ x => x) (.cons rfl (fun _ _ x => x) (.nil)))) (rfl)
  ·
   refine au 2 ?_
   first | refine run_freezeRowCellV (kk := 1) (.there (.here)) (.here) rfl ?_ | refine run_freezeRowCell (kk := 1) (.there (.here)) (.here) rfl ?_
   refine au 4 ?_
   refine run_retG ((⟨2 + d.val 5, q.2.1⟩, q.2.2)) Try.func6 rfl (.cellN rfl (.there (.there (.here))) (by rfl) (.nil)) ?_ (⟨⟨⟨by simp only; omega, by simp only; omega⟩, ⟨by simp only; omega, by simp only; omega⟩, hall⟩, ⟨by simp only; omega, by simp only; omega⟩, hok⟩) (fun _ _ h => h.sub (.cons _ (.cons_cons _ (.cons _ (.refl _)))))
   exact fun _ _ h => h
theorem drows34_spec (b : Nat) (d : Dc) (h : okDc d) (n : Int) (hn : 1 ≤ n) : Spec Try.prog 8 [dVal (ptr b 0), dInt .i64 n] [rDc b d] (σ := List Int × Dc) (fun s => ((1 ≤ s.1.length ∧ s.1.length ≤ 3) ∧ ∀ r ∈ s.1, 0 ≤ r ∧ r < n) ∧ okDc s.2) (fun s => dInts s.1) (fun s => [rDc b s.2]) := by
  refine spec_of_body Try.func8 rfl rfl (fun I F => ?_)
  refine au 10 ?_
  have h1 := Dc.next_ok h
  have hv0 := Dc.val_lt (d := d) (n := 3) (by omega)
  have hw0 := Dc.val_nonneg (d := d) (n := 3) (by omega)
  refine au 2 ?_
  refine run_callM rfl (.here) (pick_spec b _ _ (by assumption) (by omega)) rfl (fun s1 hs1 => ?_)
  first | refine run_op (loc_add rfl rfl (by first | omega | assumption | (simp; omega))) rfl ?_ | refine run_op (loc_addW rfl rfl) rfl ?_
  refine au 3 ?_
  refine run_rowNil 3 1 fI ?_
  refine run_loopF (σ := Value × List Int × Dc) (ks := [0, 1]) (.cons rfl (.cons rfl (.nil))) (fun q => [(5, dVal q.1), (6, dInt .i64 (1 + d.val 3 - (q.2.1.length : Nat)))]) (fun q => [rRow q.1 3 1 fI q.2.1, rDc b q.2.2]) (fun q => (q.2.1.length : Int) ≤ 1 + d.val 3 ∧ (∀ x ∈ q.2.1, 0 ≤ x ∧ x < n) ∧ okDc q.2.2) (fun q => (1 + d.val 3).toNat - q.2.1.length) ((.slice none 0 0, [], d.next)) (⟨by simp; omega, fun x hx => (by cases hx), h1⟩) (.cons rfl (by first | exact fun _ _ h => h | exact d_int (by omega) | exact d_int (by simp) | exact d_intN (by omega) | exact d_any) (.cons rfl (d_int (by simp)) .nil)) (rfl) ?_
  rintro q ⟨hl, hall, hok⟩ ih2
  have hv8 := Dc.val_lt (d := q.2.2) (n := n) (by omega)
  have hw8 := Dc.val_nonneg (d := q.2.2) (n := n) (by omega)
  refine au 6 ?_
  refine run_cond rfl (fun h3 => ?_) (fun h3 => ?_)
  ·
   refine au 7 ?_
   refine run_callM rfl (.there (.here)) (pick_spec b _ _ (by assumption) (by omega)) rfl (fun s4 hs4 => ?_)
   refine run_op (loc_buildSlice rfl rfl (.one rfl (.nil)) rfl rfl) rfl ?_
   refine run_append1 rfl (.here) rfl (by rfl) (by rfl) (by first | omega | (simp [lenMax]; omega) | (simp [lenMax]; done) | assumption) (by first | omega | (simp [lenMax]; omega) | (simp [lenMax]; done) | assumption) rfl (fun v5 => ?_)
   refine au 5 ?_
   first | refine run_op (loc_sub rfl rfl (by first | omega | assumption | (simp; omega))) rfl ?_ | refine run_op (loc_subW rfl rfl) rfl ?_
   refine au 2 ?_
   exact run_againF ih2 ((v5, q.2.1 ++ [q.2.2.val n], q.2.2.next)) (⟨by simp only [List.length_append, List.length_singleton]; omega, fun x hx => by rcases List.mem_append.1 hx with hx | hx; (· exact hall x hx); (· rw [List.mem_singleton.1 hx]; omega), Dc.next_ok hok⟩) (by simp only [List.length_append, List.length_singleton]; omega) (.cons rfl (by first | exact fun _ _ h => h | exact d_int (by omega) | exact d_int (by simp) | exact d_intN (by omega) | exact d_any) (.cons rfl (d_int (by simp only [List.length_append, List.length_singleton]; omega)) .nil)) (.cons rfl (fun _ _ x => x) (.cons rfl (fun _ _ x => x) (.nil))) (rfl)
  ·
   refine au 2 ?_
   refine run_freezeRow (s := 5) rfl (.here) ?_
   refine au 4 ?_
   refine run_ret (q.2) Try.func8 rfl rfl ?_ (⟨⟨⟨by omega, by omega⟩, hall⟩, hok⟩) (fun _ _ h => h.sub (.cons_cons _ (.refl _)))
   exact fun _ _ h => h
end Go.Q

namespace Go.Q
def egH : Hsh := ⟨3, [(1, 0), (5, 1)]⟩
theorem egH_ok : okH egH := ⟨⟨by decide, by decide⟩, ⟨by decide, by decide⟩, fun p hp => by
 simp only [egH, List.mem_cons, List.not_mem_nil, or_false] at hp
 rcases hp with rfl | rfl <;> exact ⟨⟨by decide, by decide⟩, by decide, by decide⟩⟩
theorem eg_asg : asgE egH [2, 0] = 0 := by decide
theorem eg_lay : layF egH 4 = [[0, 1, 3], [0, 1, 3], [2]] := by decide
theorem eg_rows : ∀ r ∈ [2, 0], 0 ≤ r ∧ r < ((4 : Nat) : Int) := by decide
theorem eg_ok : BatOk (planB egH 4 [2, 0]) := plan_ok egH_ok (by omega) eg_rows (by decide) eg_asg
theorem eg_bk : (planB egH 4 [2, 0]).bk = [[0, 1, 3], [0, 1, 3], [2]] := by unfold planB; rw [if_pos eg_asg]; exact eg_lay
def egS : Schm := ⟨1, 2, 0, 0⟩
theorem egS_ok : validS egS 7 := by
 refine ⟨?_, okP_7, ?_⟩
 ·unfold shapeS egS; simp
 ·unfold egS; simp
theorem eg_lim : (limT egS 7 (askL (planB egH 4 [2, 0]))).length = 7 := by
 unfold askL
 rw [eg_bk]
 have e : ∀ n, 1 ≤ n ∧ n ≤ 1024 → limL egS 7 n = List.replicate n.toNat 7 := fun n hn => by
  rw [(lim_ok egS_ok hn).2]
  unfold limN egS
  simp
 simp only [askT, limT, List.length_cons, List.length_nil]
 simp [e]
def lenSum (ls : List (List Int)) : Int := ls.foldr (fun l n => (l.length : Int) + n) 0
theorem lenSum_app (a b : List (List Int)) : lenSum (a ++ b) = lenSum a + lenSum b := by
 induction a with
 | nil => simp [lenSum]
 | cons l a ih => unfold lenSum at ih ⊢; rw [List.cons_append, List.foldr_cons, List.foldr_cons, ih]; omega
theorem lenSum_next {ls : List (List Int)} {k : Nat} (h : k < ls.length) : lenSum (ls.take (k + 1)) = lenSum (ls.take k) + ((ls[k]?.getD default).length : Int) := by
 rw [List.take_add_one, List.getElem?_eq_getElem h, lenSum_app]
 simp [lenSum]
theorem eg_sum : lenSum (planB egH 4 [2, 0]).bk = 7 := by rw [eg_bk]; decide
theorem eg_len : (planB egH 4 [2, 0]).bk.length = 3 := by rw [eg_bk]; rfl
theorem eg_part : ∀ k, k < (planB egH 4 [2, 0]).bk.length → 0 ≤ lenSum ((planB egH 4 [2, 0]).bk.take k) ∧ lenSum ((planB egH 4 [2, 0]).bk.take k) ≤ 7 ∧ (((planB egH 4 [2, 0]).bk[k]?.getD default).length : Int) ≤ 3 := by
 rw [eg_bk]; decide
end Go.Q

namespace Go.Q
open Go.Proofs
open Classical
theorem hashing34_spec  : SpecP Try.prog 13 [] (dHsh egH) := by
 refine specP_of_body Try.func13 rfl rfl (fun I M => ?_)
 refine au 2 ?_
 refine run_new (loc_allocOwn (by simp)) rfl (fun b1 _ => ?_)
 refine au 5 ?_
 refine run_op (loc_buildSlice rfl rfl (.agg rfl (.agg rfl (.nil))) rfl rfl) rfl ?_
 refine runL_recast (s := 3) rfl (d_sl (ys := [((1 : Int), (0 : Int)), (5, 1)]) (h := cSh) rfl) ?_
 refine au 3 ?_
 refine run_retGP Try.func13 rfl (.cellN rfl (.here) (by rfl) (.nil)) ?_ (fun _ _ h => inv_tail (h))
 exact fun _ _ h => h
theorem sane34_spec  : SpecP Try.prog 4 [] (dB True) := by
  refine specP_of_body Try.func4 rfl rfl (fun I M => ?_)
  refine au 6 ?_
  refine run_op (loc_call (hashing34_spec) rfl) rfl ?_
  refine run_op (loc_buildSlice rfl rfl (.one rfl (.one rfl (.nil))) rfl rfl) rfl ?_
  refine runL_recast (s := 12) rfl (d_sl (ys := [2, 0]) (h := fI) rfl) ?_
  refine run_op (loc_call (plan_spec egH egH_ok 4 ⟨by omega, by omega⟩ [2, 0] eg_rows (by decide)) rfl) rfl ?_
  refine au 3 ?_
  refine run_new (loc_allocOwn (by simp)) rfl (fun b1 _ => ?_)
  refine au 7 ?_
  refine run_new (loc_allocOwn (by simp)) rfl (fun b2 _ => ?_)
  refine run_new (loc_allocOwn (by simp)) rfl (fun b3 _ => ?_)
  refine au 8 ?_
  refine run_op (loc_call (blimits_spec egS 7 egS_ok _ eg_ok) rfl) rfl ?_
  refine au 12 ?_
  have hbl := eg_len
  refine au 3 ?_
  first | refine runL_fact (s := 26) rfl (fun _ _ h => dSl_len h) (fun hlen4 => ?_) | skip
  refine au 4 ?_
  refine run_loopC (σ := Nat) (ks := [1, 2, 5, 6, 26, 27]) (.cons rfl (.cons rfl (.cons rfl (.cons rfl (.cons rfl (.cons rfl (.nil))))))) (fun k => [(7, dInt .i64 (lenSum ((planB egH 4 [2, 0]).bk.take k))), (28, dInt .i64 (k : Nat))]) (fun k => k ≤ (planB egH 4 [2, 0]).bk.length) (fun k => (planB egH 4 [2, 0]).bk.length - k) (0) (Nat.zero_le _) (.cons rfl (by first | exact fun _ _ h => h | exact d_int (by omega) | exact d_int (by simp) | exact d_intN (by omega) | exact d_any) (.cons rfl (by first | exact fun _ _ h => h | exact d_int (by omega) | exact d_int (by simp) | exact d_intN (by omega) | exact d_any) .nil)) ?_
  intro k hk ih5
  refine au 5 ?_
  refine run_cond rfl (fun h6 => ?_) (fun h6 => ?_)
  ·
   have hp := eg_part k (by omega)
   refine au 12 ?_
   first | refine runL_fact (s := 33) rfl (fun _ _ h => dSl_len h) (fun hlen7 => ?_) | skip
   refine au 9 ?_
   exact run_againC ih5 (k + 1) (by omega) (by omega) (.cons rfl (d_int (lenSum_next (by omega)).symm) (.cons rfl (by first | exact fun _ _ h => h | exact d_int (by omega) | exact d_int (by simp) | exact d_intN (by omega) | exact d_any) .nil)) (.cons rfl (fun _ _ x => x) (.cons rfl (fun _ _ x => x) (.cons rfl (fun _ _ x => x) (.cons rfl (fun _ _ x => x) (.cons rfl (fun _ _ x => x) (.cons rfl (fun _ _ x => x) (.nil)))))))
  ·
   refine au 26 ?_
   refine run_gop rfl rfl gdI.ok (fun hg => loc_call (bvalid_spec _ eg_ok) rfl) rfl ?_
   refine au 9 ?_
   have hs : lenSum ((planB egH 4 [2, 0]).bk.take k) = 7 := by rw [List.take_of_length_le (by omega)]; exact eg_sum
   refine run_drop (.cons _ (.cons _ (.cons _ (.refl _)))) ?_
   refine run_retP Try.func4 rfl rfl ?_
   exact d_B ⟨fun _ => trivial, fun _ => ⟨⟨⟨⟨⟨eg_asg, by rw [eg_len]; rfl⟩, rfl⟩, by rw [eg_lim, hs]; rfl⟩, trivial⟩, by rw [hs]; omega⟩⟩
end Go.Q

namespace Go.Q
def placeRL (rec : Int → List Int → List Bool → Bool × List Int × List Bool) (i : Int) : List Nat → List Int → List Bool → Bool × List Int × List Bool
 | [], bk, sn => (false, bk, sn)
 | b :: bs, bk, sn =>
  if sn[b]?.getD default = true then placeRL rec i bs bk sn
  else if bk[b]?.getD default < 0 then (true, bk.set b i, sn.set b true)
  else
   let r := rec (bk[b]?.getD default) bk (sn.set b true)
   if r.1 = true then (true, r.2.1.set b i, r.2.2) else placeRL rec i bs r.2.1 r.2.2
def placeR (hs : Int → List Nat) : Nat → Int → List Int → List Bool → Bool × List Int × List Bool
 | 0, _, bk, sn => (false, bk, sn)
 | n + 1, i, bk, sn => placeRL (placeR hs n) i (hs i) bk sn
structure SimR (r s : Bool × List Int × List Bool) : Prop where
 ans : r.1 = s.1
 bk : r.2.1 = s.2.1
 sn : s.1 = false → r.2.2 = s.2.2
theorem nofx (m : Nat) (b : Nat) : ¬ (List.replicate m false)[b]?.getD default = true := by
 rw [List.getElem?_replicate]
 split
 ·exact Bool.false_ne_true
 ·exact Bool.false_ne_true
theorem simL {rec rec' : Int → List Int → List Bool → Bool × List Int × List Bool} (h : ∀ j bk sn, SimR (rec j bk sn) (rec' j bk sn)) (m : Nat) (i : Int) : ∀ (bs : List Nat) (bk : List Int) (sn : List Bool), SimR (placeRL rec i bs bk sn) (placeL rec' (List.replicate m false) i bs bk sn)
 | [], _, _ => ⟨rfl, rfl, fun _ => rfl⟩
 | b :: bs, bk, sn => by
  unfold placeRL placeL
  by_cases h1 : sn[b]?.getD default = true
  ·rw [if_pos h1, if_pos (.inl h1)]; exact simL h m i bs bk sn
  ·have h0 : ¬ (sn[b]?.getD default = true ∨ (List.replicate m false)[b]?.getD default = true) := by
    rintro (h2 | h2)
    ·exact h1 h2
    ·exact nofx m b h2
   rw [if_neg h1, if_neg h0]
   by_cases h2 : bk[b]?.getD default < 0
   ·rw [if_pos h2, if_pos h2]; exact ⟨rfl, rfl, fun h => by cases h⟩
   ·rw [if_neg h2, if_neg h2]
    have g := h (bk[b]?.getD default) bk (sn.set b true)
    dsimp only
    by_cases h3 : (rec' (bk[b]?.getD default) bk (sn.set b true)).1 = true
    ·rw [if_pos (by rw [g.ans]; exact h3), if_pos h3]; exact ⟨rfl, by rw [g.bk], fun h => by cases h⟩
    ·rw [if_neg (by rw [g.ans]; exact h3), if_neg h3, g.bk, g.sn (by simpa using h3)]; exact simL h m i bs _ _
theorem simF (hs : Int → List Nat) (m : Nat) : ∀ (n : Nat) (i : Int) (bk : List Int) (sn : List Bool), SimR (placeR hs n i bk sn) (placeF hs (List.replicate m false) n i bk sn)
 | 0, _, _, _ => ⟨rfl, rfl, fun _ => rfl⟩
 | n + 1, i, bk, sn => simL (simF hs m n) m i (hs i) bk sn
theorem placeRL_seen {rec : Int → List Int → List Bool → Bool × List Int × List Bool} {i : Int} {bk : List Int} {sn : List Bool} : ∀ bs : List Nat, (∀ b ∈ bs, sn[b]?.getD default = true) → placeRL rec i bs bk sn = (false, bk, sn)
 | [], _ => rfl
 | b :: bs, h => by
  unfold placeRL
  rw [if_pos (h b (List.mem_cons_self ..))]
  exact placeRL_seen bs fun c hc => h c (List.mem_cons_of_mem _ hc)
theorem placeR_eq {hs : Int → List Nat} {m n : Nat} (hh : ∀ j, ∀ b ∈ hs j, b < m) {i : Int} {bk : List Int} {sn : List Bool} (hl : sn.length = m) (hu : unseen sn ≤ n) : placeR hs n i bk sn = placeRL (placeR hs (n - 1)) i (hs i) bk sn := by
 cases n with
 | zero =>
  rw [placeRL_seen]
  ·rfl
  ·exact fun b hb => all_seen (by omega) (by rw [hl]; exact hh i b hb)
 | succ n => rfl
theorem placeR_plok {m q : Nat} {hs : Int → List Nat} (hh : ∀ j, ∀ b ∈ hs j, b < m) {n : Nat} {i : Int} {bk : List Int} {sn : List Bool} (hi : i < (q : Int)) (h : PlOk m q n bk sn) (hr : ¬ (placeR hs n i bk sn).1 = true) : PlOk m q n (placeR hs n i bk sn).2.1 (placeR hs n i bk sn).2.2 := by
 have g := simF hs m n i bk sn
 have g1 := placeF_plok hh (fx := List.replicate m false) n i bk sn hi h
 rw [g.bk, g.sn (by rw [← g.ans]; simpa using hr)]
 exact g1
theorem placeR_same {m n : Nat} {hs : Int → List Nat} (hh : ∀ j, ∀ b ∈ hs j, b < m) {i : Int} {bk : List Int} {sn : List Bool} (hb : bk.length = m) (hsn : sn.length = m) (hr : (placeR hs n i bk sn).1 = true) {b : Nat} (hs2 : sn[b]?.getD default = true) : (placeR hs n i bk sn).2.1[b]? = bk[b]? := by
 have g := simF hs m n i bk sn
 rw [g.ans] at hr
 rw [g.bk]
 exact (placeF_yes hh n i bk sn hb hsn hr).same b (.inl hs2)
theorem placeR_len {m n : Nat} {hs : Int → List Nat} {i : Int} {bk : List Int} {sn : List Bool} : (placeR hs n i bk sn).2.1.length = bk.length := by
 rw [(simF hs m n i bk sn).bk]; exact (placeF_keep hs (List.replicate m false) n i bk sn).blen
def inR1 (x : Int) : List Int := if x < 0 then [] else [x]
def inR (bk : List Int) : List (List Int) := bk.map inR1
theorem inR_get {bk : List Int} {b : Nat} (hb : b < bk.length) : (inR bk)[b]? = some (inR1 (bk[b]?.getD default)) := by
 unfold inR; rw [List.getElem?_map, List.getElem?_eq_getElem hb]; rfl
theorem inR_set {bk : List Int} {b : Nat} {i : Int} (hi : 0 ≤ i) : inR (bk.set b i) = (inR bk).set b [i] := by
 unfold inR; rw [List.map_set]; congr 1; unfold inR1; rw [if_neg (by omega)]
theorem inR_new (m : Nat) : inR (List.replicate m (-1)) = List.replicate m [] := by
 unfold inR; rw [List.map_replicate]; rfl
def posR (hs : Int → List Nat) (m : Nat) : List Int → List Int → Bool × List Int
 | [], bk => (true, bk)
 | i :: is, bk =>
  let r := placeR hs m i bk (List.replicate m false)
  if r.1 = true then posR hs m is r.2.1 else (false, r.2.1)
theorem posR_all (hs : Int → List Nat) (m : Nat) : ∀ (is bk : List Int), posR hs m is bk = allF hs (List.replicate m false) m is bk
 | [], _ => rfl
 | i :: is, bk => by
  have g := simF hs m m i bk (List.replicate m false)
  rw [posR, allF, g.bk]
  by_cases h : (placeF hs (List.replicate m false) m i bk (List.replicate m false)).1 = true
  ·rw [if_pos (by rw [g.ans]; exact h), if_pos h, posR_all hs m is]
  ·rw [if_neg (by rw [g.ans]; exact h), if_neg h]
theorem posR_yes {hs : Int → List Nat} {m k n : Nat} {bk : List Int} (h : k < n) (hp : (placeR hs m k bk (List.replicate m false)).1 = true) : posR hs m (itsN k n) bk = posR hs m (itsN (k + 1) n) (placeR hs m k bk (List.replicate m false)).2.1 := by
 rw [its_next h, posR, if_pos hp]
theorem posR_no {hs : Int → List Nat} {m k n : Nat} {bk : List Int} (h : k < n) (hp : ¬ (placeR hs m k bk (List.replicate m false)).1 = true) : posR hs m (itsN k n) bk = (false, (placeR hs m k bk (List.replicate m false)).2.1) := by
 rw [its_next h, posR, if_neg hp]
theorem BkB.placeR {m q : Nat} {hs : Int → List Nat} (hh : ∀ j, ∀ b ∈ hs j, b < m) {i : Int} {bk : List Int} (hi : i < (q : Int)) (h : BkB m q bk) : BkB m q (placeR hs m i bk (List.replicate m false)).2.1 := by
 rw [(simF hs m m i bk (List.replicate m false)).bk]
 exact BkB.place hh hi h
theorem first_pos {h : Hsh} (hh : okH h) {rows : List Int} (hf : ¬ (firstH h rows).1 = true) : ¬ (posR (hsF (rows.map (homesI h))) h.m.toNat (itsN 0 rows.length) (List.replicate h.m.toNat (-1))).1 = true := by
 rw [posR_all]
 intro ha
 apply hf
 have hb := hsF_bd (homes_ok hh rows)
 have hfx := fx_start (hsF (rows.map (homesI h))) h.m.toNat
 have hnot : ∀ i ∈ itsN 0 rows.length, 0 ≤ i ∧ i ∉ List.replicate h.m.toNat (-1 : Int) := fun i hi => by
  have := its_mem.1 hi
  exact ⟨by omega, fun hm => by rw [List.eq_of_mem_replicate hm] at this; omega⟩
 obtain ⟨k1, k2, k3⟩ := allF_ok hb (itsN 0 rows.length) _ hfx.toBkOk hnot (its_nodup ..) ha
 have hA := asg_of k1 (bk := List.replicate h.m.toNat (-1)) (fun b hb => absurd hb (nofx _ b))
 unfold firstH
 refine firstF_yes hb (itsN 0 rows.length) _ _ hfx hnot (its_nodup ..) ⟨whereP _, fun j hj => hA.home j ⟨hj.1, (k2 j hj.1).2 hj.2⟩, fun j k hj hk => hA.inj j k ⟨hj.1, (k2 j hj.1).2 hj.2⟩ ⟨hk.1, (k2 k hk.1).2 hk.2⟩, fun b j hb => absurd hb (nofx _ b)⟩
end Go.Q

namespace Go.Q
open Go.Proofs
open Classical
theorem rcheck_spec19 (h : Hsh) (hh : okH h) : SpecP Try.prog 23 [dHsh h] (dInt .i64 0) := by
  have hm1 := hh.1
  have hp1 := hh.2.1
  have hq1 := hh.2.2
  refine specP_of_body Try.func23 rfl rfl (fun I M => ?_)
  refine au 32 ?_
  refine run_cond rfl (fun h1 => ?_) (fun h1 => ?_)
  · exfalso; have := h1; omega
  ·
   refine au 6 ?_
   first | refine runL_fact (s := 26) rfl (fun _ _ h => dSl_len h) (fun hlen2 => ?_) | skip
   refine au 4 ?_
   refine run_loopC (σ := Nat) (ks := [26, 27]) (.cons rfl (.cons rfl (.nil))) (fun k => [(28, dInt .i64 (k : Nat))]) (fun k => k ≤ h.ps.length) (fun k => h.ps.length - k) (0) ((by omega)) (.cons rfl (by first | exact fun _ _ h => h | exact d_int (by omega) | exact d_int (by simp) | exact d_intN (by omega) | exact d_any) .nil) ?_
   intro k hk ih3
   refine au 5 ?_
   refine run_cond rfl (fun h4 => ?_) (fun h4 => ?_)
   ·
    have hsh := hq1 (h.ps[k]?.getD default) (getD_mem (by omega))
    unfold okSh at hsh
    refine au 7 ?_
    refine run_new (loc_allocOwn (by simp)) rfl (fun b5 _ => ?_)
    refine au 26 ?_
    refine run_cond rfl (fun h6 => ?_) (fun h6 => ?_)
    · exfalso; have := h6; omega
    ·
     refine au 6 ?_
     refine run_drop (.cons _ (.refl _)) ?_
     exact run_againC ih3 (k + 1) (by omega) (by omega) (.cons rfl (by first | exact fun _ _ h => h | exact d_int (by omega) | exact d_int (by simp) | exact d_intN (by omega) | exact d_any) .nil) (.cons rfl (fun _ _ x => x) (.cons rfl (fun _ _ x => x) (.nil)))
   ·
    refine au 5 ?_
    refine run_retP Try.func23 rfl rfl ?_
    exact fun _ _ h => h
theorem rhomes_spec (h : Hsh) (hh : okH h) (n : Int) (hn : 0 ≤ n ∧ n < 2147483647) : SpecP Try.prog 11 [dHsh h, dInt .i64 n] (dTup [dInts (homesI h n), dInt .i64 0]) := by
  have hm1 := hh.1
  have hp1 := hh.2.1
  have hq1 := hh.2.2
  refine specP_of_body Try.func11 rfl rfl (fun I M => ?_)
  refine au 10 ?_
  refine run_op (loc_call (rcheck_spec19 h hh) rfl) rfl ?_
  refine au 7 ?_
  refine run_cond rfl (fun h1 => ?_) (fun h1 => ?_)
  · exfalso; exact h1 rfl
  ·
   refine au 12 ?_
   refine run_cond rfl (fun h2 => ?_) (fun h2 => ?_)
   · exfalso; have := h2; omega
   ·
    refine au 10 ?_
    first | refine runL_fact (s := 22) rfl (fun _ _ h => dSl_len h) (fun hlen3 => ?_) | skip
    refine au 4 ?_
    refine run_rowNil 3 1 fI ?_
    refine run_loopF (σ := Value × Nat) (ks := [1, 2, 22, 23]) (.cons rfl (.cons rfl (.cons rfl (.cons rfl (.nil))))) (fun q => [(7, dVal q.1), (24, dInt .i64 (q.2 : Nat))]) (fun q => [rRow q.1 3 1 fI ((h.ps.take q.2).map (homeI h.m n))]) (fun q => q.2 ≤ h.ps.length) (fun q => h.ps.length - q.2) ((.slice none 0 0, 0)) (Nat.zero_le _) (.cons rfl (by first | exact fun _ _ h => h | exact d_int (by omega) | exact d_int (by simp) | exact d_intN (by omega) | exact d_any) (.cons rfl (by first | exact fun _ _ h => h | exact d_int (by omega) | exact d_int (by simp) | exact d_intN (by omega) | exact d_any) .nil)) (rfl) ?_
    intro q hq ih4
    have hql : ((h.ps.take q.2).map (homeI h.m n)).length = q.2 := by rw [List.length_map, List.length_take]; omega
    refine au 5 ?_
    refine run_cond rfl (fun h5 => ?_) (fun h5 => ?_)
    ·
     have hsh := hq1 (h.ps[q.2]?.getD default) (getD_mem (by omega))
     unfold okSh at hsh
     have hmul := mul_bd (a := (h.ps[q.2]?.getD default).1) (b := n) (A := 2147483646) (B := 2147483646) (by omega) (by omega) (by omega) (by omega)
     have hmd := mod_bd ((h.ps[q.2]?.getD default).1 * n + (h.ps[q.2]?.getD default).2) (show (0 : Int) < 2147483647 by omega)
     have hsn : (h.ps.take (q.2 + 1)).map (homeI h.m n) = (h.ps.take q.2).map (homeI h.m n) ++ [homeI h.m n (h.ps[q.2]?.getD default)] := by rw [List.take_add_one, List.getElem?_eq_getElem (by omega), List.map_append]; rfl
     refine au 7 ?_
     refine run_new (loc_allocOwn (by simp)) rfl (fun b6 _ => ?_)
     refine au 15 ?_
     refine run_op (loc_buildSlice rfl rfl (.one rfl (.nil)) rfl rfl) rfl ?_
     refine run_append1 rfl (.there (.here)) rfl (by rfl) (by rfl) (by first | omega | (simp [lenMax]; omega) | (simp [lenMax]; done) | assumption) (by first | omega | (simp [lenMax]; omega) | (simp [lenMax]; done) | assumption) rfl (fun v7 => ?_)
     refine au 7 ?_
     refine run_drop (.cons _ (.refl _)) ?_
     exact run_againF ih4 ((v7, q.2 + 1)) (by simp only; omega) (by simp only; omega) (.cons rfl (by first | exact fun _ _ h => h | exact d_int (by omega) | exact d_int (by simp) | exact d_intN (by omega) | exact d_any) (.cons rfl (by first | exact fun _ _ h => h | exact d_int (by omega) | exact d_int (by simp) | exact d_intN (by omega) | exact d_any) .nil)) (.cons rfl (fun _ _ x => x) (.cons rfl (fun _ _ x => x) (.cons rfl (fun _ _ x => x) (.cons rfl (fun _ _ x => x) (.nil))))) (by simp only [appR]; rw [hsn]; rfl)
    ·
     refine au 2 ?_
     refine run_freezeRow (s := 7) rfl (.here) ?_
     refine au 5 ?_
     refine run_ret2P Try.func11 rfl rfl rfl ?_
     exact d_tup2 (d_eq (by rw [List.take_of_length_le (by omega)]; rfl)) (fun _ _ h => h)
theorem rall_spec (h : Hsh) (hh : okH h) (its : List Int) (hi : ∀ n ∈ its, okIt n) (hl : its.length ≤ 100000) : SpecP Try.prog 21 [dHsh h, dInts its] (dTup [dRows (its.map (homesI h)), dInt .i64 0]) := by
  have hm1 := hh.1
  have hp1 := hh.2.1
  have hq1 := hh.2.2
  refine specP_of_body Try.func21 rfl rfl (fun I M => ?_)
  refine au 10 ?_
  refine run_op (loc_call (rcheck_spec19 h hh) rfl) rfl ?_
  refine au 7 ?_
  refine run_cond rfl (fun h1 => ?_) (fun h1 => ?_)
  · exfalso; exact h1 rfl
  ·
   refine au 9 ?_
   first | refine runL_fact (s := 17) rfl (fun _ _ h => dSl_len h) (fun hlen2 => ?_) | skip
   refine au 4 ?_
   refine run_rowNil 31 1 fR ?_
   refine run_loopF (σ := Value × Nat) (ks := [2, 17, 18]) (.cons rfl (.cons rfl (.cons rfl (.nil)))) (fun q => [(7, dVal q.1), (19, dInt .i64 (q.2 : Nat))]) (fun q => [rRow q.1 31 1 fR ((its.take q.2).map (homesI h))]) (fun q => q.2 ≤ its.length) (fun q => its.length - q.2) ((.slice none 0 0, 0)) (Nat.zero_le _) (.cons rfl (by first | exact fun _ _ h => h | exact d_int (by omega) | exact d_int (by simp) | exact d_intN (by omega) | exact d_any) (.cons rfl (by first | exact fun _ _ h => h | exact d_int (by omega) | exact d_int (by simp) | exact d_intN (by omega) | exact d_any) .nil)) (rfl) ?_
   intro q hq ih3
   have hql : ((its.take q.2).map (homesI h)).length = q.2 := by rw [List.length_map, List.length_take]; omega
   have hlm : ((its.take q.2).map (homesI h)).length + 1 ≤ lenMax := by unfold lenMax; omega
   refine au 5 ?_
   refine run_cond rfl (fun h4 => ?_) (fun h4 => ?_)
   ·
    have hin := hi (its[q.2]?.getD default) (getD_mem (by omega))
    unfold okIt at hin
    refine au 13 ?_
    refine run_op (loc_call (rhomes_spec h hh _ hin) rfl) rfl ?_
    refine au 12 ?_
    refine run_cond rfl (fun h5 => ?_) (fun h5 => ?_)
    · exfalso; exact h5 rfl
    ·
     refine au 4 ?_
     refine run_op (loc_buildSlice rfl rfl (.one rfl (.nil)) rfl rfl) rfl ?_
     refine run_append1 rfl (.here) rfl (by rfl) (by rfl) (by first | omega | (simp [lenMax]; omega) | (simp [lenMax]; done) | assumption) (by first | omega | (simp [lenMax]; omega) | (simp [lenMax]; done) | assumption) rfl (fun v6 => ?_)
     refine au 7 ?_
     exact run_againF ih3 ((v6, q.2 + 1)) (by simp only; omega) (by simp only; omega) (.cons rfl (by first | exact fun _ _ h => h | exact d_int (by omega) | exact d_int (by simp) | exact d_intN (by omega) | exact d_any) (.cons rfl (by first | exact fun _ _ h => h | exact d_int (by omega) | exact d_int (by simp) | exact d_intN (by omega) | exact d_any) .nil)) (.cons rfl (fun _ _ x => x) (.cons rfl (fun _ _ x => x) (.cons rfl (fun _ _ x => x) (.nil)))) (by simp only [appR]; rw [map_snoc (by omega)])
   ·
    refine au 2 ?_
    refine run_freezeRow (s := 7) rfl (.here) ?_
    refine au 5 ?_
    refine run_ret2P Try.func21 rfl rfl rfl ?_
    exact d_tup2 (d_eq (by rw [List.take_of_length_le (by omega)])) (fun _ _ h => h)
end Go.Q
