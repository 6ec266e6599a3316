/- Tables as results; many rows let become immutable at once; decks: what is proved here holds of every program. -/
import Derived.Test.YtmihhjchmnmaiaaQKit5
import Derived.Laws.Externs
set_option linter.unusedVariables false
set_option linter.unusedSimpArgs false
namespace Go.Q

variable {P : Program} {f : FuncId} {N : Nat} {I0 : Imm} {R : Goal} {g : G} {M : List Res} {k : List Item}

theorem d_agg4 {a b c d a' b' c' d' : D} (h1 : ∀ I v, a.rel I v → a'.rel I v) (h2 : ∀ I v, b.rel I v → b'.rel I v) (h3 : ∀ I v, c.rel I v → c'.rel I v) (h4 : ∀ I v, d.rel I v → d'.rel I v) :
    ∀ I v, (dAgg [a, b, c, d]).rel I v → (dAgg [a', b', c', d']).rel I v := by
  rintro I v ⟨cs, e, h⟩
  refine ⟨cs, e, ?_⟩
  match hc : cs.toList, h with
  | [w, x, y, z], h => exact ⟨h1 _ _ h.1, h2 _ _ h.2.1, h3 _ _ h.2.2.1, h4 _ _ h.2.2.2.1, trivial⟩

theorem relL_same {J : Imm} {kk : Nat} {ds : List D} {cs : List Value} {d d' : D} (h6 : relL ds J cs) (hk : ds[kk]? = some d) (hup : ∀ u, d.rel J u → d'.rel J u) : relL (ds.set kk d') J cs := by
  obtain ⟨u, hu, hdu⟩ := relL_get h6 kk d hk
  have h7 := relL_set (d := d') (hup u hdu) kk h6
  have h8 : cs.set kk u = cs := by
    apply List.ext_getElem?
    intro i
    rw [List.getElem?_set]
    split
    · rename_i e; subst e
      split
      · exact hu.symm
      · rename_i e; rw [List.getElem?_eq_none (by omega)]
    · rfl
  rwa [h8] at h7

/-- A row whose handle lies somewhere in a cell of the call's own becomes immutable. -/
theorem run_freezeUp {b kk : Nat} {T' : TypeId} {ds : List D} {C C' : Res → List Res} {F F' : List Res} {α : Type} {T n : Nat} {f' : α → List D} {xs : List α} {v : Value} (d d' : D) (hm : Sel (rRow v T n f' xs) M C F) (hc : Sel (rCells b T' ds) F C' F') (hk : ds[kk]? = some d)
    (hup : ∀ J u, d.rel J u → (dSl n f' xs).rel J v → d'.rel J u)
    (h : Run P f N I0 R g (C' (rCells b T' (ds.set kk d'))) k) : Run P f N I0 R g M k := by
  refine run_turn (fun I a w hsl hi => ?_) h
  obtain ⟨J, hle, hd, hi'⟩ := row_freeze (hi.perm hm.perm.1)
  refine ⟨J, hle, hsl.mono hle, ?_⟩
  have h2 := hi'.perm hc.perm.1
  refine Inv.perm ?_ (hc.perm.2 _)
  refine ⟨h2.os, h2.tape, h2.output, h2.imm, fun r hr => ?_, h2.apart⟩
  rcases List.mem_cons.1 hr with rfl | hr
  · obtain ⟨h3, o, h4, cs, h5, h6⟩ := h2.own _ (List.mem_cons_self ..)
    exact ⟨h3, o, h4, cs, h5, relL_same h6 hk (fun u hu => hup J u hu hd)⟩
  · exact h2.own r (List.mem_cons_of_mem _ hr)

/-- What is known of a cell, told otherwise. -/
theorem run_cellsUp {b kk : Nat} {T' : TypeId} {ds : List D} {C' : Res → List Res} {F' : List Res} (d d' : D) (hc : Sel (rCells b T' ds) M C' F') (hk : ds[kk]? = some d) (hup : ∀ J u, d.rel J u → d'.rel J u)
    (h : Run P f N I0 R g (C' (rCells b T' (ds.set kk d'))) k) : Run P f N I0 R g M k := by
  refine run_turn (fun I a w hsl hi => ?_) h
  refine ⟨I, I.le_refl, hsl, ?_⟩
  have h2 := hi.perm hc.perm.1
  refine Inv.perm ?_ (hc.perm.2 _)
  refine ⟨h2.os, h2.tape, h2.output, h2.imm, fun r hr => ?_, h2.apart⟩
  rcases List.mem_cons.1 hr with rfl | hr
  · obtain ⟨h3, o, h4, cs, h5, h6⟩ := h2.own _ (List.mem_cons_self ..)
    exact ⟨h3, o, h4, cs, h5, relL_same h6 hk (fun u hu => hup I u hu)⟩
  · exact h2.own r (List.mem_cons_of_mem _ hr)

/-- A handle, told by name. -/
def dSlV (v : Value) : D := ⟨fun _ u => u = v ∧ ∃ a n c, u = .slice a n c, fun _ h => h⟩
instance (v : Value) : One (dSlV v) := ⟨fun ⟨_, _, _, _, h⟩ => by rw [h]; exact ⟨rfl, rfl⟩⟩

theorem runL_rowV {ops : Array Oper} {l : List Oper} {s : Nat} {C : Res → List Res} {F : List Res} {α : Type} {T n : Nat} {f' : α → List D} {xs : List α} {v : Value} (hs : look g s = some (dVal v)) (hm : Sel (rRow v T n f' xs) M C F)
    (h : RunL P f N I0 R ((s, dSlV v) :: g) M ops l k) : RunL P f N I0 R g M ops l k := by
  constructor
  intro I a w b cs hb hk hl hsl hi
  refine h.go I a w b cs hb hk hl (slots_cast hsl I.le_refl hs (fun u hu => ⟨hu, ?_⟩)) hi
  rw [show u = v from hu]
  rcases row_cases (hi.perm hm.perm.1) with ⟨e, _⟩ | ⟨b, cap, cs, e, _⟩
  · exact ⟨_, _, _, e⟩
  · exact ⟨_, _, _, e⟩

theorem row_slice {α : Type} {v : Value} {T n : Nat} {f' : α → List D} {xs : List α} {I : Imm} {F : List Res} {w : World} (h : Inv I (rRow v T n f' xs :: F) w) : ∃ a n c, v = .slice a n c := by
  rcases row_cases h with ⟨e, _⟩ | ⟨b, cap, cs, e, _⟩
  · exact ⟨_, _, _, e⟩
  · exact ⟨_, _, _, e⟩

theorem loc_append1V {t e : TypeId} {bytes : Nat} {z : Value} {agg : Bool} {n : Nat} {α : Type} {f' : α → List D} {xs : List α} {v : Value} {x y : Operand} {dst : Option Tmp} {ty : TypeId} {pos : String} {after : Array Edge} {gd : Option (Nat × Bool)} {ds : List D} (e0 : α) [ht : TySl P t e] [hz : TyZ P e bytes z] [hv : TyV P e agg n] [h1 : ∀ x, OneAll (f' x)] (hx : opd g x = some (dSlV v)) (hy : opd g y = some (dSl n (fun l : List D => l) [ds])) (he : f' e0 = ds) (hzn : z.cells.size = n)
    (hb : (xs.length + 1) * bytes ≤ 140737488355328) (hl : xs.length + 1 ≤ lenMax) :
    LocM P ⟨dst, .call ⟨.builtin .append, #[x, y], #[t, t]⟩, ty, pos, after, gd⟩ g N [rRow v e n f' xs] (fun _ : Value => True) (fun v' => dSlV v') (fun v' => [rRow v' e n f' (xs ++ [e0])]) := by
  constructor
  intro F I a w K Q hs hi hK
  subst he
  have hxv : a.eval x = v := (opd_sound hs hx).1
  obtain ⟨ad, cap, hyv, hcap, _, _, hel⟩ := dSl_lit (opd_sound hs hy)
  have hnil : ad = none → [e0] = [] := by
    intro h
    obtain ⟨_, p, hp, _⟩ := hel 0 e0 rfl; rw [h] at hp; cases hp
  obtain ⟨v', w', hr, hi'⟩ := row_append (P := P) (t := t) (ht := ht) (hz := hz) (hv := hv) rfl hzn hi rfl hcap hel hnil (by simpa using hb) (by simpa using hl) ty
  unfold Oper.wp
  have hrun : (execOp a.eval ⟨dst, .call ⟨.builtin .append, #[x, y], #[t, t]⟩, ty, pos, after, gd⟩).run P w = .ok (.value v') w' := by
    simp only [execOp, resolve, invoke, builtin, Sem.run_bind, Sem.run_pure, Result.andThen_ok, List.map_toArray, List.map_cons, List.map_nil, hxv, hyv]
    simp only [List.length_cons, List.length_nil] at hr ⊢
    rw [hr]
    rfl
  rw [hrun]
  exact hK v' v' w' I trivial I.le_refl ⟨rfl, row_slice hi'⟩ hi'

/-! ### Many rows become immutable -/

def rOf {α : Type} (T n : Nat) (f' : α → List D) (p : Value × List α) : Res := rRow p.1 T n f' p.2

theorem rows_freeze {α : Type} {T n : Nat} {f' : α → List D} : ∀ (l : List (Value × List α)) {I : Imm} {F : List Res} {w : World}, Inv I (l.map (rOf T n f') ++ F) w →
    ∃ J, I.le J ∧ (∀ p ∈ l, (dSl n f' p.2).rel J p.1) ∧ Inv J F w
  | [], I, F, w, h => ⟨I, I.le_refl, fun p hp => (by cases hp), h⟩
  | p :: l, I, F, w, h => by
    obtain ⟨J, h1, h2, h3⟩ := row_freeze (show Inv I (rRow p.1 T n f' p.2 :: (l.map (rOf T n f') ++ F)) w from h)
    obtain ⟨K, h4, h5, h6⟩ := rows_freeze l h3
    refine ⟨K, h1.trans h4, fun q hq => ?_, h6⟩
    rcases List.mem_cons.1 hq with rfl | hq
    · exact (dSl n f' q.2).mono h4 h2
    · exact h5 q hq

/-- Elements of an immutable row, told more closely. -/
theorem sl_up {α β : Type} {n : Nat} {f : α → List D} {h : β → List D} {I : Imm} {v : Value} {xs : List α} {ys : List β} (hl : xs.length = ys.length)
    (hup : ∀ (i : Nat) (x : α) (y : β), xs[i]? = some x → ys[i]? = some y → (f x).length = (h y).length ∧ ∀ cs, relL (f x) I cs → relL (h y) I cs) (hr : (dSl n f xs).rel I v) : (dSl n h ys).rel I v := by
  obtain ⟨a, cap, h1, h2, h3, h4, h5⟩ := hr
  rw [hl] at h1 h2 h4
  refine ⟨a, cap, h1, h2, h3, h4, fun i y hy => ?_⟩
  have hi : i < ys.length := (List.getElem?_eq_some_iff.1 hy).1
  have hx : xs[i]? = some (xs[i]'(by omega)) := by simp [hl, hi]
  obtain ⟨e1, e2⟩ := hup i _ y hx hy
  obtain ⟨h6, p, h7, h8, h9, cs, T, fz, h10, h11⟩ := h5 i _ hx
  exact ⟨by omega, p, h7, h8, h9, cs, T, fz, h10, by rw [← e1]; exact e2 _ h11⟩

/-- A row of rows that the call owns, with all of its rows, becomes immutable. -/
theorem spec_freezeRows {f : FuncId} {Ds : List D} {T T' : Nat} {xs : List (List Int)}
    (h : Spec P f Ds [] (fun s : Value × List (Value × List Int) => s.2.map (·.2) = xs) (fun s => dVal s.1) (fun s => rRow s.1 T 1 (fun u => [dSlV u]) (s.2.map (·.1)) :: s.2.map (rOf T' 1 (fun x => [dInt .i64 x])))) : SpecP P f Ds (dRows xs) := by
  intro I M w vs hv hi
  refine (h I M w vs hv hi).mono ?_
  rintro e w' ⟨v, rfl, s, hs, J, h1, h2, h3⟩
  obtain ⟨J', h4, h5, h6⟩ := row_freeze h3
  obtain ⟨K, h7, h8, h9⟩ := rows_freeze s.2 h6
  have hvs : v = s.1 := h2
  subst hvs
  refine ⟨s.1, rfl, K, (h1.trans h4).trans h7, ?_, h9⟩
  refine sl_up (by rw [← hs]; simp) (fun i x y hx hy => ⟨rfl, fun cs hr => ?_⟩) (D.mono _ h7 h5)
  rw [← hs] at hy
  rw [List.getElem?_map] at hx hy
  match hp : s.2[i]?, cs, hr with
  | some p, [u], hr =>
    rw [hp] at hx hy
    simp only [Option.map_some, Option.some.injEq] at hx hy
    subst hx; subst hy
    have := h8 p (List.mem_of_getElem? hp)
    rw [← show u = p.1 from hr.1.1] at this
    exact ⟨this, trivial⟩
  | none, _, _ => rw [hp] at hx; cases hx

/-- The same, but one of its rows stays the call's own. -/
theorem spec_freezeBut {f : FuncId} {Ds : List D} {T T' : Nat} {xs : List (List Int)} (k : Nat) (hk : k < xs.length)
    (h : Spec P f Ds [] (fun s : Value × List (Value × List Int) => s.2.map (·.2) = xs) (fun s => dVal s.1) (fun s => rRow s.1 T 1 (fun u => [dSlV u]) (s.2.map (·.1)) :: s.2.map (rOf T' 1 (fun x => [dInt .i64 x])))) :
    Spec P f Ds [] (fun _ : Value => True) (fun v => dSl 1 (fun d : D => [d]) ((xs.map (fun x => dInts x)).set k (dVal v))) (fun v => [rRow v T' 1 (fun x => [dInt .i64 x]) (xs[k]?.getD default)]) := by
  intro I M w vs hv hi
  refine (h I M w vs hv hi).mono ?_
  rintro e w' ⟨v, rfl, s, hs, J, h1, h2, h3⟩
  obtain ⟨J', h4, h5, h6⟩ := row_freeze h3
  have hlen : s.2.length = xs.length := by rw [← hs]; simp
  have hpk : s.2[k]? = some (s.2[k]'(by omega)) := by simp [hlen, hk]
  generalize s.2[k]'(by omega) = pk at hpk
  have hxk : xs[k]?.getD default = pk.2 := by rw [← hs, List.getElem?_map, hpk]; rfl
  have hsp : s.2 = s.2.take k ++ pk :: s.2.drop (k + 1) := by
    conv => lhs; rw [← List.take_append_drop k s.2]
    congr 1
    rw [List.drop_eq_getElem_cons (by omega)]
    congr 1
    rw [List.getElem?_eq_getElem (by omega)] at hpk
    injection hpk
  have h6' : Inv J' ((s.2.take k ++ s.2.drop (k + 1)).map (rOf T' 1 (fun x => [dInt .i64 x])) ++ (rOf T' 1 (fun x => [dInt .i64 x]) pk :: M)) w' := by
    refine h6.perm ?_
    conv => lhs; rw [hsp]
    simp only [List.append_eq, List.map_append, List.map_cons, List.append_assoc, List.cons_append]
    refine List.Perm.append_left _ ?_
    exact (List.perm_middle).symm
  obtain ⟨K, h7, h8, h9⟩ := rows_freeze _ h6'
  have hvs : v = s.1 := h2
  subst hvs
  refine ⟨s.1, rfl, pk.1, trivial, K, (h1.trans h4).trans h7, ?_, ?_⟩
  · refine sl_up (by simp [hlen]) (fun i x y hx hy => ⟨rfl, fun cs hr => ?_⟩) (D.mono _ h7 h5)
    rw [List.getElem?_map] at hx
    match hp : s.2[i]?, cs, hr with
    | some p, [u], hr =>
      rw [hp] at hx
      simp only [Option.map_some, Option.some.injEq] at hx
      subst hx
      have hu : u = p.1 := hr.1.1
      rw [List.getElem?_set] at hy
      by_cases e : k = i
      · subst e
        rw [if_pos rfl, if_pos (by simp; omega)] at hy
        injection hy with hy
        subst hy
        rw [hpk] at hp
        injection hp with hp
        exact ⟨by rw [hp]; exact hu, trivial⟩
      · rw [if_neg e, List.getElem?_map, ← hs, List.getElem?_map, hp] at hy
        simp only [Option.map_some, Option.some.injEq] at hy
        subst hy
        have hm : p ∈ s.2.take k ++ s.2.drop (k + 1) := by
          by_cases e2 : i < k
          · exact List.mem_append_left _ (List.mem_of_getElem? (i := i) (by rw [List.getElem?_take, if_pos e2]; exact hp))
          · exact List.mem_append_right _ (List.mem_of_getElem? (i := i - (k + 1)) (by rw [List.getElem?_drop, show k + 1 + (i - (k + 1)) = i by omega]; exact hp))
        have := h8 p hm
        rw [← hu] at this
        exact ⟨this, trivial⟩
    | none, _, _ => rw [hp] at hx; cases hx
  · rw [hxk]; exact h9

end Go.Q

namespace Go.Q
open Classical

structure Dk where
  xs : List Int
  k : Nat

def Dk.val (d : Dk) (n : Int) : Int := if n < 1 ∨ d.xs.length ≤ d.k then 0 else (d.xs[d.k]?.getD default) % n
def Dk.next (d : Dk) (n : Int) : Dk := if n < 1 ∨ d.xs.length ≤ d.k then d else ⟨d.xs, d.k + 1⟩

theorem Dk.val_nonneg (d : Dk) (n : Int) : 0 ≤ d.val n := by
  unfold Dk.val
  split
  · omega
  · exact Int.emod_nonneg _ (by omega)
theorem Dk.val_lt (d : Dk) (n : Int) (h : 1 ≤ n) : d.val n < n := by
  unfold Dk.val
  split
  · omega
  · exact Int.emod_lt_of_pos _ (by omega)

def Dk.it (d : Dk) (p : Int) : Nat → Dk
  | 0 => d
  | k + 1 => (d.it p k).next p
def Dk.elems (d : Dk) (p : Int) : Nat → List Int
  | 0 => []
  | k + 1 => d.elems p k ++ [(d.it p k).val p]
def Dk.itR (d : Dk) (p : Int) (w : Nat) : Nat → Dk
  | 0 => d
  | k + 1 => (d.itR p w k).it p w
def Dk.rowsR (d : Dk) (p : Int) (w : Nat) : Nat → List (List Int)
  | 0 => []
  | k + 1 => d.rowsR p w k ++ [(d.itR p w k).elems p w]

theorem Dk.elems_length (d : Dk) (p : Int) : ∀ k, (d.elems p k).length = k
  | 0 => rfl
  | k + 1 => by simp [Dk.elems, Dk.elems_length d p k]
theorem Dk.elems_all (d : Dk) (p : Int) (hp : 1 ≤ p) : ∀ k, allP p (d.elems p k)
  | 0 => fun x hx => by cases hx
  | k + 1 => fun x hx => by
    rcases List.mem_append.1 hx with hx | hx
    · exact Dk.elems_all d p hp k x hx
    · rw [List.mem_singleton] at hx
      subst hx
      exact ⟨Dk.val_nonneg _ _, Dk.val_lt _ _ hp⟩
theorem Dk.rowsR_length (d : Dk) (p : Int) (w : Nat) : ∀ k, (d.rowsR p w k).length = k
  | 0 => rfl
  | k + 1 => by simp [Dk.rowsR, Dk.rowsR_length d p w k]
theorem Dk.rowsR_all (d : Dk) (p : Int) (w : Nat) (hp : 1 ≤ p) : ∀ k, ∀ r ∈ d.rowsR p w k, r.length = w ∧ allP p r
  | 0 => fun x hx => by cases hx
  | k + 1 => fun x hx => by
    rcases List.mem_append.1 hx with hx | hx
    · exact Dk.rowsR_all d p w hp k x hx
    · rw [List.mem_singleton] at hx
      subst hx
      exact ⟨Dk.elems_length _ _ _, Dk.elems_all _ _ hp _⟩

def primes9 : List Int := [2, 3, 5, 7, 11, 13, 17, 257, 65521]
def Dk.fld (d : Dk) : Int := primes9[(d.val 9).toNat]?.getD default

set_option maxRecDepth 20000 in
theorem ok_small : ∀ p ∈ [2, 3, 5, 7, 11, 13, 17, 257, 65521], ∀ e : Nat, e < 256 → 2 ≤ e → e * e ≤ p → p % e ≠ 0 := by decide

theorem okP_nine {p : Int} (h : p ∈ primes9) : okP p := by
  have h1 : ∃ q : Nat, q ∈ [2, 3, 5, 7, 11, 13, 17, 257, 65521] ∧ p = q := by
    simp only [primes9, List.mem_cons, List.not_mem_nil, or_false] at h
    rcases h with h | h | h | h | h | h | h | h | h <;> subst h
    · exact ⟨2, by decide, rfl⟩
    · exact ⟨3, by decide, rfl⟩
    · exact ⟨5, by decide, rfl⟩
    · exact ⟨7, by decide, rfl⟩
    · exact ⟨11, by decide, rfl⟩
    · exact ⟨13, by decide, rfl⟩
    · exact ⟨17, by decide, rfl⟩
    · exact ⟨257, by decide, rfl⟩
    · exact ⟨65521, by decide, rfl⟩
  obtain ⟨q, hq, rfl⟩ := h1
  have hb : ∀ q ∈ [2, 3, 5, 7, 11, 13, 17, 257, 65521], 2 ≤ q ∧ q ≤ 65521 := by decide
  have hb := hb q hq
  refine ⟨by omega, by omega, fun d h2 h3 h4 => ?_⟩
  have hd : d < 256 := by
    by_cases e : d < 256
    · exact e
    · exfalso
      have := Int.mul_le_mul (show (256 : Int) ≤ d by omega) (show (256 : Int) ≤ d by omega) (by omega) (by omega)
      omega
  obtain ⟨e, rfl⟩ := Int.eq_ofNat_of_zero_le (show 0 ≤ d by omega)
  refine ok_small q hq e (by omega) (by omega) (by exact_mod_cast h3) ?_
  have h5 : ((q % e : Nat) : Int) = 0 := by rw [Int.natCast_emod]; exact h4
  exact_mod_cast h5

theorem Dk.fld_mem (d : Dk) : d.fld ∈ primes9 := by
  have h1 := d.val_nonneg 9
  have h2 := d.val_lt 9 (by omega)
  exact getD_mem (xs := primes9) (by show (d.val 9).toNat < 9; omega)
theorem Dk.fld_ok (d : Dk) : okP d.fld := okP_nine d.fld_mem

theorem checkT_zero {t : Tab} (h1 : 1 ≤ t.number ∧ t.number < 2147483647) (h2 : okP t.p) (h3 : 1 ≤ t.width ∧ t.width ≤ 64) (h4 : t.rows.length ≤ 1024) (h5 : ∀ r ∈ t.rows, (r.length : Int) = t.width ∧ allP t.p r) : checkT t = 0 := by
  unfold checkT
  rw [if_neg (by omega), if_neg (by simpa using h2), if_neg (by omega), if_neg (by omega)]
  refine firstErr_zero.2 fun r hr => ?_
  obtain ⟨h6, h7⟩ := h5 r hr
  unfold rowErr
  rw [if_neg (by simpa using h6), if_neg (by simpa using h7)]

/-- The deck after the numbers of a table's field and width, then after its number, then after how many rows it has. -/
def Dk.tabW (d : Dk) : Int := 1 + (d.next 9).val 4
def Dk.tab1 (d : Dk) : Dk := (d.next 9).next 4
def Dk.tabN (d : Dk) : Int := 1 + d.tab1.val 9
def Dk.tab2 (d : Dk) : Dk := d.tab1.next 9
def Dk.tabR (d : Dk) : Int := d.tab2.val 7
def Dk.tab3 (d : Dk) : Dk := d.tab2.next 7
def Dk.tab (d : Dk) : Tab := ⟨d.tabN, d.fld, d.tabW, d.tab3.rowsR d.fld d.tabW.toNat d.tabR.toNat⟩
def Dk.tab4 (d : Dk) : Dk := d.tab3.itR d.fld d.tabW.toNat d.tabR.toNat

theorem Dk.tabW_bd (d : Dk) : 1 ≤ d.tabW ∧ d.tabW ≤ 4 := by
  have h1 := (d.next 9).val_nonneg 4
  have h2 := (d.next 9).val_lt 4 (by omega)
  unfold Dk.tabW; omega
theorem Dk.tabN_bd (d : Dk) : 1 ≤ d.tabN ∧ d.tabN ≤ 9 := by
  have h1 := d.tab1.val_nonneg 9
  have h2 := d.tab1.val_lt 9 (by omega)
  unfold Dk.tabN; omega
theorem Dk.tabR_bd (d : Dk) : 0 ≤ d.tabR ∧ d.tabR ≤ 6 := by
  have h1 := d.tab2.val_nonneg 7
  have h2 := d.tab2.val_lt 7 (by omega)
  unfold Dk.tabR; omega

theorem Dk.tab_rows (d : Dk) : d.tab.rows.length ≤ 6 ∧ ∀ r ∈ d.tab.rows, (r.length : Int) = d.tab.width ∧ allP d.tab.p r := by
  have h1 := d.tabW_bd
  have h2 := d.tabR_bd
  refine ⟨by show (d.tab3.rowsR _ _ _).length ≤ 6; rw [Dk.rowsR_length]; omega, fun r hr => ?_⟩
  obtain ⟨h3, h4⟩ := Dk.rowsR_all _ _ _ (by have := d.fld_ok; unfold okP at this; omega) _ r hr
  exact ⟨by rw [h3]; show _ = d.tabW; omega, h4⟩

theorem Dk.tab_ok (d : Dk) : checkT d.tab = 0 := by
  have h1 := d.tabW_bd
  have h2 := d.tabN_bd
  have h3 := d.tab_rows
  exact checkT_zero (by show _ ∧ d.tabN < _; exact ⟨h2.1, by omega⟩) d.fld_ok (by show _ ∧ d.tabW ≤ _; exact ⟨h1.1, by omega⟩) (by omega) h3.2

theorem Dk.newT_tab (d : Dk) : newT d.tabN d.fld d.tabW (d.tab3.rowsR d.fld d.tabW.toNat d.tabR.toNat) = d.tab := by
  have h := d.tab_ok
  unfold newT
  rw [if_pos (show checkT ⟨d.tabN, d.fld, d.tabW, d.tab3.rowsR d.fld d.tabW.toNat d.tabR.toNat⟩ = 0 from h)]
  rfl

end Go.Q

namespace Go.Q

variable {P : Program} {f : FuncId}

/-- A deck at a place of the heap, of the type T. -/
def rDk (T b : Nat) (d : Dk) : Res := rCells b T [dInts d.xs, dInt .i64 (d.k : Nat)]

theorem spec_freezeK {Ds : List D} {T n : Nat} {α : Type} {f' : α → List D} {xs : List α} {Min : List Res} {r : Res} (h : Spec P f Ds Min (fun _ : Value => True) (fun v => dVal v) (fun v => [rRow v T n f' xs, r])) : Spec P f Ds Min (fun _ : Unit => True) (fun _ => dSl n f' xs) (fun _ => [r]) := by
  intro I M w vs hv hi
  refine (h I M w vs hv hi).mono ?_
  rintro e w' ⟨v, rfl, s, _, J, h1, h2, h3⟩
  obtain ⟨J', h4, h5, h6⟩ := row_freeze h3
  have hvs : v = s := h2
  subst hvs
  exact ⟨v, rfl, (), trivial, J', h1.trans h4, h5, h6⟩

end Go.Q

namespace Go.Q
open Classical

theorem digs_ok {t : Tab} (h : checkT t = 0) : digs t = t.rows.map rowD := by unfold digs; rw [if_pos h]
theorem head_ok {t : Tab} (h : checkT t = 0) : headT t = ⟨t.number, t.p, t.rows.length, t.width, rootD (t.rows.map rowD)⟩ := by unfold headT; rw [if_pos h]
theorem digs_len {t : Tab} (h : checkT t = 0) : (digs t).length = t.rows.length := by rw [digs_ok h]; simp
theorem holds_ok {t : Tab} (h : checkT t = 0) : holdsH (headT t) (digs t) = 0 := by
  have h2 := listErr_digs t.rows (checkT_ok h).2.2.2.1
  rw [digs_ok h, head_ok h]
  unfold holdsH
  simp [h2]
theorem digs_get {t : Tab} (h : checkT t = 0) (i : Nat) (hi : i < t.rows.length) : (digs t)[i]?.getD default = rowD (t.rows[i]?.getD default) := by
  rw [digs_ok h, List.getElem?_map, List.getElem?_eq_getElem hi]; rfl

theorem verify_ok {t : Tab} (h : checkT t = 0) (i : Int) (r : List Int) : verifyH (headT t) (digs t) i r =
    if i < 0 ∨ (t.rows.length : Int) ≤ i then 6 else if (r.length : Int) ≠ t.width then 2 else if ¬ allP t.p r then 9 else if rowD r ≠ rowD (t.rows[i.toNat]?.getD default) then 13 else 0 := by
  have h1 := checkT_ok h
  have hh := holds_ok h
  unfold verifyH
  rw [if_neg (by simpa using hh), digs_len h]
  by_cases c : i < 0 ∨ (t.rows.length : Int) ≤ i
  · rw [if_pos c, if_pos c]
  · rw [if_neg c, if_neg c, if_neg (by rw [head_ok h]; simpa using h1.2.1), digs_get h _ (by omega), head_ok h]

/-- A row of the table passes at its own index. -/
theorem verify_self {t : Tab} (h : checkT t = 0) (k : Nat) (hk : k < t.rows.length) (j : Nat) (hj : j < t.rows.length) :
    verifyH (headT t) (digs t) j (t.rows[k]?.getD default) = if rowD (t.rows[k]?.getD default) ≠ rowD (t.rows[j]?.getD default) then 13 else 0 := by
  have h1 := (checkT_ok h).2.2.2.2 _ (getD_mem hk)
  rw [verify_ok h, if_neg (by omega), if_neg (by simpa using h1.1), if_neg (by simpa using h1.2)]
  simp

theorem index_law {x : Tab} (hx : checkT x = 0) {i k : Int} (hi : 0 ≤ i ∧ i < x.rows.length) (hk : 0 ≤ k ∧ k < x.rows.length) :
    (((((checkT x = 0 ∧ checkT x = 0) ∧ (verifyH (headT x) (digs x) k (x.rows[i.toNat]?.getD default) = 0 ↔ (digs x)[i.toNat]?.getD default = (digs x)[k.toNat]?.getD default)) ∧
      (verifyH (headT x) (digs x) k (x.rows[i.toNat]?.getD default) = 0 ∨ verifyH (headT x) (digs x) k (x.rows[i.toNat]?.getD default) = 13)) ∧
      verifyH (headT x) (digs x) ((digs x).length : Nat) (x.rows[i.toNat]?.getD default) = 6) ∧ verifyH (headT x) (List.drop (Int.toNat 1) (digs x)) 0 (x.rows[i.toNat]?.getD default) = 2) := by
  have e1 := verify_self hx i.toNat (by omega) k.toNat (by omega)
  rw [show ((k.toNat : Nat) : Int) = k by omega] at e1
  rw [digs_get hx _ (show i.toNat < x.rows.length by omega), digs_get hx _ (show k.toNat < x.rows.length by omega), e1]
  have e4 : verifyH (headT x) (digs x) ((digs x).length : Nat) (x.rows[i.toNat]?.getD default) = 6 := by rw [verify_ok hx, if_pos (by rw [digs_len hx]; omega)]
  have e2 : holdsH (headT x) (List.drop (Int.toNat 1) (digs x)) = 2 := by
    unfold holdsH
    rw [if_pos]
    rw [head_ok hx, List.length_drop, digs_len hx]
    show ((x.rows.length - 1 : Nat) : Int) ≠ x.rows.length
    omega
  have e3 : verifyH (headT x) (List.drop (Int.toNat 1) (digs x)) 0 (x.rows[i.toNat]?.getD default) = 2 := by
    unfold verifyH
    rw [if_pos (by omega), e2]
  refine ⟨⟨⟨⟨⟨hx, hx⟩, ?_⟩, ?_⟩, e4⟩, e3⟩
  · by_cases c : rowD (x.rows[i.toNat]?.getD default) = rowD (x.rows[k.toNat]?.getD default) <;> simp [c]
  · by_cases c : rowD (x.rows[i.toNat]?.getD default) = rowD (x.rows[k.toNat]?.getD default) <;> simp [c]

/-- The first table of all. -/
def tab0 : Tab := ⟨1, 5, 2, [[1, 2], [3, 4]]⟩
theorem tab0_ok : checkT tab0 = 0 := by
  refine checkT_zero (by decide) (okP_nine (by decide)) (by decide) (by decide) (fun r hr => ?_)
  simp only [tab0, List.mem_cons, List.not_mem_nil, or_false] at hr
  rcases hr with rfl | rfl
  · exact ⟨rfl, fun x hx => by simp at hx; unfold hasP; show _ ∧ x < 5; omega⟩
  · exact ⟨rfl, fun x hx => by simp at hx; unfold hasP; show _ ∧ x < 5; omega⟩
theorem tab0_good : verifyH (headT tab0) (digs tab0) 1 [3, 4] = 0 := verify_self tab0_ok 1 (by decide) 1 (by decide) |>.trans (if_neg (by simp))
theorem tab0_bad : verifyH (headT tab0) (digs tab0) 1 [3, 3] = 13 := by
  rw [verify_ok tab0_ok, if_neg (by decide), if_neg (by decide), if_neg (Classical.not_not.2 (show allP tab0.p [3, 3] from fun x hx => by simp at hx; unfold hasP; show _ ∧ x < 5; omega)), if_pos (by decide)]

end Go.Q

namespace Go.Q

variable {P : Program} {f : FuncId} {N : Nat} {g : G} {M : List Res} {dst : Option Tmp} {ty : TypeId} {pos : String} {after : Array Edge} {gd : Option (Nat × Bool)}

theorem specP_pre {Ds Ds' : List D} {d : D} (h : SpecP P f Ds d) (hd : ∀ I vs, relL Ds' I vs → relL Ds I vs) : SpecP P f Ds' d :=
  fun I M w vs hv hi => h I M w vs (hd I vs hv) hi

theorem relL_last {a a' : D} {ds : List D} (h : ∀ I v, a'.rel I v → a.rel I v) : ∀ I vs, relL (ds ++ [a']) I vs → relL (ds ++ [a]) I vs := by
  induction ds with
  | nil => intro I vs hr; match vs, hr with | [v], hr => exact ⟨h _ _ hr.1, trivial⟩
  | cons e ds ih => intro I vs hr; match vs, hr with | v :: vs, hr => exact ⟨hr.1, ih I vs hr.2⟩

theorem opd_sub {c p : Prop} (hg : c) {d : D} : dIf (c ∧ p) d = dIf p d := by
  have : (c ∧ p) = p := propext ⟨fun h => h.2, fun h => ⟨hg, h⟩⟩
  rw [this]

theorem loc_orG {c0 : Prop} (hg : c0) {c b : Operand} {p q : Prop} (hc : opd g c = some (dB p)) (hb : opd g b = some (dIf (c0 ∧ ¬ p) (dB q))) : LocP P ⟨dst, .pick c (.const (.bool true)) b, ty, pos, after, gd⟩ g N M (dB (p ∨ q)) :=
  loc_or hc (hb.trans (congrArg some (opd_sub hg)))
theorem loc_andG {c0 : Prop} (hg : c0) {c b : Operand} {p q : Prop} (hc : opd g c = some (dB p)) (hb : opd g b = some (dIf (c0 ∧ p) (dB q))) : LocP P ⟨dst, .pick c b (.const (.bool false)), ty, pos, after, gd⟩ g N M (dB (p ∧ q)) :=
  loc_and hc (hb.trans (congrArg some (opd_sub hg)))

/-- A literal of two numbers. -/
abbrev dLit2 (a b : Int) : D := dSl 1 (fun l : List D => l) [[dInt .i64 a], [dInt .i64 b]]
theorem lit2 (a b : Int) : ∀ I v, (dLit2 a b).rel I v → (dInts [a, b]).rel I v := d_sl rfl

end Go.Q

namespace Go.Q
open Classical

variable {P : Program} {f : FuncId} {N : Nat} {I0 : Imm} {R : Goal} {g : G} {M : List Res} {k : List Item}

/-- Before roads part: what holds where they meet again, and what follows there. -/
theorem run_join {c : Code} {σ : Type} (Γ : σ → G) (Mo : σ → List Res) (φ : σ → Prop) (h2 : (∀ s, φ s → Run P f N I0 R (Γ s) (Mo s) k) → Run P f N I0 R g M (.code c :: k))
    (h1 : ∀ s, φ s → Run P f N I0 R (Γ s) (Mo s) k) : Run P f N I0 R g M (.code c :: k) := h2 h1

theorem run_at {σ : Type} {Γ : σ → G} {Mo : σ → List Res} {φ : σ → Prop} (j : ∀ s, φ s → Run P f N I0 R (Γ s) (Mo s) k) (s : σ) (hφ : φ s) (hM : M = Mo s) (hg : Keep g (Γ s)) : Run P f N I0 R g M k :=
  run_keep hg (hM ▸ j s hφ)

theorem run_gopM {α : Type} (mk : α → Res) {x0 x1 : α} {C : Res → List Res} {F : List Res} {l : List Oper} {rest : List Oper} {dst gs : Tmp} {j : Nat} {want : Bool} {op : Op} {ty : TypeId} {pos : String} {after : Array Edge} {d dg : D} {c : Prop} {gt : G}
    (hj : (l[j]?).bind (·.dst) = some gs) (hg : look g gs = some dg) (hgd : guardD want dg c)
    (hd : c → LocM P ⟨some dst, op, ty, pos, after, some (j, want)⟩ gt N [mk x0] (fun _ : Unit => True) (fun _ => d) (fun _ => [mk x1])) (hN : Nat.blt dst N = true) (hsel : Sel (mk x0) M C F)
    (h : RunLG P f N I0 R c ((dst, d) :: gt) ((dst, dIf c d) :: g) (C (mk (if c then x1 else x0))) l.toArray rest k) :
    RunLG P f N I0 R c gt g M l.toArray (⟨some dst, op, ty, pos, after, some (j, want)⟩ :: rest) k := by
  constructor
  intro I a w b cs hb hk hl hs hst hi
  have hgs := hs.slot gs _ hg
  have hN' : dst < N := by simpa [Nat.blt_eq] using hN
  have hy : yielded l.toArray a.tmps j = (match a.tmps.getD gs undef with | .bool b => some b | _ => none) := by
    simp only [yielded, List.getElem?_toArray, hj, Option.bind_some, Array.getD_eq_getD_getElem?]
    cases hx : a.tmps[gs]? with
    | none => rfl
    | some u => cases u <;> rfl
  have hans := hgd I _ hgs
  by_cases hc : c
  · rw [if_pos hc] at h
    refine wpl_want hs.defers ?_ fun K hK => ?_
    · simp only [Region.wanted, hy]
      exact beq_iff_eq.2 (hans.2 hc)
    · refine (hd hc).go F I a w K _ (hst hc) (hi.perm hsel.perm.1) fun s v w' J _ hle hv hi' => hK _ _ ?_
      exact h.go J _ w' b cs hb hk (hl.trans hle) ((hs.mono hle).put (d := dIf _ d) ⟨fun _ => hv, fun hn => absurd hc hn⟩ hN') (fun _ => ((hst hc).mono hle).put hv hN') (hi'.perm (hsel.perm.2 _))
  · rw [if_neg hc] at h
    refine wpl_skip ?_ ?_
    · simp only [Region.wanted, hy]
      have : ¬ ((match a.tmps.getD gs undef with | .bool b => some b | _ => none) = some want) := fun e => hc (hans.1 e)
      simpa using this
    · exact h.go I _ w b cs hb hk hl (hs.put (d := dIf _ d) ⟨fun hcc => absurd hcc hc, fun _ => rfl⟩ hN') (fun hcc => absurd hcc hc) ((hi.perm hsel.perm.1).perm (hsel.perm.2 _))

end Go.Q

namespace Go.Q

variable {P : Program} {f : FuncId} {N : Nat} {I0 : Imm} {R : Goal} {g : G} {M : List Res} {k : List Item} {dst : Option Tmp} {ty : TypeId} {pos : String} {after : Array Edge} {gd : Option (Nat × Bool)}

/-- What is known of it does not lean on memory. -/
class Flat (d : D) : Prop where
  flat : ∀ {I J v}, d.rel I v → d.rel J v
instance (k : IntKind) (n : Int) : Flat (dInt k n) := ⟨fun h => h⟩
instance (p : Prop) : Flat (dB p) := ⟨fun h => h⟩

def whole (w : World) : Imm := ⟨fun b => w.heap[b]?, w.os, w.tape, w.output⟩
theorem whole_inv (w : World) : Inv (whole w) [] w := ⟨rfl, rfl, rfl, fun _ _ h => h, fun r hr => (by cases hr), List.nodup_nil⟩
theorem le_whole {I : Imm} {w : World} (h : Inv I M w) : I.le (whole w) := ⟨h.imm, h.os, h.tape, h.output⟩

theorem inv_kept {I J : Imm} {w w' : World} (h : Inv I M w) (hle : (whole w).le J) (hi : Inv J [] w') : Inv I M w' := by
  have hb : ∀ b o, w.heap[b]? = some o → w'.heap[b]? = some o := fun b o e => hi.imm b o (hle.blk b o e)
  refine ⟨(hi.os.trans hle.os).trans h.os, (hi.tape.trans hle.tape).trans h.tape, (hi.output.trans hle.output).trans h.output, fun b o e => hb b o (h.imm b o e), fun r hr => ?_, h.apart⟩
  have h1 := h.own r hr
  unfold Res.ok at h1 ⊢
  split
  · rename_i e; rw [e] at h1; exact h1
  · rename_i b e
    rw [e] at h1
    obtain ⟨h2, o, h3, h4⟩ := h1
    exact ⟨h2, o, hb b o h3, h4⟩

theorem row_view {I : Imm} {w : World} {α : Type} {v : Value} {T n : Nat} {f' : α → List D} {xs : List α} (h : Inv I M w) (hm : rRow v T n f' xs ∈ M) : (dSl n f' xs).rel (whole w) v := by
  obtain ⟨s, t, rfl⟩ := List.append_of_mem hm
  obtain ⟨J, _, h2, h3⟩ := row_freeze (h.perm List.perm_middle)
  exact (dSl n f' xs).mono (le_whole h3) h2

/-- The handle of a row that is not empty. -/
theorem run_rowForm {α : Type} {v : Value} {T n : Nat} {f' : α → List D} {xs : List α} (hm : In (rRow v T n f' xs) M) (hx : 0 < xs.length) (h : ∀ b cap, v = .slice (some ⟨b, 0, none⟩) xs.length cap → Run P f N I0 R g M k) : Run P f N I0 R g M k := by
  constructor
  intro I a w b cs hb hk hl hs hi
  obtain ⟨s, t, e⟩ := List.append_of_mem hm.mem
  have hi' := hi
  rw [e] at hi'
  rcases row_cases (hi'.perm List.perm_middle) with ⟨_, h2⟩ | ⟨b', cap, cs', h2, _⟩
  · rw [h2] at hx; cases hx
  · exact (h b' cap h2).go I a w b cs hb hk hl hs hi

/-- Arguments, of which some are rows of the call's own. -/
inductive Bor (M : List Res) : List D → List D → Prop where
  | nil : Bor M [] []
  | same {d : D} {ds es : List D} : Bor M ds es → Bor M (d :: ds) (d :: es)
  | row {v : Value} {T n : Nat} {α : Type} {f' : α → List D} {xs : List α} {ds es : List D} : In (rRow v T n f' xs) M → Bor M ds es → Bor M (dVal v :: ds) (dSl n f' xs :: es)

theorem Bor.rel {I : Imm} {w : World} (h : Inv I M w) : ∀ {ds es : List D} {vs : List Value}, Bor M ds es → relL ds I vs → relL es (whole w) vs := by
  intro ds es vs hb
  induction hb generalizing vs with
  | nil => intro hr; cases vs with | nil => trivial | cons => cases hr
  | same _ ih => intro hr; cases vs with | nil => cases hr | cons => exact ⟨D.mono _ (le_whole h) hr.1, ih hr.2⟩
  | row hm _ ih =>
    intro hr
    cases vs with
    | nil => cases hr
    | cons =>
      refine ⟨?_, ih hr.2⟩
      rw [show _ = _ from hr.1]
      exact row_view h hm.mem

theorem loc_callB {f : FuncId} [hf : TyFn P f] {xs : List Operand} {ats : Array TypeId} {Ds Es : List D} {d : D} [hd : Flat d] (hs : SpecP P f Es d) (hx : opds g xs = some Ds) (hb : Bor M Ds Es) :
    LocP P ⟨dst, .call ⟨.value (.func f), xs.toArray, ats⟩, ty, pos, after, gd⟩ g N M d := by
  constructor
  intro I a w K Q hsl hi hK
  unfold Oper.wp
  rw [execOp_call_slot (c := .func f) (f := f) (cap := #[]) rfl, Array.append_empty, run_callFunc hf]
  refine Calls.mono (hs (whole w) [] w _ (hb.rel hi (opds_sound hsl hx)) (whole_inv w)) ?_
  rintro e w' ⟨v, rfl, J, h1, h2, h3⟩
  exact hK v w' I I.le_refl (hd.flat h2) (inv_kept hi h1 h3)

end Go.Q

namespace Go.Q

instance : Inhabited D := ⟨dTop⟩

/-- Rows that are known, but for the one at k, of which the handle is known. -/
abbrev dBut (xs : List (List Int)) (k : Nat) (v : Value) : D := dSl 1 (fun d : D => [d]) ((xs.map (fun x => dInts x)).set k (dVal v))

theorem but_len (xs : List (List Int)) (k : Nat) (v : Value) : ((xs.map (fun x => dInts x)).set k (dVal v)).length = xs.length := by simp

theorem but_get {xs : List (List Int)} {k : Nat} {v : Value} (hk : k < xs.length) : ((xs.map (fun x => dInts x)).set k (dVal v))[k]?.getD default = dVal v := by
  rw [List.getElem?_set_self (by simpa using hk)]
  rfl

theorem but_up {xs : List (List Int)} {k : Nat} {v : Value} {ys : List Int} {J : Imm} {u : Value} (hk : k < xs.length) (h : (dBut xs k v).rel J u) (hr : (dInts ys).rel J v) : (dRows (xs.set k ys)).rel J u := by
  refine sl_up (by simp) (fun i d y hd hy => ⟨rfl, fun cs hc => ?_⟩) h
  match cs, hc with
  | [c], hc =>
    refine ⟨?_, trivial⟩
    rw [List.getElem?_set] at hd hy
    by_cases e : k = i
    · subst e
      rw [if_pos rfl, if_pos (by simpa using hk)] at hd
      rw [if_pos rfl, if_pos hk] at hy
      injection hd with hd
      injection hy with hy
      subst hd; subst hy
      rw [show c = v from hc.1]
      exact hr
    · rw [if_neg e, List.getElem?_map] at hd
      rw [if_neg e] at hy
      rw [hy] at hd
      injection hd with hd
      subst hd
      exact hc.1

theorem but_none {xs : List (List Int)} {k : Nat} {v : Value} {J : Imm} {u : Value} (hk : xs.length ≤ k) (h : (dBut xs k v).rel J u) : (dRows xs).rel J u := by
  refine sl_up (by simp) (fun i d y hd hy => ⟨rfl, fun cs hc => ?_⟩) h
  match cs, hc with
  | [c], hc =>
    refine ⟨?_, trivial⟩
    have hi := (List.getElem?_eq_some_iff.1 hy).1
    rw [List.getElem?_set, if_neg (by omega), List.getElem?_map, hy] at hd
    injection hd with hd
    subst hd
    exact hc.1

theorem none_but {xs : List (List Int)} {k : Nat} {v : Value} {J : Imm} {u : Value} (hk : xs.length ≤ k) (h : (dRows xs).rel J u) : (dBut xs k v).rel J u := by
  refine sl_up (by simp) (fun i y d hy hd => ⟨rfl, fun cs hc => ?_⟩) h
  match cs, hc with
  | [c], hc =>
    refine ⟨?_, trivial⟩
    have hi := (List.getElem?_eq_some_iff.1 hy).1
    rw [List.getElem?_set, if_neg (by omega), List.getElem?_map, hy] at hd
    injection hd with hd
    subst hd
    exact hc.1

/-- Rows, of which the one at k stays the call's own, if there is one. -/
theorem spec_freezeAny {P : Program} {f : FuncId} {Ds : List D} {T T' : Nat} {xs : List (List Int)} (k : Nat)
    (h : Spec P f Ds [] (fun s : Value × List (Value × List Int) => s.2.map (·.2) = xs) (fun s => dVal s.1) (fun s => rRow s.1 T 1 (fun u => [dSlV u]) (s.2.map (·.1)) :: s.2.map (rOf T' 1 (fun x => [dInt .i64 x])))) :
    Spec P f Ds [] (fun _ : Value => True) (fun v => dBut xs k v) (fun v => [rRow v T' 1 (fun x => [dInt .i64 x]) (xs[k]?.getD default)]) := by
  by_cases hk : k < xs.length
  · exact spec_freezeBut k hk h
  · have hd : xs[k]?.getD default = [] := by rw [List.getElem?_eq_none (by omega)]; rfl
    intro I M w vs hv hi
    refine (spec_freezeRows h I M w vs hv hi).mono ?_
    rintro e w' ⟨v, rfl, J, h1, h2, h3⟩
    refine ⟨v, rfl, .slice none 0 0, trivial, J, h1, none_but (by omega) h2, ?_⟩
    rw [hd]
    exact nil_ok h3

end Go.Q

namespace Go.Q

variable {P : Program} {f : FuncId} {N : Nat} {I0 : Imm} {R : Goal} {g : G} {M : List Res} {k : List Item} {dst : Option Tmp} {ty : TypeId} {pos : String} {after : Array Edge} {gd : Option (Nat × Bool)}

theorem fill_congr {p q : Nat → Option (Nat × Nat)} : ∀ {parts : List (Nat × Value)} {ar r : Array Value}, (∀ i s, q i = some s → p i = some s) → Instr.fill q ar parts = some r → Instr.fill p ar parts = some r
  | [], _, _, _, h => h
  | (i, v) :: parts, ar, r, hpq, h => by
    unfold Instr.fill at h ⊢
    cases hq : q i with
    | none => simp [hq] at h
    | some s =>
      rw [hpq i s hq]
      simp only [hq] at h
      split at h
      · cases h
      · rename_i hn
        simp only
        rw [if_neg hn]
        exact fill_congr hpq h

def arrPl (pl : List (Nat × Nat)) : Bool := pl.zipIdx.all fun q => Nat.beq q.1.1 q.2 && Nat.beq q.1.2 1
theorem arrPl_get {pl : List (Nat × Nat)} (h : arrPl pl = true) {i : Nat} {s : Nat × Nat} (hs : pl[i]? = some s) : s = (i, 1) := by
  have h1 := List.all_eq_true.1 h (s, i) (List.mem_zipIdx_iff_getElem?.2 (by simpa using hs))
  simp only [Bool.and_eq_true] at h1
  exact Prod.ext (Nat.eq_of_beq_eq_true h1.1) (Nat.eq_of_beq_eq_true h1.2)

/-- An array literal of one-cell elements. -/
theorem loc_buildA {t e : TypeId} {len : Nat} (pl : List (Nat × Nat)) (hu : P.underlying t = some (.array len e)) (hpl : arrPl pl = true) [hv : TyV P e false 1] {bytes : Nat} {zc : Array Value} [hz : TyZ P t bytes (.agg zc)] {ps : List (Nat × Operand)} {out : List D} (hf : Fills g pl ps (zeroDs (.agg zc)) out) :
    LocP P ⟨dst, .build t ps.toArray, ty, pos, after, gd⟩ g N M (dAgg out) :=
  locP_of_run fun I a w hs hi => by
    have hzr := zeroDs_rel I (.agg zc) (by simp)
    obtain ⟨ar', h1, h2⟩ := hf.run hs hzr
    refine ⟨.agg ar', ?_, _, rfl, h2⟩
    have h3 := hz.eq
    cases hui : P.info? t with
    | none => simp [hui] at h3
    | some i =>
      simp only [hui, Option.map_some, Option.some.injEq, Prod.mk.injEq] at h3
      have hs' := hv.size_eq
      cases hue : P.info? e with
      | none => simp [hue] at hs'
      | some ie =>
        simp only [hue, Option.map_some, Option.some.injEq] at hs'
        have hb : P.built t (ps.toArray.map fun (p : Nat × Operand) => (p.1, a.eval p.2)).toList = some ar' := by
          unfold Program.built
          simp only [hui, hu, h3.2, hue]
          refine fill_congr (q := (pl.toArray[·]?)) (fun j s hj => ?_) (by simpa using h1)
          have := arrPl_get hpl (by simpa using hj)
          rw [this, hs', Nat.mul_one]
        simp only [execOp, Sem.run_bind, run_build w t _ _ hb, Result.andThen_ok]
        rfl

/-- The place of an array's element. -/
theorem loc_indexArr {t e : TypeId} {len : Nat} (hu : P.underlying t = some (.array len e)) [hv : TyV P e false 1] {x y : Operand} {ds : List D} {kd : IntKind} {i : Int} (hx : opd g x = some (dBox ds)) (hy : opd g y = some (dInt kd i)) (hi : 0 ≤ i ∧ i < len) :
    LocP P ⟨dst, .indexAddr t x y, ty, pos, after, gd⟩ g N M (dBox (ds.drop i.toNat)) :=
  locP_of_run fun I a w hs hinv => by
    obtain ⟨p, hp, hat⟩ := opd_sound hs hx
    have hyv : a.eval y = .int kd i := opd_sound hs hy
    refine ⟨.pointer (some (p.add i.toNat)), ?_, _, rfl, at_drop _ hat⟩
    simp [execOp, Instr.indexAt, hp, hyv, asIntOf, run_underlying hu, Instr.sureAddr, hi, run_sizeOf hv]

end Go.Q

namespace Go.Q

variable {P : Program} {f : FuncId} {N : Nat} {I0 : Imm} {R : Goal} {g : G} {M : List Res} {k : List Item}
variable {dst : Option Tmp} {ty : TypeId} {pos : String} {after : Array Edge} {gd : Option (Nat × Bool)}

/-- A block of the call's own, element by element; each element n cells. -/
def rBuf (b T n : Nat) (els : List (List D)) : Res :=
  ⟨some b, fun I o => ∃ cs, o = some (.cells cs T (0, 0)) ∧ (∀ e ∈ els, e.length = n) ∧ relL els.flatten I cs.toList, fun h ⟨cs, e, h1, r⟩ => ⟨cs, e, h1, relL_mono h r⟩⟩

/-- A part of it, from the element k on. -/
def sl (b n k len cap : Nat) : Value := .slice (some ⟨b, k * n, none⟩) len cap

/-- Elements of which nothing is known. -/
def junk (n m : Nat) : List (List D) := List.replicate m (List.replicate n dTop)

theorem flatten_len {n : Nat} : ∀ {els : List (List D)}, (∀ e ∈ els, e.length = n) → els.flatten.length = els.length * n
  | [], _ => by simp
  | e :: els, h => by
    simp only [List.flatten_cons, List.length_append, List.length_cons, Nat.add_mul, Nat.one_mul]
    rw [flatten_len (fun x hx => h x (List.mem_cons_of_mem _ hx)), h e (List.mem_cons_self ..)]
    omega

theorem flatten_take {n : Nat} : ∀ {els : List (List D)} (i : Nat), (∀ e ∈ els, e.length = n) → (els.take i).flatten = els.flatten.take (i * n)
  | [], i, _ => by simp
  | e :: els, 0, _ => by simp
  | e :: els, i + 1, h => by
    have he := h e (List.mem_cons_self ..)
    rw [List.take_succ_cons, List.flatten_cons, flatten_take i (fun x hx => h x (List.mem_cons_of_mem _ hx)), List.flatten_cons, List.take_append]
    rw [List.take_of_length_le (l := e) (by rw [he, Nat.add_mul]; omega), he, Nat.add_mul, Nat.one_mul, Nat.add_sub_cancel]

theorem flatten_drop {n : Nat} : ∀ {els : List (List D)} (i : Nat), (∀ e ∈ els, e.length = n) → (els.drop i).flatten = els.flatten.drop (i * n)
  | [], i, _ => by simp
  | e :: els, 0, _ => by simp
  | e :: els, i + 1, h => by
    have he := h e (List.mem_cons_self ..)
    rw [List.drop_succ_cons, flatten_drop i (fun x hx => h x (List.mem_cons_of_mem _ hx)), List.flatten_cons, List.drop_append]
    rw [@List.drop_eq_nil_of_le _ e _ (by rw [he, Nat.add_mul]; omega), he, Nat.add_mul, Nat.one_mul, Nat.add_sub_cancel, List.nil_append]

theorem flatten_map {α : Type} {f' : α → List D} : ∀ {xs : List α}, (xs.map f').flatten = xs.flatMap f'
  | [] => rfl
  | x :: xs => by simp only [List.map_cons, List.flatten_cons, List.flatMap_cons, flatten_map]

theorem relL_top {I : Imm} : ∀ (vs : List Value), relL (List.replicate vs.length dTop) I vs
  | [] => trivial
  | _ :: vs => ⟨trivial, relL_top vs⟩

theorem junk_flat (n m : Nat) : (junk n m).flatten = List.replicate (m * n) dTop := by
  induction m with
  | zero => simp [junk]
  | succ m ih =>
    unfold junk at ih ⊢
    rw [List.replicate_succ, List.flatten_cons, ih, List.replicate_append_replicate, Nat.add_mul]
    congr 1
    omega

theorem junk_len {n m : Nat} : ∀ e ∈ junk n m, e.length = n := by
  intro e he
  rw [List.eq_of_mem_replicate he]
  simp

/-- A row that has an array, opened. -/
theorem row_open {α : Type} {b len cap : Nat} {T n : Nat} {f' : α → List D} {xs : List α} {I : Imm} {F : List Res} {w : World} (h : Inv I (rRow (.slice (some ⟨b, 0, none⟩) len cap) T n f' xs :: F) w) :
    len = xs.length ∧ xs.length ≤ cap ∧ cap ≤ maxLen ∧ xs.length ≤ lenMax ∧ (∀ x ∈ xs, (f' x).length = n) ∧ Inv I (rBuf b T n (xs.map f' ++ junk n (cap - xs.length)) :: F) w := by
  have h1 := h.own _ (List.mem_cons_self ..)
  obtain ⟨hb, o, h3, b', cap', cs, h4, h5, h6, h7, h8, h9, h10, h11⟩ := h1
  simp only [Value.slice.injEq, Option.some.injEq, Addr.mk.injEq] at h4 h5
  obtain ⟨⟨h4, _⟩, hl, hc⟩ := h4
  subst h4 h5 hc hl
  refine ⟨rfl, h7, h8, h9, h10, ?_⟩
  have hlen : ∀ e ∈ xs.map f' ++ junk n (cap - xs.length), e.length = n := by
    intro e he
    rcases List.mem_append.1 he with he | he
    · obtain ⟨x, hx, rfl⟩ := List.mem_map.1 he
      exact h10 x hx
    · exact junk_len e he
  refine ⟨h.os, h.tape, h.output, h.imm, fun r hr => ?_, h.apart⟩
  rcases List.mem_cons.1 hr with rfl | hr
  · refine ⟨hb, _, h3, cs, rfl, hlen, ?_⟩
    rw [List.flatten_append, flatten_map, junk_flat]
    rw [← List.take_append_drop (xs.length * n) cs.toList]
    refine relL_append h11 ?_
    have : (cap - xs.length) * n = (cs.toList.drop (xs.length * n)).length := by
      rw [List.length_drop, show cs.toList.length = cap * n by simp [h6], Nat.sub_mul]
    rw [this]
    exact relL_top _
  · exact h.own r (List.mem_cons_of_mem _ hr)

/-- .. and shut again. -/
theorem row_shut {α : Type} {b len cap : Nat} {T n : Nat} {f' : α → List D} {xs : List α} {els : List (List D)} {I : Imm} {F : List Res} {w : World} (h : Inv I (rBuf b T n (xs.map f' ++ els) :: F) w)
    (hl : len = xs.length) (hc : xs.length + els.length = cap) (hm : cap ≤ maxLen) (hx : xs.length ≤ lenMax) : Inv I (rRow (.slice (some ⟨b, 0, none⟩) len cap) T n f' xs :: F) w := by
  subst hl
  obtain ⟨hb, o, h3, cs, h4, h5, h6⟩ := h.own _ (List.mem_cons_self ..)
  injection h4 with h4
  subst h4
  refine ⟨h.os, h.tape, h.output, h.imm, fun r hr => ?_, h.apart⟩
  rcases List.mem_cons.1 hr with rfl | hr
  · have h7 : ∀ x ∈ xs, (f' x).length = n := fun x hx => h5 _ (List.mem_append_left _ (List.mem_map_of_mem hx))
    have h8 := relL_length h6
    rw [flatten_len h5, List.length_append, List.length_map, hc] at h8
    refine ⟨hb, _, h3, b, cap, cs, rfl, rfl, by simpa using h8.symm, by omega, hm, hx, h7, ?_⟩
    have h9 := relL_take (xs.length * n) h6
    rw [← flatten_take _ h5, List.take_left' (by simp)] at h9
    rwa [flatten_map] at h9
  · exact h.own r (List.mem_cons_of_mem _ hr)

theorem own_buf {I : Imm} {b T n : Nat} {els : List (List D)} {M : List Res} {w : World} (h : Inv I M w) (hm : rBuf b T n els ∈ M) :
    ∃ cs, w.heap[b]? = some (.cells cs T (0, 0)) ∧ (∀ e ∈ els, e.length = n) ∧ relL els.flatten I cs.toList := by
  obtain ⟨_, o, h3, cs, h4, h5, h6⟩ := h.own _ hm
  injection h4 with h4
  subst h4
  exact ⟨cs, h3, h5, h6⟩

/-- The cells of some elements of it. -/
theorem buf_cells {I : Imm} {b T n : Nat} {els : List (List D)} {w : World} {cs : Array Value} (h3 : w.heap[b]? = some (.cells cs T (0, 0))) (h5 : ∀ e ∈ els, e.length = n) (h6 : relL els.flatten I cs.toList) (kk m : Nat) (hk : m ≠ 0 → kk + m ≤ els.length) :
    ((cs.toList.drop (kk * n)).take (m * n)).length = m * n ∧ relL ((els.drop kk).take m).flatten I ((cs.toList.drop (kk * n)).take (m * n)) ∧
    ∀ j u, ((cs.toList.drop (kk * n)).take (m * n))[j]? = some u → w.cell? ((⟨b, kk * n, none⟩ : Addr).add j) = some u := by
  have hl := relL_length h6
  rw [flatten_len h5] at hl
  refine ⟨?_, ?_, fun j u hj => ?_⟩
  · rw [List.length_take, List.length_drop, ← hl]
    by_cases h0 : m = 0
    · subst h0; simp
    · have := Nat.mul_le_mul_right n (hk h0)
      rw [Nat.add_mul] at this
      omega
  · rw [flatten_take _ (fun e he => h5 e (List.mem_of_mem_drop he)), flatten_drop _ h5]
    exact relL_take _ (relL_drop _ h6)
  · rw [List.getElem?_take] at hj
    split at hj
    · rw [List.getElem?_drop, Array.getElem?_toList] at hj
      rw [Addr.add_lit]
      simp [World.cell?, h3, hj]
    · cases hj

def put (els : List (List D)) (kk : Nat) (new : List (List D)) : List (List D) := els.take kk ++ new ++ els.drop (kk + new.length)

/-- Known cells written over some elements. -/
theorem buf_write {I : Imm} {b T n : Nat} {els new : List (List D)} {F : List Res} {w : World} (h : Inv I (rBuf b T n els :: F) w) {cs : Array Value} (h3 : w.heap[b]? = some (.cells cs T (0, 0)))
    {vs : List Value} (hn : ∀ e ∈ new, e.length = n) (hv : relL new.flatten I vs) (kk : Nat) (hk : kk + new.length ≤ els.length) :
    kk * n + vs.length ≤ cs.size ∧ Inv I (rBuf b T n (put els kk new) :: F) (w.setRow b (cs.toList.take (kk * n) ++ vs ++ cs.toList.drop (kk * n + vs.length)).toArray) := by
  obtain ⟨cs', h3', h5, h6⟩ := own_buf h (List.mem_cons_self ..)
  rw [h3] at h3'
  injection h3' with h3'
  injection h3' with h3'
  subst h3'
  have hl := relL_length h6
  rw [flatten_len h5] at hl
  have hvl := relL_length hv
  rw [flatten_len hn] at hvl
  have hle := Nat.mul_le_mul_right n hk
  rw [Nat.add_mul] at hle
  refine ⟨by rw [← hvl]; simp at hl; omega, ?_⟩
  refine h.write (b := b) rfl rfl rfl rfl rfl (fun c hc _ => setRow_other w b c _ hc) (setRow_heap w b cs _ T _ h3) ⟨_, rfl, fun e he => ?_, ?_⟩
  · unfold put at he
    rcases List.mem_append.1 he with he | he
    · rcases List.mem_append.1 he with he | he
      · exact h5 e (List.mem_of_mem_take he)
      · exact hn e he
    · exact h5 e (List.mem_of_mem_drop he)
  · unfold put
    rw [List.flatten_append, List.flatten_append, flatten_take _ h5, flatten_drop _ h5]
    refine relL_append (relL_append (relL_take _ h6) hv) ?_
    rw [← hvl, Nat.add_mul]
    exact relL_drop _ h6

/-! ### Parts -/

section
variable {x y z lo hi mx : Operand} {t e : TypeId} {agg : Bool} {n : Nat} {b kk len cap : Nat} {kd kd' kd2 : IntKind} {i j m : Int}

theorem loc_sliceOwnFrom [ht : TySl P t e] [hv : TyV P e agg n] (hx : opd g x = some (dVal (sl b n kk len cap))) (hy : opd g lo = some (dInt kd i)) (h : 0 ≤ i ∧ i ≤ len ∧ len ≤ cap) :
    LocP P ⟨dst, .slice t x (some lo) none none, ty, pos, after, gd⟩ g N M (dVal (sl b n (if cap = i.toNat then kk else kk + i.toNat) (len - i.toNat) (cap - i.toNat))) :=
  locP_of_run fun I a w hs hinv => by
    have hp : a.eval x = .slice (some ⟨b, kk * n, none⟩) len cap := opd_sound hs hx
    have hlo : a.eval lo = .int kd i := opd_sound hs hy
    have hb1 : (0 ≤ i ∧ i ≤ (len : Int)) := by omega
    refine ⟨sl b n (if cap = i.toNat then kk else kk + i.toNat) (len - i.toNat) (cap - i.toNat), ?_, rfl⟩
    by_cases hc : cap = i.toNat
    · simp [execOp, Instr.sliceAt, Instr.slice, hp, hlo, run_underlying ht.eq, Instr.sliceBounds, Instr.sliceBound, asIntOf, hb1, run_sizeOf hv, hc, sl]
    · simp [execOp, Instr.sliceAt, Instr.slice, hp, hlo, run_underlying ht.eq, Instr.sliceBounds, Instr.sliceBound, asIntOf, hb1, run_sizeOf hv, hc, sl, Addr.add_lit, Nat.add_mul]

theorem loc_sliceOwnTo [ht : TySl P t e] [hv : TyV P e agg n] (hx : opd g x = some (dVal (sl b n kk len cap))) (hy : opd g hi = some (dInt kd j)) (h : 0 ≤ j ∧ j ≤ cap) :
    LocP P ⟨dst, .slice t x none (some hi) none, ty, pos, after, gd⟩ g N M (dVal (sl b n kk j.toNat cap)) :=
  locP_of_run fun I a w hs hinv => by
    have hp : a.eval x = .slice (some ⟨b, kk * n, none⟩) len cap := opd_sound hs hx
    have hlo : a.eval hi = .int kd j := opd_sound hs hy
    have hb1 : (0 ≤ j ∧ j ≤ (cap : Int)) := by omega
    have hadd : (⟨b, kk * n, none⟩ : Addr).add 0 = ⟨b, kk * n, none⟩ := by rw [Addr.add_lit]; rfl
    refine ⟨sl b n kk j.toNat cap, ?_, rfl⟩
    simp [execOp, Instr.sliceAt, Instr.slice, hp, hlo, run_underlying ht.eq, Instr.sliceBounds, Instr.sliceBound, asIntOf, hb1, run_sizeOf hv, sl, hadd]

theorem loc_sliceOwn [ht : TySl P t e] [hv : TyV P e agg n] (hx : opd g x = some (dVal (sl b n kk len cap))) (hy : opd g lo = some (dInt kd i)) (hz : opd g hi = some (dInt kd' j)) (h : 0 ≤ i ∧ i ≤ j ∧ j ≤ cap) :
    LocP P ⟨dst, .slice t x (some lo) (some hi) none, ty, pos, after, gd⟩ g N M (dVal (sl b n (if cap = i.toNat then kk else kk + i.toNat) (j.toNat - i.toNat) (cap - i.toNat))) :=
  locP_of_run fun I a w hs hinv => by
    have hp : a.eval x = .slice (some ⟨b, kk * n, none⟩) len cap := opd_sound hs hx
    have hlo : a.eval lo = .int kd i := opd_sound hs hy
    have hhi : a.eval hi = .int kd' j := opd_sound hs hz
    have hb1 : (0 ≤ j ∧ j ≤ (cap : Int)) := by omega
    have hb2 : (0 ≤ i ∧ i ≤ max j 0) := by omega
    refine ⟨sl b n (if cap = i.toNat then kk else kk + i.toNat) (j.toNat - i.toNat) (cap - i.toNat), ?_, rfl⟩
    by_cases hc : cap = i.toNat
    · simp [execOp, Instr.sliceAt, Instr.slice, hp, hlo, hhi, run_underlying ht.eq, Instr.sliceBounds, Instr.sliceBound, asIntOf, hb1, hb2, run_sizeOf hv, eq_true hc, sl]
    · simp [execOp, Instr.sliceAt, Instr.slice, hp, hlo, hhi, run_underlying ht.eq, Instr.sliceBounds, Instr.sliceBound, asIntOf, hb1, hb2, run_sizeOf hv, hc, sl, Addr.add_lit, Nat.add_mul]

/-- Bounds that are looked at, of which the answer is not used. -/
theorem loc_sliceOwn3 [ht : TySl P t e] [hv : TyV P e agg n] (hx : opd g x = some (dVal (sl b n kk len cap))) (hy : opd g lo = some (dInt kd i)) (hz : opd g hi = some (dInt kd' j)) (hm : opd g mx = some (dInt kd2 m)) (h : 0 ≤ i ∧ i ≤ j ∧ j ≤ m ∧ m ≤ cap) :
    LocP P ⟨dst, .slice t x (some lo) (some hi) (some mx), ty, pos, after, gd⟩ g N M dTop :=
  locP_of_run fun I a w hs hinv => by
    have hp : a.eval x = .slice (some ⟨b, kk * n, none⟩) len cap := opd_sound hs hx
    have hlo : a.eval lo = .int kd i := opd_sound hs hy
    have hhi : a.eval hi = .int kd' j := opd_sound hs hz
    have hmx : a.eval mx = .int kd2 m := opd_sound hs hm
    have hb1 : (0 ≤ m ∧ m ≤ (cap : Int)) := by omega
    have hb2 : (0 ≤ j ∧ j ≤ max m 0) := by omega
    have hb3 : (0 ≤ i ∧ i ≤ max j 0) := by omega
    exact ⟨_, by simp [execOp, Instr.sliceAt, Instr.slice, hp, hlo, hhi, hmx, run_underlying ht.eq, Instr.sliceBounds, Instr.sliceBound, asIntOf, hb1, hb2, hb3, run_sizeOf hv]; rfl, trivial⟩

theorem loc_lenOwn [ht : TySl P t e] (hx : opd g x = some (dVal (sl b n kk len cap))) : LocP P ⟨dst, .call ⟨.builtin .len, #[x], #[t]⟩, ty, pos, after, gd⟩ g N M (dInt .i64 (len : Nat)) :=
  locP_of_run fun I a w hs hi => by
    have hp : a.eval x = .slice (some ⟨b, kk * n, none⟩) len cap := opd_sound hs hx
    exact ⟨.int .i64 len, by simp [execOp, resolve, invoke, builtin, Builtin.len_, hp, run_underlying ht.eq, goInt], rfl⟩

theorem loc_capOwn [ht : TySl P t e] (hx : opd g x = some (dVal (sl b n kk len cap))) : LocP P ⟨dst, .call ⟨.builtin .cap, #[x], #[t]⟩, ty, pos, after, gd⟩ g N M (dInt .i64 (cap : Nat)) :=
  locP_of_run fun I a w hs hi => by
    have hp : a.eval x = .slice (some ⟨b, kk * n, none⟩) len cap := opd_sound hs hx
    exact ⟨.int .i64 cap, by simp [execOp, resolve, invoke, builtin, Builtin.cap_, hp, run_underlying ht.eq, goInt], rfl⟩

/-! ### Elements -/

theorem loc_indexOwn [ht : TySl P t e] [hv : TyV P e agg n] (hx : opd g x = some (dVal (sl b n kk len cap))) (hy : opd g y = some (dInt kd i)) (hi : 0 ≤ i ∧ i < len) :
    LocP P ⟨dst, .indexAddr t x y, ty, pos, after, gd⟩ g N M (dVal (ptr b ((kk + i.toNat) * n))) :=
  locP_of_run fun I a w hs hinv => by
    have hp : a.eval x = .slice (some ⟨b, kk * n, none⟩) len cap := opd_sound hs hx
    have hlo : a.eval y = .int kd i := opd_sound hs hy
    refine ⟨ptr b ((kk + i.toNat) * n), ?_, rfl⟩
    simp [execOp, Instr.indexAt, hp, hlo, asIntOf, run_underlying ht.eq, hi, run_sizeOf hv, ptr, Addr.add_lit, Nat.add_mul]

theorem loc_loadBuf1 [ht : TyV P t false 1] {T : TypeId} {els : List (List D)} {d : D} {q : Nat} (hx : opd g x = some (dVal (ptr b (q * 1)))) (hm : In (rBuf b T 1 els) M) (hd : els[q]? = some [d]) :
    LocP P ⟨dst, .load t x, ty, pos, after, gd⟩ g N M d :=
  locP_of_run fun I a w hs hi => by
    have hp : a.eval x = .pointer (some ⟨b, q * 1, none⟩) := opd_sound hs hx
    obtain ⟨cs, h3, h5, h6⟩ := own_buf hi hm.mem
    have hq := (List.getElem?_eq_some_iff.1 hd).1
    obtain ⟨e1, e2, e3⟩ := buf_cells h3 h5 h6 q 1 (by omega)
    have e4 : (els.drop q).take 1 = [[d]] := by
      rw [List.drop_eq_getElem_cons hq]
      rw [List.getElem?_eq_getElem hq] at hd
      injection hd with hd
      rw [hd]; rfl
    rw [e4] at e2
    match hc : (cs.toList.drop (q * 1)).take (1 * 1), e2 with
    | [v], e2 =>
      have h8 := e3 0 v (by rw [hc]; rfl)
      rw [Addr.add_zero'] at h8
      simp only [Nat.mul_one] at h8 hp
      exact ⟨v, by simp [execOp, hp, Instr.loadAt, Instr.sureAddr, loadVar, run_isAgg ht, h8], e2.1⟩

theorem loc_loadBufN [ht : TyV P t true n] {T : TypeId} {els : List (List D)} {ds : List D} {q : Nat} (hx : opd g x = some (dVal (ptr b (q * n)))) (hm : In (rBuf b T n els) M) (hd : els[q]? = some ds) :
    LocP P ⟨dst, .load t x, ty, pos, after, gd⟩ g N M (dAgg ds) :=
  locP_of_run fun I a w hs hi => by
    have hp : a.eval x = .pointer (some ⟨b, q * n, none⟩) := opd_sound hs hx
    obtain ⟨cs, h3, h5, h6⟩ := own_buf hi hm.mem
    have hq := (List.getElem?_eq_some_iff.1 hd).1
    obtain ⟨e1, e2, e3⟩ := buf_cells h3 h5 h6 q 1 (by omega)
    have e4 : (els.drop q).take 1 = [ds] := by
      rw [List.drop_eq_getElem_cons hq]
      rw [List.getElem?_eq_getElem hq] at hd
      injection hd with hd
      rw [hd]; rfl
    rw [e4, List.flatten_singleton] at e2
    have h8 := run_loadCells_list (P := P) w _ _ e3
    rw [e1, Nat.one_mul] at h8
    rw [Nat.one_mul] at e2
    exact ⟨.agg ((cs.toList.drop (q * n)).take n).toArray, by simp [execOp, hp, Instr.loadAt, Instr.sureAddr, loadVar, run_isAgg ht, run_sizeOf ht, h8], _, rfl, by simpa using e2⟩

theorem put_one {els : List (List D)} {q : Nat} {ds : List D} (h : q < els.length) : put els q [ds] = els.set q ds := by
  unfold put
  rw [List.set_eq_take_append_cons_drop, if_pos h]
  simp

theorem loc_storeBuf1 [ht : TyV P t false 1] {T : TypeId} {els : List (List D)} {d : D} [ho : One d] {q : Nat} (hx : opd g x = some (dVal (ptr b (q * 1)))) (hy : opd g y = some d) (hq : q < els.length) :
    LocM P ⟨none, .store t x y, ty, pos, after, gd⟩ g N [rBuf b T 1 els] (fun _ : Unit => True) (fun _ => dTop) (fun _ => [rBuf b T 1 (els.set q [d])]) := by
  constructor
  intro F I a w K Q hs hi hK
  have hp : a.eval x = .pointer (some ⟨b, q * 1, none⟩) := opd_sound hs hx
  have hd := opd_sound hs hy
  have h1 := ho.one hd
  obtain ⟨cs, h3, h5, h6⟩ := own_buf hi (List.mem_cons_self ..)
  have hnew : ∀ e ∈ ([[d]] : List (List D)), e.length = 1 := by intro e he; rw [List.mem_singleton.1 he]; rfl
  obtain ⟨w1, w2⟩ := buf_write hi h3 (vs := [a.eval y]) hnew ⟨hd, trivial⟩ q (by simp; omega)
  have hst := run_storeCells_at P b (q * 1) T [a.eval y] 0 cs w h3 (by simpa using w1) (by simpa using h1.2)
  simp only [Nat.add_zero] at hst
  unfold Oper.wp
  have hrun : (execOp a.eval ⟨none, .store t x y, ty, pos, after, gd⟩).run P w = .ok .skip (w.setRow b (cs.toList.take (q * 1) ++ [a.eval y] ++ cs.toList.drop (q * 1 + [a.eval y].length)).toArray) := by
    simp only [execOp, hp, Instr.storeAt, Instr.sureAddr, storeVar, Sem.run_bind, Sem.run_pure, Result.andThen_ok, run_sizeOf ht, h1.1, List.size_toArray, List.length_singleton, ne_eq, not_true_eq_false, if_false, hst]
  rw [hrun]
  refine hK () undef _ I trivial I.le_refl trivial ?_
  rw [put_one hq] at w2
  exact w2

theorem loc_storeBufN [ht : TyV P t true n] {T : TypeId} {els : List (List D)} {ds : List D} [ho : OneAll ds] {q : Nat} (hx : opd g x = some (dVal (ptr b (q * n)))) (hy : opd g y = some (dAgg ds)) (hq : q < els.length) (hn : Nat.beq ds.length n = true) :
    LocM P ⟨none, .store t x y, ty, pos, after, gd⟩ g N [rBuf b T n els] (fun _ : Unit => True) (fun _ => dTop) (fun _ => [rBuf b T n (els.set q ds)]) := by
  constructor
  intro F I a w K Q hs hi hK
  have hp : a.eval x = .pointer (some ⟨b, q * n, none⟩) := opd_sound hs hx
  obtain ⟨us, hyv, hd⟩ := opd_sound hs hy
  obtain ⟨cs, h3, h5, h6⟩ := own_buf hi (List.mem_cons_self ..)
  have hdn := Nat.eq_of_beq_eq_true hn
  have hnew : ∀ e ∈ ([ds] : List (List D)), e.length = n := by intro e he; rw [List.mem_singleton.1 he]; exact hdn
  obtain ⟨w1, w2⟩ := buf_write hi h3 (vs := us.toList) hnew (by simpa using hd) q (by simp; omega)
  have hst := run_storeCells_at P b (q * n) T us.toList 0 cs w h3 (by simpa using w1) (ho.all hd)
  simp only [Nat.add_zero] at hst
  have hsz : us.size = n := by have := relL_length hd; simp at this; omega
  have hcc : (Value.agg us).cells = us := rfl
  unfold Oper.wp
  have hrun : (execOp a.eval ⟨none, .store t x y, ty, pos, after, gd⟩).run P w = .ok .skip (w.setRow b (cs.toList.take (q * n) ++ us.toList ++ cs.toList.drop (q * n + us.toList.length)).toArray) := by
    simp only [execOp, hp, hyv, Instr.storeAt, Instr.sureAddr, storeVar, Sem.run_bind, Sem.run_pure, Result.andThen_ok, run_sizeOf ht, hcc, hsz, ne_eq, not_true_eq_false, if_false, hst]
  rw [hrun]
  refine hK () undef _ I trivial I.le_refl trivial ?_
  rw [put_one hq] at w2
  exact w2

end

/-! ### copy, append, clear -/

theorem exec_copy {a : Act} {x y : Operand} {t t' : TypeId} {u v r : Value} {w w' : World} (hp : a.eval x = u) (hq : a.eval y = v) (hr : (Builtin.copy_ #[t, t'] ty #[u, v]).run P w = .ok r w') :
    (execOp a.eval ⟨dst, .call ⟨.builtin .copy, #[x, y], #[t, t']⟩, ty, pos, after, gd⟩).run P w = .ok (.value r) w' := by
  simp only [execOp, resolve, invoke, builtin, Sem.run_bind, Sem.run_pure, Result.andThen_ok, List.map_toArray, List.map_cons, List.map_nil, hp, hq, hr]
theorem exec_append {a : Act} {x y : Operand} {t t' : TypeId} {u v r : Value} {w w' : World} (hp : a.eval x = u) (hq : a.eval y = v) (hr : (Builtin.append_ #[t, t'] ty #[u, v]).run P w = .ok r w') :
    (execOp a.eval ⟨dst, .call ⟨.builtin .append, #[x, y], #[t, t']⟩, ty, pos, after, gd⟩).run P w = .ok (.value r) w' := by
  simp only [execOp, resolve, invoke, builtin, Sem.run_bind, Sem.run_pure, Result.andThen_ok, List.map_toArray, List.map_cons, List.map_nil, hp, hq, hr]
theorem exec_clear {a : Act} {x : Operand} {t : TypeId} {u r : Value} {w w' : World} (hp : a.eval x = u) (hr : (Builtin.clear_ #[t] ty #[u]).run P w = .ok r w') :
    (execOp a.eval ⟨dst, .call ⟨.builtin .clear, #[x], #[t]⟩, ty, pos, after, gd⟩).run P w = .ok (.value r) w' := by
  simp only [execOp, resolve, invoke, builtin, Sem.run_bind, Sem.run_pure, Result.andThen_ok, List.map_toArray, List.map_cons, List.map_nil, hp, hr]

theorem one_flat {I : Imm} : ∀ {ls : List (List D)} {vs : List Value}, (∀ e ∈ ls, OneAll e) → relL ls.flatten I vs → ∀ u ∈ vs, u.oneCell' = true
  | [], [], _, _, u, hu => by cases hu
  | [], _ :: _, _, h, _, _ => by cases h
  | e :: ls, vs, ho, hr, u, hu => by
    rw [List.flatten_cons] at hr
    have g1 := relL_take e.length hr
    have g2 := relL_drop e.length hr
    rw [List.take_left] at g1
    rw [List.drop_left] at g2
    rcases List.mem_append.1 (show u ∈ vs.take e.length ++ vs.drop e.length by rw [List.take_append_drop]; exact hu) with hu | hu
    · exact (ho e (List.mem_cons_self ..)).all g1 u hu
    · exact one_flat (fun e he => ho e (List.mem_cons_of_mem _ he)) g2 u hu

section
variable {x y : Operand} {t t' e : TypeId} {agg : Bool} {n : Nat} {b b' kk kk' len len' cap cap' : Nat} {T : TypeId} {els els' : List (List D)}

theorem run_copyTo {w : World} {cs : Array Value} {sz : Nat} (ht : P.underlying t = some (.slice e)) (hsz : ∀ w, (sizeOf e).run P w = .ok sz w) (h3 : w.heap[b]? = some (.cells cs T (0, 0)))
    {p : Addr} {ls cp o ld : Nat} {vs : List Value} (hl : vs.length = (min ls ld) * sz) (hv : ∀ j u, vs[j]? = some u → w.cell? (p.add j) = some u) (h1 : ∀ u ∈ vs, u.oneCell' = true) (hfit : o + vs.length ≤ cs.size) :
    (Builtin.copy_ #[t, t'] ty #[.slice (some ⟨b, o, none⟩) ld cap, .slice (some p) ls cp]).run P w = .ok (goInt (min ls ld : Nat)) (w.setRow b (cs.toList.take o ++ vs ++ cs.toList.drop (o + vs.length)).toArray) := by
  have hf := run_firstCells_some (P := P) w sz (min ls ld) p ls cp vs hl hv
  have hst := run_storeCells_at P b o T vs 0 cs w h3 (by simpa using hfit) h1
  simp only [Nat.add_zero] at hst
  have hf' : (Builtin.firstCells sz (Nat.min ls ld) (.slice (some p) ls cp)).run P w = .ok vs.toArray w := hf
  simp only [Builtin.copy_, Sem.run_bind, Sem.run_pure, Result.andThen_ok, List.getElem?_toArray, List.getElem?_cons_zero, List.getElem?_cons_succ, run_underlying ht, Builtin.lenOf, hsz, hf', hst]

theorem min_zero_copy {w : World} {sz : Nat} (ht : P.underlying t = some (.slice e)) (hsz : ∀ w, (sizeOf e).run P w = .ok sz w) {d s : Option Addr} {ld ls cd cp : Nat} (h0 : min ls ld = 0) :
    (Builtin.copy_ #[t, t'] ty #[.slice d ld cd, .slice s ls cp]).run P w = .ok (goInt (0 : Nat)) w := by
  have hl : ∀ a, (loadCells a 0).run P w = .ok #[] w := fun a => by simpa using run_loadCells_list (P := P) w a [] (by simp)
  have h0' : Nat.min ls ld = 0 := h0
  cases d <;> cases s <;> simp [Builtin.copy_, run_underlying ht, Builtin.lenOf, hsz, h0', Builtin.firstCells, hl, storeCells]

/-- copy within a block. -/
theorem loc_copyOwn [ht : TySl P t e] [hv : TyV P e agg n] (hx : opd g x = some (dVal (sl b n kk len cap))) (hy : opd g y = some (dVal (sl b n kk' len' cap')))
    (h1 : min len' len ≠ 0 → kk + min len' len ≤ els.length ∧ kk' + min len' len ≤ els.length) (ho : ∀ e ∈ (els.drop kk').take (min len' len), OneAll e) :
    LocM P ⟨dst, .call ⟨.builtin .copy, #[x, y], #[t, t']⟩, ty, pos, after, gd⟩ g N [rBuf b T n els] (fun _ : Unit => True) (fun _ => dInt .i64 (min len' len : Nat)) (fun _ => [rBuf b T n (put els kk ((els.drop kk').take (min len' len)))]) := by
  constructor
  intro F I a w K Q hs hi hK
  have hp : a.eval x = .slice (some ⟨b, kk * n, none⟩) len cap := opd_sound hs hx
  have hq : a.eval y = .slice (some ⟨b, kk' * n, none⟩) len' cap' := opd_sound hs hy
  obtain ⟨cs, h3, h5, h6⟩ := own_buf hi (List.mem_cons_self ..)
  unfold Oper.wp
  by_cases h0 : min len' len = 0
  · rw [exec_copy hp hq (min_zero_copy (P := P) (w := w) ht.eq (run_sizeOf hv) h0)]
    refine hK () _ _ I trivial I.le_refl (by rw [h0]; rfl) ?_
    rw [h0]
    simpa [put] using hi
  · obtain ⟨e1, e2, e3⟩ := buf_cells h3 h5 h6 kk' (min len' len) (fun h => (h1 h).2)
    have hlen : ((els.drop kk').take (min len' len)).length = min len' len := by rw [List.length_take, List.length_drop]; have := (h1 h0).2; omega
    obtain ⟨w1, w2⟩ := buf_write hi h3 (new := (els.drop kk').take (min len' len)) (fun e he => h5 e (List.mem_of_mem_drop (List.mem_of_mem_take he))) e2 kk (by rw [hlen]; exact (h1 h0).1)
    rw [exec_copy hp hq (run_copyTo (P := P) ht.eq (run_sizeOf hv) h3 e1 e3 (one_flat ho e2) w1)]
    exact hK () _ _ I trivial I.le_refl rfl w2

/-- copy from another block of the call's own. -/
theorem loc_copyOther [ht : TySl P t e] [hv : TyV P e agg n] (hx : opd g x = some (dVal (sl b n kk len cap))) (hy : opd g y = some (dVal (sl b' n kk' len' cap')))
    (h1 : min len' len ≠ 0 → kk + min len' len ≤ els.length ∧ kk' + min len' len ≤ els'.length) (ho : ∀ e ∈ (els'.drop kk').take (min len' len), OneAll e) {T' : TypeId} :
    LocM P ⟨dst, .call ⟨.builtin .copy, #[x, y], #[t, t']⟩, ty, pos, after, gd⟩ g N [rBuf b T n els, rBuf b' T' n els'] (fun _ : Unit => True) (fun _ => dInt .i64 (min len' len : Nat)) (fun _ => [rBuf b T n (put els kk ((els'.drop kk').take (min len' len))), rBuf b' T' n els']) := by
  constructor
  intro F I a w K Q hs hi hK
  have hp : a.eval x = .slice (some ⟨b, kk * n, none⟩) len cap := opd_sound hs hx
  have hq : a.eval y = .slice (some ⟨b', kk' * n, none⟩) len' cap' := opd_sound hs hy
  obtain ⟨cs, h3, h5, h6⟩ := own_buf hi (List.mem_cons_self ..)
  obtain ⟨cs', h3', h5', h6'⟩ := own_buf hi (List.mem_cons_of_mem _ (List.mem_cons_self ..))
  unfold Oper.wp
  by_cases h0 : min len' len = 0
  · rw [exec_copy hp hq (min_zero_copy (P := P) (w := w) ht.eq (run_sizeOf hv) h0)]
    refine hK () _ _ I trivial I.le_refl (by rw [h0]; rfl) ?_
    rw [h0]
    simpa [put] using hi
  · obtain ⟨e1, e2, e3⟩ := buf_cells h3' h5' h6' kk' (min len' len) (fun h => (h1 h).2)
    have hlen : ((els'.drop kk').take (min len' len)).length = min len' len := by rw [List.length_take, List.length_drop]; have := (h1 h0).2; omega
    obtain ⟨w1, w2⟩ := buf_write hi h3 (new := (els'.drop kk').take (min len' len)) (fun e he => h5' e (List.mem_of_mem_drop (List.mem_of_mem_take he))) e2 kk (by rw [hlen]; exact (h1 h0).1)
    rw [exec_copy hp hq (run_copyTo (P := P) ht.eq (run_sizeOf hv) h3 e1 e3 (one_flat ho e2) w1)]
    exact hK () _ _ I trivial I.le_refl rfl w2

/-- copy from a row that no longer changes. -/
theorem loc_copyImm [ht : TySl P t e] [hv : TyV P e agg n] {α : Type} {f' : α → List D} {ys : List α} [h1 : ∀ x, OneAll (f' x)] (hx : opd g x = some (dVal (sl b n kk len cap))) (hy : opd g y = some (dSl n f' ys))
    (h2 : min ys.length len ≠ 0 → kk + min ys.length len ≤ els.length) :
    LocM P ⟨dst, .call ⟨.builtin .copy, #[x, y], #[t, t']⟩, ty, pos, after, gd⟩ g N [rBuf b T n els] (fun _ : Unit => True) (fun _ => dInt .i64 (min ys.length len : Nat)) (fun _ => [rBuf b T n (put els kk ((ys.take (min ys.length len)).map f'))]) := by
  constructor
  intro F I a w K Q hs hi hK
  have hp : a.eval x = .slice (some ⟨b, kk * n, none⟩) len cap := opd_sound hs hx
  obtain ⟨ad, cp, hq, q1, q2, q3, q4⟩ := opd_sound hs hy
  obtain ⟨cs, h3, h5, h6⟩ := own_buf hi (List.mem_cons_self ..)
  unfold Oper.wp
  by_cases h0 : min ys.length len = 0
  · rw [exec_copy hp hq (min_zero_copy (P := P) (w := w) ht.eq (run_sizeOf hv) h0)]
    refine hK () _ _ I trivial I.le_refl (by rw [h0]; rfl) ?_
    rw [h0]
    simpa [put] using hi
  · have hel : ∀ i x, (ys.take (min ys.length len))[i]? = some x → (f' x).length = n ∧ ∃ p, ad = some p ∧ p.spot = none ∧ I.at (p.add (i * n)) (f' x) := by
      intro i x hx
      rw [List.getElem?_take] at hx
      split at hx
      · exact q4 i x hx
      · cases hx
    have hi0 : Inv I (rBuf b T n els :: F) w := hi
    obtain ⟨vs, v1, v2, v3⟩ := dSl_cells hi0 (a := ad) (xs := ys.take (min ys.length len)) 0 (by simpa using hel)
    have hlen : (ys.take (min ys.length len)).length = min ys.length len := by rw [List.length_take]; omega
    rw [hlen] at v1
    obtain ⟨x0, hx0⟩ : ∃ x0, (ys.take (min ys.length len))[0]? = some x0 := ⟨_, List.getElem?_eq_getElem (by rw [hlen]; omega)⟩
    obtain ⟨_, p, hap, _⟩ := hel 0 x0 hx0
    subst hap
    have v4 : ∀ j u, vs[j]? = some u → w.cell? (p.add j) = some u := by simpa using v3 p rfl
    obtain ⟨w1, w2⟩ := buf_write hi h3 (new := (ys.take (min ys.length len)).map f') (fun e he => by
      obtain ⟨x, hx, rfl⟩ := List.mem_map.1 he
      obtain ⟨i, hi⟩ := List.getElem?_of_mem hx
      exact (hel i x hi).1) (by rw [flatten_map]; exact v2) kk (by rw [List.length_map, hlen]; exact h2 h0)
    rw [exec_copy hp hq (run_copyTo (P := P) ht.eq (run_sizeOf hv) h3 v1 v4 (oneAll_flat h1 v2) w1)]
    exact hK () _ _ I trivial I.le_refl rfl w2

/-- append in place, from the same block. -/
theorem loc_appendOwn [ht : TySl P t e] [hv : TyV P e agg n] (hx : opd g x = some (dVal (sl b n 0 len cap))) (hy : opd g y = some (dVal (sl b n kk' len' cap')))
    (h1 : len + len' ≤ cap ∧ cap ≤ els.length) (h2 : len' ≠ 0 → kk' + len' ≤ els.length) (hT : T = e) (ho : ∀ e ∈ (els.drop kk').take len', OneAll e) :
    LocM P ⟨dst, .call ⟨.builtin .append, #[x, y], #[t, t]⟩, ty, pos, after, gd⟩ g N [rBuf b T n els] (fun _ : Unit => True) (fun _ => dVal (sl b n 0 (len + len') cap)) (fun _ => [rBuf b T n (put els len ((els.drop kk').take len'))]) := by
  subst hT
  constructor
  intro F I a w K Q hs hi hK
  have hp : a.eval x = .slice (some ⟨b, 0, none⟩) len cap := by have : a.eval x = .slice (some ⟨b, 0 * n, none⟩) len cap := opd_sound hs hx; simpa using this
  have hq : a.eval y = .slice (some ⟨b, kk' * n, none⟩) len' cap' := opd_sound hs hy
  obtain ⟨cs, h3, h5, h6⟩ := own_buf hi (List.mem_cons_self ..)
  unfold Oper.wp
  have hsz := hv.size_eq
  cases hin : P.info? T with
  | none => simp [hin] at hsz
  | some i =>
    simp only [hin, Option.map_some, Option.some.injEq] at hsz
    subst hsz
    obtain ⟨e1, e2, e3⟩ := buf_cells h3 h5 h6 kk' len' h2
    have hlen : ((els.drop kk').take len').length = len' := by
      rw [List.length_take, List.length_drop]
      by_cases h0 : len' = 0
      · omega
      · have := h2 h0; omega
    obtain ⟨w1, w2⟩ := buf_write hi h3 (new := (els.drop kk').take len') (fun e he => h5 e (List.mem_of_mem_drop (List.mem_of_mem_take he))) e2 len (by rw [hlen]; omega)
    rw [exec_append hp hq (run_append_room (P := P) w t ty T i ht.eq hin b len cap cs h3 _ len' cap' _ e1 e3 (one_flat ho e2) h1.1 w1)]
    refine hK () _ _ I trivial I.le_refl (by simp [sl, dVal]) w2

theorem size_zeroCells' (z : Array Value) (m : Nat) : (Builtin.zeroCells z m).size = m * z.size := by simp [Builtin.zeroCells]

/-- clear -/
theorem loc_clearOwn [ht : TySl P t e] {bytes : Nat} {z : Value} [hz : TyZ P e bytes z] [hv : TyV P e agg n] (hx : opd g x = some (dVal (sl b n kk len cap))) (h1 : len ≠ 0 → kk + len ≤ els.length) (hzn : z.cells.size = n) (hzo : ∀ u ∈ z.cells.toList, u.oneCell' = true) :
    LocM P ⟨dst, .call ⟨.builtin .clear, #[x], #[t]⟩, ty, pos, after, gd⟩ g N [rBuf b T n els] (fun _ : Unit => True) (fun _ => dTop) (fun _ => [rBuf b T n (if len = 0 then els else put els kk (junk n len))]) := by
  constructor
  intro F I a w K Q hs hi hK
  have hp : a.eval x = .slice (some ⟨b, kk * n, none⟩) len cap := opd_sound hs hx
  obtain ⟨cs, h3, h5, h6⟩ := own_buf hi (List.mem_cons_self ..)
  obtain ⟨i, hin, hiz, his, hib⟩ := info_of_z hz hv
  unfold Oper.wp
  by_cases h0 : len = 0
  · subst h0
    rw [exec_clear (r := .tuple #[]) (w' := w) hp (by simp [Builtin.clear_, run_underlying ht.eq])]
    exact hK () _ _ I trivial I.le_refl trivial (by simpa using hi)
  · obtain ⟨m, rfl⟩ := Nat.exists_eq_succ_of_ne_zero h0
    have hvl : (Builtin.zeroCells z.cells (m + 1)).toList.length = (m + 1) * n := by rw [Array.length_toList, size_zeroCells', hzn]
    have hjl : (junk n (m + 1)).length = m + 1 := by simp [junk]
    have hrel : relL (junk n (m + 1)).flatten I (Builtin.zeroCells z.cells (m + 1)).toList := by
      rw [junk_flat, ← hvl]
      exact relL_top _
    obtain ⟨w1, w2⟩ := buf_write hi h3 (new := junk n (m + 1)) junk_len hrel kk (by rw [hjl]; exact h1 h0)
    have hone : ∀ u ∈ (Builtin.zeroCells z.cells (m + 1)).toList, u.oneCell' = true := by
      intro u hu
      simp only [Builtin.zeroCells, Array.toList_map, Array.toList_range, List.mem_map, List.mem_range] at hu
      obtain ⟨j, hj, rfl⟩ := hu
      by_cases hzc : z.cells.size = 0
      · rw [hzc] at hj; omega
      · have hlt : j % z.cells.size < z.cells.size := Nat.mod_lt _ (by omega)
        rw [getElem!_pos z.cells _ hlt]
        exact hzo _ (by simp)
    have hst := run_storeCells_at P b (kk * n) T _ 0 cs w h3 (by simpa using w1) hone
    simp only [Nat.add_zero] at hst
    have hzv : (zeroValue e).run P w = .ok z w := by simp [zeroValue, typeInfo, hin, hiz]
    rw [exec_clear (r := .tuple #[]) (w' := w.setRow b (cs.toList.take (kk * n) ++ (Builtin.zeroCells z.cells (m + 1)).toList ++ cs.toList.drop (kk * n + (Builtin.zeroCells z.cells (m + 1)).toList.length)).toArray) hp (by
      simp only [Builtin.clear_, Sem.run_bind, Sem.run_pure, Result.andThen_ok, List.getElem?_toArray, List.getElem?_cons_zero, run_underlying ht.eq, hzv, hst])]
    rw [if_neg h0] at hK
    exact hK () _ _ I trivial I.le_refl trivial w2

end

/-! ### Growing by zeros; overlaps -/

section
variable {x y : Operand} {t t' e : TypeId} {agg : Bool} {n : Nat} {b kk len cap : Nat} {T : TypeId} {els : List (List D)}

/-- append(s[:i], make(S, m)...), where there is no room. -/
theorem loc_appendZeros [ht : TySl P t e] {bytes : Nat} {z : Value} [hz : TyZ P e bytes z] [hv : TyV P e agg n] [hi64 : TyInt P t' .i64] {m : Nat} (hx : opd g x = some (dVal (sl b n kk len cap))) (hy : opd g y = some (dInt .i64 (m : Nat)))
    (h1 : cap < len + m ∧ 0 < m ∧ 0 < n) (h2 : kk + len ≤ els.length) (hzn : z.cells.size = n) (hb : (len + m) * bytes ≤ 140737488355328) (hl : len + m ≤ lenMax) :
    LocM P ⟨dst, .call ⟨.builtin .append, #[x, y], #[t, t']⟩, ty, pos, after, gd⟩ g N [rBuf b T n els] (fun s : Nat × Nat => len + m ≤ s.2 ∧ s.2 ≤ maxLen) (fun s => dVal (sl s.1 n 0 (len + m) s.2)) (fun s => [rBuf s.1 e n ((els.drop kk).take len ++ junk n (s.2 - len)), rBuf b T n els]) := by
  constructor
  intro F I a w K Q hs hi hK
  have hp : a.eval x = .slice (some ⟨b, kk * n, none⟩) len cap := opd_sound hs hx
  have hq : a.eval y = .int .i64 m := opd_sound hs hy
  obtain ⟨cs, h3, h5, h6⟩ := own_buf hi (List.mem_cons_self ..)
  obtain ⟨i, hin, hiz, his, hib⟩ := info_of_z hz hv
  subst his hib
  obtain ⟨e1, e2, e3⟩ := buf_cells h3 h5 h6 kk len (fun _ => h2)
  have hge := grownCap_ge w (len + m) cap e
  have hcm := grownCap_le_maxLen w (len + m) cap e (by unfold lenMax at hl; simp only [maxLen]; omega)
  have hfit : Builtin.nextslicecap (len + m) cap * i.bytes ≤ 281474976710656 := growslice_fits (by omega) hb
  have hrun : (Builtin.append_ #[t, t'] ty #[.slice (some ⟨b, kk * i.size, none⟩) len cap, .int .i64 m]).run P w =
      .ok (.slice (some ⟨w.heap.size, 0, none⟩) (len + m) (grownCap w (len + m) cap e))
        (w.drew.alloc (.cells (((cs.toList.drop (kk * i.size)).take (len * i.size)).toArray ++ Builtin.zeroCells z.cells m ++ Builtin.zeroCells z.cells (grownCap w (len + m) cap e - (len + m))) e)) := by
    have hn : ¬ (len + m ≤ cap) := by omega
    have hw : IntKind.i64.wrap (m : Int) = m := by rw [IntWalk.i64_in _ (by unfold lenMax at hl; omega)]
    have h63' : ¬ (9223372036854775807 < ((len : Int) + (m : Int))) := by unfold lenMax at hl; omega
    have h48' : ¬ (281474976710656 < Builtin.nextslicecap (len + m) cap * i.bytes) := by omega
    have hmb : m * i.bytes ≤ 140737488355328 := Nat.le_trans (Nat.mul_le_mul_right _ (by omega)) hb
    have h48i : ¬ (281474976710656 < (m : Int) * (i.bytes : Int)) := by rw [← Int.natCast_mul]; omega
    have hneg : ¬ ((m : Int) < 0) := by omega
    have hns : ¬ (m * i.size = 0) := Nat.mul_ne_zero (by omega) (by omega)
    have hfo := run_firstCells_some (P := P) w.drew i.size len ⟨b, kk * i.size, none⟩ len cap _ e1 (by simpa using e3)
    simp [Builtin.append_, run_underlying ht.eq, run_underlying hi64.eq, sizeOf, typeInfo, zeroValue, hin, hiz, asInt, asIntOf, hw, hn, hneg, hns, h63', h48', h48i, Question.forced, hfo, newRow, grownCap]
  unfold Oper.wp
  rw [exec_append hp hq hrun]
  have hd : Inv I (rBuf b T i.size els :: F) w.drew := Inv.of_eq hi rfl rfl rfl rfl
  refine hK (w.heap.size, grownCap w (len + m) cap e) _ _ I ⟨by simpa using hge, hcm⟩ I.le_refl (by simp [sl, dVal]) ?_
  have hlen : ((els.drop kk).take len).length = len := by rw [List.length_take, List.length_drop]; omega
  refine hd.allocOwn _ _ rfl ⟨_, rfl, fun e he => ?_, ?_⟩
  · rcases List.mem_append.1 he with he | he
    · exact h5 e (List.mem_of_mem_drop (List.mem_of_mem_take he))
    · exact junk_len e he
  · rw [List.flatten_append, junk_flat]
    simp only [Array.toList_append, List.append_assoc]
    refine relL_append e2 ?_
    have : (grownCap w (len + m) cap e - len) * i.size = ((Builtin.zeroCells z.cells m).toList ++ (Builtin.zeroCells z.cells (grownCap w (len + m) cap e - (len + m))).toList).length := by
      rw [List.length_append, Array.length_toList, Array.length_toList, size_zeroCells', size_zeroCells', hzn, ← Nat.add_mul]
      congr 1
      omega
    rw [this]
    exact relL_top _

/-- The library's 'overlaps', which the model answers itself. -/
class TyOver (P : Program) (f : FuncId) (t : outParam TypeId) : Prop where
  is : ∃ fn tR, P.funcs[f]? = some fn ∧ (fn.name == "runtime.NumGoroutine") = false ∧ fn.body.isNone = true ∧ Extern.findNext fn = none ∧ Extern.find fn = some (Extern.SlicesOverlaps.overlaps #[t, t] #[tR])

/-- A row that no longer changes lies apart from what the call owns. -/
theorem loc_overlaps {f : FuncId} [hf : TyOver P f t] [ht : TySl P t e] [hv : TyV P e agg n] {α : Type} {f' : α → List D} {ys : List α} {ats : Array TypeId} (hx : opd g x = some (dSl n f' ys)) (hy : opd g y = some (dVal (sl b n kk len cap))) (hm : In (rBuf b T n els) M) (hl : len ≠ 0 → kk + len ≤ els.length) :
    LocP P ⟨dst, .call ⟨.value (.func f), #[x, y], ats⟩, ty, pos, after, gd⟩ g N M (dB False) :=
  locP_of_run fun I a w hs hi => by
    obtain ⟨fn, tR, e1, e2, e3, e4, e5⟩ := hf.is
    obtain ⟨ad, cp, hp, q1, q2, q3, q4⟩ := opd_sound hs hx
    have hq : a.eval y = .slice (some ⟨b, kk * n, none⟩) len cap := opd_sound hs hy
    obtain ⟨cs, h3, h5, h6⟩ := own_buf hi hm.mem
    have hown := hi.own _ hm.mem
    have hbn : I.blk b = none := hown.1
    have hans : (Extern.SlicesOverlaps.overlaps #[t, t] #[tR] #[.slice ad ys.length cp, .slice (some ⟨b, kk * n, none⟩) len cap]).run P w = .ok (.bool false) w := by
      change Sem.run P (α := Value) (do
        let some t := (#[t, t] : Array TypeId)[0]? | stuck "slices.overlaps: no parameter types"
        let .slice elem ← underlying t | stuck "slices.overlaps: slice type expected"
        let size ← sizeOf elem
        match ad, (some ⟨b, kk * n, none⟩ : Option Addr) with
        | some a, some b =>
          if ys.length = 0 ∨ len = 0 ∨ size = 0 then pure (Value.bool false)
          else if a.block != b.block && (← frozen a) && (← frozen b) then unsupported .addressObserved
          else do
            if a.block != b.block then do
              noView a; noView b
              if ← mayBeOne a b then return Value.bool ((← choose (.extern "sameAddr.stringBytes" 2)) == 1)
            pure (Value.bool (a.block == b.block && a.off < b.off + len * size && b.off < a.off + ys.length * size))
        | _, _ => pure (Value.bool false)) w = _
      cases ad with
      | none => simp [run_underlying ht.eq, run_sizeOf hv]
      | some p =>
        by_cases h0 : ys.length = 0 ∨ len = 0 ∨ n = 0
        · simp only [List.length_eq_zero_iff] at h0
          simp [run_underlying ht.eq, run_sizeOf hv]
          intro g1 g2 g3
          rcases h0 with h0 | h0 | h0 <;> contradiction
        · obtain ⟨y0, hy0⟩ : ∃ y0, ys[0]? = some y0 := ⟨_, List.getElem?_eq_getElem (by omega)⟩
          obtain ⟨g1, p', g2, g3, g4, cs', T', fz, g5, g6⟩ := q4 0 y0 hy0
          injection g2 with g2
          subst g2
          rw [Nat.zero_mul, Addr.add_zero'] at g5 g6
          have hne : p.block ≠ b := by intro e; rw [e, hbn] at g5; cases g5
          have hw := hi.imm _ _ g5
          have hnb : (p.block != b) = true := by simpa using hne
          have hl0 := relL_length g6
          have hcs' : cs'.size ≠ 0 := by
            intro hz
            have : cs'.toList = [] := by simpa using hz
            rw [this] at hl0
            simp [g1] at hl0
            omega
          have hl2 := relL_length h6
          rw [flatten_len h5] at hl2
          have hcs : cs.size ≠ 0 := by
            have := hl (by omega)
            have : 0 < els.length * n := Nat.mul_pos (by omega) (by omega)
            simp at hl2
            omega
          have hsa : w.shape? p.block = some (T', cs'.size) := by simp [World.shape?, hw]
          have hsb : w.shape? b = some (T, cs.size) := by simp [World.shape?, h3]
          have hfb : ∀ k, w.frozen? ⟨b, k, none⟩ = false := fun k => by simp [World.frozen?, h3]
          have hfr : ∀ (x : Addr), (frozen x).run P w = .ok (w.frozen? x) w := fun x => rfl
          have hsh : ∀ (x : Nat), (shape x).run P w = .ok (w.shape? x) w := fun x => rfl
          have hva : (noView p).run P w = .ok () w := by simp [noView, viewAt, hsh, hsa]
          have hvb : (noView ⟨b, kk * n, none⟩).run P w = .ok () w := by simp [noView, viewAt, hsh, hsb]
          have hsb2 : (stringish ⟨b, kk * n, none⟩).run P w = .ok false w := by simp [stringish, hfr, hfb, hsh, hsb]
          have hsa2 : ∃ s, (stringish p).run P w = .ok s w := by
            simp only [stringish, Sem.run_bind, hfr, Result.andThen_ok]
            cases w.frozen? p with
            | true => exact ⟨true, by simp⟩
            | false => exact ⟨w.frozen? { block := p.block, off := cs'.size }, by simp [hsh, hsa, hfr]⟩
          obtain ⟨s, hs2⟩ := hsa2
          have hcs2 : ∃ m, cs.size = m + 1 := Nat.exists_eq_succ_of_ne_zero hcs
          have hmb : (mayBeOne p ⟨b, kk * n, none⟩).run P w = .ok false w := by
            obtain ⟨m, hm2⟩ := hcs2
            obtain ⟨m', hm3⟩ := Nat.exists_eq_succ_of_ne_zero hcs'
            cases s <;> simp [mayBeOne, hs2, hsb2, hsh, hsa, hsb, hm2, hm3]
          simp [run_underlying ht.eq, run_sizeOf hv, h0, hnb, hfr, hfb, hva, hvb, hmb, hne]
    refine ⟨.bool false, ?_, false, rfl, by simp⟩
    have h1 := run_callFunc_extern (P := P) e1 e2 e3 e4 e5 #[.slice ad ys.length cp, .slice (some ⟨b, kk * n, none⟩) len cap] w
    have h2 := execOp_call_slot (dst := dst) (ty := ty) (pos := pos) (after := after) (gd := gd) (a := a) (c := .func f) (f := f) (xs := [x, y]) (cap := #[]) rfl ats
    rw [show (#[x, y] : Array Operand) = [x, y].toArray from rfl, h2]
    simp only [List.map_cons, List.map_nil, hp, hq, Array.append_empty]
    rw [h1, hans]
    rfl

end

end Go.Q
