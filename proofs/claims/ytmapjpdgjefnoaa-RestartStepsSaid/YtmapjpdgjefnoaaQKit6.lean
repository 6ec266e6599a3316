/- Tables as results; many rows let become immutable at once; decks: what is proved here holds of every program. -/
import Derived.Test.YtmapjpdgjefnoaaQKit5
set_option linter.unusedVariables false
set_option linter.unusedSimpArgs false
namespace Go.Q

variable {P : Program} {f : FuncId} {N : Nat} {I0 : Imm} {R : Ending → World → Prop} {g : G} {M : List Res} {k : List Item}

theorem d_agg4 {a b c d a' b' c' d' : D} (h1 : ∀ I v, a.rel I v → a'.rel I v) (h2 : ∀ I v, b.rel I v → b'.rel I v) (h3 : ∀ I v, c.rel I v → c'.rel I v) (h4 : ∀ I v, d.rel I v → d'.rel I v) :
    ∀ I v, (dAgg [a, b, c, d]).rel I v → (dAgg [a', b', c', d']).rel I v := by
  rintro I v ⟨cs, e, h⟩
  refine ⟨cs, e, ?_⟩
  match hc : cs.toList, h with
  | [w, x, y, z], h => exact ⟨h1 _ _ h.1, h2 _ _ h.2.1, h3 _ _ h.2.2.1, h4 _ _ h.2.2.2.1, trivial⟩

theorem relL_same {J : Imm} {kk : Nat} {ds : List D} {cs : List Value} {d d' : D} (h6 : relL ds J cs) (hk : ds[kk]? = some d) (hup : ∀ u, d.rel J u → d'.rel J u) : relL (ds.set kk d') J cs := by
  obtain ⟨u, hu, hdu⟩ := relL_get h6 kk d hk
  have h7 := relL_set (d := d') (hup u hdu) kk h6
  have h8 : cs.set kk u = cs := by
    apply List.ext_getElem?
    intro i
    rw [List.getElem?_set]
    split
    · rename_i e; subst e
      split
      · exact hu.symm
      · rename_i e; rw [List.getElem?_eq_none (by omega)]
    · rfl
  rwa [h8] at h7

/-- A row whose handle lies somewhere in a cell of the call's own becomes immutable. -/
theorem run_freezeUp {b kk : Nat} {T' : TypeId} {ds : List D} {C C' : Res → List Res} {F F' : List Res} {α : Type} {T n : Nat} {f' : α → List D} {xs : List α} {v : Value} (d d' : D) (hm : Sel (rRow v T n f' xs) M C F) (hc : Sel (rCells b T' ds) F C' F') (hk : ds[kk]? = some d)
    (hup : ∀ J u, d.rel J u → (dSl n f' xs).rel J v → d'.rel J u)
    (h : Run P f N I0 R g (C' (rCells b T' (ds.set kk d'))) k) : Run P f N I0 R g M k := by
  refine run_turn (fun I a w hsl hi => ?_) h
  obtain ⟨J, hle, hd, hi'⟩ := row_freeze (hi.perm hm.perm.1)
  refine ⟨J, hle, hsl.mono hle, ?_⟩
  have h2 := hi'.perm hc.perm.1
  refine Inv.perm ?_ (hc.perm.2 _)
  refine ⟨h2.os, h2.tape, h2.output, h2.imm, fun r hr => ?_, h2.apart⟩
  rcases List.mem_cons.1 hr with rfl | hr
  · obtain ⟨h3, o, h4, cs, h5, h6⟩ := h2.own _ (List.mem_cons_self ..)
    exact ⟨h3, o, h4, cs, h5, relL_same h6 hk (fun u hu => hup J u hu hd)⟩
  · exact h2.own r (List.mem_cons_of_mem _ hr)

/-- What is known of a cell, told otherwise. -/
theorem run_cellsUp {b kk : Nat} {T' : TypeId} {ds : List D} {C' : Res → List Res} {F' : List Res} (d d' : D) (hc : Sel (rCells b T' ds) M C' F') (hk : ds[kk]? = some d) (hup : ∀ J u, d.rel J u → d'.rel J u)
    (h : Run P f N I0 R g (C' (rCells b T' (ds.set kk d'))) k) : Run P f N I0 R g M k := by
  refine run_turn (fun I a w hsl hi => ?_) h
  refine ⟨I, I.le_refl, hsl, ?_⟩
  have h2 := hi.perm hc.perm.1
  refine Inv.perm ?_ (hc.perm.2 _)
  refine ⟨h2.os, h2.tape, h2.output, h2.imm, fun r hr => ?_, h2.apart⟩
  rcases List.mem_cons.1 hr with rfl | hr
  · obtain ⟨h3, o, h4, cs, h5, h6⟩ := h2.own _ (List.mem_cons_self ..)
    exact ⟨h3, o, h4, cs, h5, relL_same h6 hk (fun u hu => hup I u hu)⟩
  · exact h2.own r (List.mem_cons_of_mem _ hr)

/-- A handle, told by name. -/
def dSlV (v : Value) : D := ⟨fun _ u => u = v ∧ ∃ a n c, u = .slice a n c, fun _ h => h⟩
instance (v : Value) : One (dSlV v) := ⟨fun ⟨_, _, _, _, h⟩ => by rw [h]; exact ⟨rfl, rfl⟩⟩

theorem runL_rowV {ops : Array Oper} {l : List Oper} {s : Nat} {C : Res → List Res} {F : List Res} {α : Type} {T n : Nat} {f' : α → List D} {xs : List α} {v : Value} (hs : look g s = some (dVal v)) (hm : Sel (rRow v T n f' xs) M C F)
    (h : RunL P f N I0 R ((s, dSlV v) :: g) M ops l k) : RunL P f N I0 R g M ops l k := by
  constructor
  intro I a w b cs hb hk hl hsl hi
  refine h.go I a w b cs hb hk hl (slots_cast hsl I.le_refl hs (fun u hu => ⟨hu, ?_⟩)) hi
  rw [show u = v from hu]
  rcases row_cases (hi.perm hm.perm.1) with ⟨e, _⟩ | ⟨b, cap, cs, e, _⟩
  · exact ⟨_, _, _, e⟩
  · exact ⟨_, _, _, e⟩

theorem row_slice {α : Type} {v : Value} {T n : Nat} {f' : α → List D} {xs : List α} {I : Imm} {F : List Res} {w : World} (h : Inv I (rRow v T n f' xs :: F) w) : ∃ a n c, v = .slice a n c := by
  rcases row_cases h with ⟨e, _⟩ | ⟨b, cap, cs, e, _⟩
  · exact ⟨_, _, _, e⟩
  · exact ⟨_, _, _, e⟩

theorem loc_append1V {t e : TypeId} {bytes : Nat} {z : Value} {agg : Bool} {n : Nat} {α : Type} {f' : α → List D} {xs : List α} {v : Value} {x y : Operand} {dst : Option Tmp} {ty : TypeId} {pos : String} {after : Array Edge} {gd : Option (Nat × Bool)} {ds : List D} (e0 : α) [ht : TySl P t e] [hz : TyZ P e bytes z] [hv : TyV P e agg n] [h1 : ∀ x, OneAll (f' x)] (hx : opd g x = some (dSlV v)) (hy : opd g y = some (dSl n (fun l : List D => l) [ds])) (he : f' e0 = ds) (hzn : z.cells.size = n)
    (hb : (xs.length + 1) * bytes ≤ 140737488355328) (hl : xs.length + 1 ≤ lenMax) :
    LocM P ⟨dst, .call ⟨.builtin .append, #[x, y], #[t, t]⟩, ty, pos, after, gd⟩ g N [rRow v e n f' xs] (fun _ : Value => True) (fun v' => dSlV v') (fun v' => [rRow v' e n f' (xs ++ [e0])]) := by
  constructor
  intro F I a w K Q hs hi hK
  subst he
  have hxv : a.eval x = v := (opd_sound hs hx).1
  obtain ⟨ad, cap, hyv, hcap, _, _, hel⟩ := dSl_lit (opd_sound hs hy)
  have hnil : ad = none → [e0] = [] := by
    intro h
    obtain ⟨_, p, hp, _⟩ := hel 0 e0 rfl; rw [h] at hp; cases hp
  obtain ⟨v', w', hr, hi'⟩ := row_append (P := P) (t := t) (ht := ht) (hz := hz) (hv := hv) rfl hzn hi rfl hcap hel hnil (by simpa using hb) (by simpa using hl) ty
  unfold Oper.wp
  have hrun : (execOp a.eval ⟨dst, .call ⟨.builtin .append, #[x, y], #[t, t]⟩, ty, pos, after, gd⟩).run P w = .ok (.value v') w' := by
    simp only [execOp, resolve, invoke, builtin, Sem.run_bind, Sem.run_pure, Result.andThen_ok, List.map_toArray, List.map_cons, List.map_nil, hxv, hyv]
    simp only [List.length_cons, List.length_nil] at hr ⊢
    rw [hr]
    rfl
  rw [hrun]
  exact hK v' v' w' I trivial I.le_refl ⟨rfl, row_slice hi'⟩ hi'

/-! ### Many rows become immutable -/

def rOf {α : Type} (T n : Nat) (f' : α → List D) (p : Value × List α) : Res := rRow p.1 T n f' p.2

theorem rows_freeze {α : Type} {T n : Nat} {f' : α → List D} : ∀ (l : List (Value × List α)) {I : Imm} {F : List Res} {w : World}, Inv I (l.map (rOf T n f') ++ F) w →
    ∃ J, I.le J ∧ (∀ p ∈ l, (dSl n f' p.2).rel J p.1) ∧ Inv J F w
  | [], I, F, w, h => ⟨I, I.le_refl, fun p hp => (by cases hp), h⟩
  | p :: l, I, F, w, h => by
    obtain ⟨J, h1, h2, h3⟩ := row_freeze (show Inv I (rRow p.1 T n f' p.2 :: (l.map (rOf T n f') ++ F)) w from h)
    obtain ⟨K, h4, h5, h6⟩ := rows_freeze l h3
    refine ⟨K, h1.trans h4, fun q hq => ?_, h6⟩
    rcases List.mem_cons.1 hq with rfl | hq
    · exact (dSl n f' q.2).mono h4 h2
    · exact h5 q hq

/-- Elements of an immutable row, told more closely. -/
theorem sl_up {α β : Type} {n : Nat} {f : α → List D} {h : β → List D} {I : Imm} {v : Value} {xs : List α} {ys : List β} (hl : xs.length = ys.length)
    (hup : ∀ (i : Nat) (x : α) (y : β), xs[i]? = some x → ys[i]? = some y → (f x).length = (h y).length ∧ ∀ cs, relL (f x) I cs → relL (h y) I cs) (hr : (dSl n f xs).rel I v) : (dSl n h ys).rel I v := by
  obtain ⟨a, cap, h1, h2, h3, h4, h5⟩ := hr
  rw [hl] at h1 h2 h4
  refine ⟨a, cap, h1, h2, h3, h4, fun i y hy => ?_⟩
  have hi : i < ys.length := (List.getElem?_eq_some_iff.1 hy).1
  have hx : xs[i]? = some (xs[i]'(by omega)) := by simp [hl, hi]
  obtain ⟨e1, e2⟩ := hup i _ y hx hy
  obtain ⟨h6, p, h7, h8, h9, cs, T, fz, h10, h11⟩ := h5 i _ hx
  exact ⟨by omega, p, h7, h8, h9, cs, T, fz, h10, by rw [← e1]; exact e2 _ h11⟩

/-- A row of rows that the call owns, with all of its rows, becomes immutable. -/
theorem spec_freezeRows {f : FuncId} {Ds : List D} {T T' : Nat} {xs : List (List Int)}
    (h : Spec P f Ds [] (fun s : Value × List (Value × List Int) => s.2.map (·.2) = xs) (fun s => dVal s.1) (fun s => rRow s.1 T 1 (fun u => [dSlV u]) (s.2.map (·.1)) :: s.2.map (rOf T' 1 (fun x => [dInt .i64 x])))) : SpecP P f Ds (dRows xs) := by
  intro I M w vs hv hi
  refine (h I M w vs hv hi).mono ?_
  rintro e w' ⟨v, rfl, s, hs, J, h1, h2, h3⟩
  obtain ⟨J', h4, h5, h6⟩ := row_freeze h3
  obtain ⟨K, h7, h8, h9⟩ := rows_freeze s.2 h6
  have hvs : v = s.1 := h2
  subst hvs
  refine ⟨s.1, rfl, K, (h1.trans h4).trans h7, ?_, h9⟩
  refine sl_up (by rw [← hs]; simp) (fun i x y hx hy => ⟨rfl, fun cs hr => ?_⟩) (D.mono _ h7 h5)
  rw [← hs] at hy
  rw [List.getElem?_map] at hx hy
  match hp : s.2[i]?, cs, hr with
  | some p, [u], hr =>
    rw [hp] at hx hy
    simp only [Option.map_some, Option.some.injEq] at hx hy
    subst hx; subst hy
    have := h8 p (List.mem_of_getElem? hp)
    rw [← show u = p.1 from hr.1.1] at this
    exact ⟨this, trivial⟩
  | none, _, _ => rw [hp] at hx; cases hx

/-- The same, but one of its rows stays the call's own. -/
theorem spec_freezeBut {f : FuncId} {Ds : List D} {T T' : Nat} {xs : List (List Int)} (k : Nat) (hk : k < xs.length)
    (h : Spec P f Ds [] (fun s : Value × List (Value × List Int) => s.2.map (·.2) = xs) (fun s => dVal s.1) (fun s => rRow s.1 T 1 (fun u => [dSlV u]) (s.2.map (·.1)) :: s.2.map (rOf T' 1 (fun x => [dInt .i64 x])))) :
    Spec P f Ds [] (fun _ : Value => True) (fun v => dSl 1 (fun d : D => [d]) ((xs.map (fun x => dInts x)).set k (dVal v))) (fun v => [rRow v T' 1 (fun x => [dInt .i64 x]) (xs[k]?.getD default)]) := by
  intro I M w vs hv hi
  refine (h I M w vs hv hi).mono ?_
  rintro e w' ⟨v, rfl, s, hs, J, h1, h2, h3⟩
  obtain ⟨J', h4, h5, h6⟩ := row_freeze h3
  have hlen : s.2.length = xs.length := by rw [← hs]; simp
  have hpk : s.2[k]? = some (s.2[k]'(by omega)) := by simp [hlen, hk]
  generalize s.2[k]'(by omega) = pk at hpk
  have hxk : xs[k]?.getD default = pk.2 := by rw [← hs, List.getElem?_map, hpk]; rfl
  have hsp : s.2 = s.2.take k ++ pk :: s.2.drop (k + 1) := by
    conv => lhs; rw [← List.take_append_drop k s.2]
    congr 1
    rw [List.drop_eq_getElem_cons (by omega)]
    congr 1
    rw [List.getElem?_eq_getElem (by omega)] at hpk
    injection hpk
  have h6' : Inv J' ((s.2.take k ++ s.2.drop (k + 1)).map (rOf T' 1 (fun x => [dInt .i64 x])) ++ (rOf T' 1 (fun x => [dInt .i64 x]) pk :: M)) w' := by
    refine h6.perm ?_
    conv => lhs; rw [hsp]
    simp only [List.append_eq, List.map_append, List.map_cons, List.append_assoc, List.cons_append]
    refine List.Perm.append_left _ ?_
    exact (List.perm_middle).symm
  obtain ⟨K, h7, h8, h9⟩ := rows_freeze _ h6'
  have hvs : v = s.1 := h2
  subst hvs
  refine ⟨s.1, rfl, pk.1, trivial, K, (h1.trans h4).trans h7, ?_, ?_⟩
  · refine sl_up (by simp [hlen]) (fun i x y hx hy => ⟨rfl, fun cs hr => ?_⟩) (D.mono _ h7 h5)
    rw [List.getElem?_map] at hx
    match hp : s.2[i]?, cs, hr with
    | some p, [u], hr =>
      rw [hp] at hx
      simp only [Option.map_some, Option.some.injEq] at hx
      subst hx
      have hu : u = p.1 := hr.1.1
      rw [List.getElem?_set] at hy
      by_cases e : k = i
      · subst e
        rw [if_pos rfl, if_pos (by simp; omega)] at hy
        injection hy with hy
        subst hy
        rw [hpk] at hp
        injection hp with hp
        exact ⟨by rw [hp]; exact hu, trivial⟩
      · rw [if_neg e, List.getElem?_map, ← hs, List.getElem?_map, hp] at hy
        simp only [Option.map_some, Option.some.injEq] at hy
        subst hy
        have hm : p ∈ s.2.take k ++ s.2.drop (k + 1) := by
          by_cases e2 : i < k
          · exact List.mem_append_left _ (List.mem_of_getElem? (i := i) (by rw [List.getElem?_take, if_pos e2]; exact hp))
          · exact List.mem_append_right _ (List.mem_of_getElem? (i := i - (k + 1)) (by rw [List.getElem?_drop, show k + 1 + (i - (k + 1)) = i by omega]; exact hp))
        have := h8 p hm
        rw [← hu] at this
        exact ⟨this, trivial⟩
    | none, _, _ => rw [hp] at hx; cases hx
  · rw [hxk]; exact h9

end Go.Q
