/- The rules of operations on rows, new slices and structs, closures: what is proved here holds of every program. -/
import Derived.Test.YtmapjpdgjefnoaaQDraw
set_option linter.unusedVariables false
set_option linter.unusedSimpArgs false
namespace Go.Q

variable {P : Program} {f : FuncId} {N : Nat} {I0 : Imm} {R : Ending → World → Prop} {g : G} {M : List Res} {k : List Item}
variable {dst : Option Tmp} {ty : TypeId} {pos : String} {after : Array Edge} {gd : Option (Nat × Bool)}

/-! ### Rows -/

theorem nil_ok {α : Type} {T n : Nat} {f : α → List D} {I : Imm} {M : List Res} {w : World} (h : Inv I M w) : Inv I (rRow (.slice none 0 0) T n f ([] : List α) :: M) w :=
  ⟨h.os, h.tape, h.output, h.imm, fun r hr => by
    rcases List.mem_cons.1 hr with rfl | hr
    · exact ⟨rfl, rfl⟩
    · exact h.own r hr, h.apart⟩

/-- The nil slice as a row of the call's own. -/
theorem run_rowNil {α : Type} (T n : Nat) (f' : α → List D) (h : Run P f N I0 R g (rRow (.slice none 0 0) T n f' ([] : List α) :: M) k) : Run P f N I0 R g M k :=
  run_weaken (fun _ _ _ hs hi => ⟨hs, nil_ok hi⟩) h
theorem runL_rowNil {α : Type} (T n : Nat) (f' : α → List D) {ops : Array Oper} {l : List Oper} (h : RunL P f N I0 R g (rRow (.slice none 0 0) T n f' ([] : List α) :: M) ops l k) : RunL P f N I0 R g M ops l k :=
  ⟨fun I a w b cs hb hk hl hs hi => h.go I a w b cs hb hk hl hs (nil_ok hi)⟩

section
variable {t T e : TypeId} {bytes : Nat} {z : Value} {agg : Bool} {n : Nat} {α : Type} {f' : α → List D} {xs ys : List α} {v : Value} {x y : Operand}

theorem loc_append [ht : TySl P t e] [hz : TyZ P e bytes z] [hv : TyV P e agg n] [h1 : ∀ x, OneAll (f' x)] (hx : opd g x = some (dVal v)) (hy : opd g y = some (dSl n f' ys)) (hzn : z.cells.size = n)
    (hb : (xs.length + ys.length) * bytes ≤ 140737488355328) (hl : xs.length + ys.length ≤ lenMax) :
    LocM P ⟨dst, .call ⟨.builtin .append, #[x, y], #[t, t]⟩, ty, pos, after, gd⟩ g N [rRow v e n f' xs] (fun _ : Value => True) (fun v' => dVal v') (fun v' => [rRow v' e n f' (xs ++ ys)]) := by
  constructor
  intro F I a w K Q hs hi hK
  have hxv : a.eval x = v := opd_sound hs hx
  obtain ⟨ad, cap, hyv, hcap, _, _, hel⟩ := opd_sound hs hy
  have hnil : ad = none → ys = [] := by
    intro h
    cases ys with
    | nil => rfl
    | cons y0 ys => obtain ⟨_, p, hp, _⟩ := hel 0 y0 rfl; rw [h] at hp; cases hp
  obtain ⟨v', w', hr, hi'⟩ := row_append (P := P) (t := t) (ht := ht) (hz := hz) (hv := hv) rfl hzn hi rfl hcap hel hnil hb hl ty
  unfold Oper.wp
  have hrun : (execOp a.eval ⟨dst, .call ⟨.builtin .append, #[x, y], #[t, t]⟩, ty, pos, after, gd⟩).run P w = .ok (.value v') w' := by
    simp only [execOp, resolve, invoke, builtin, Sem.run_bind, Sem.run_pure, Result.andThen_ok, List.map_toArray, List.map_cons, List.map_nil, hxv, hyv, hr]
  rw [hrun]
  exact hK v' v' w' I trivial I.le_refl rfl hi'

theorem dSl_lit {I : Imm} {u : Value} {e0 : α} (h : (dSl n (fun l : List D => l) [f' e0]).rel I u) : (dSl n f' [e0]).rel I u := by
  obtain ⟨a, cap, h1, h2, h3, h4, h5⟩ := h
  refine ⟨a, cap, h1, h2, h3, h4, fun i x hx => ?_⟩
  cases i with
  | zero => simp at hx; subst hx; exact h5 0 _ rfl
  | succ i => simp at hx

theorem loc_append1 {ds : List D} (e0 : α) [ht : TySl P t e] [hz : TyZ P e bytes z] [hv : TyV P e agg n] [h1 : ∀ x, OneAll (f' x)] (hx : opd g x = some (dVal v)) (hy : opd g y = some (dSl n (fun l : List D => l) [ds])) (he : f' e0 = ds) (hzn : z.cells.size = n)
    (hb : (xs.length + 1) * bytes ≤ 140737488355328) (hl : xs.length + 1 ≤ lenMax) :
    LocM P ⟨dst, .call ⟨.builtin .append, #[x, y], #[t, t]⟩, ty, pos, after, gd⟩ g N [rRow v e n f' xs] (fun _ : Value => True) (fun v' => dVal v') (fun v' => [rRow v' e n f' (xs ++ [e0])]) := by
  constructor
  intro F I a w K Q hs hi hK
  subst he
  have hxv : a.eval x = v := opd_sound hs hx
  obtain ⟨ad, cap, hyv, hcap, _, _, hel⟩ := dSl_lit (opd_sound hs hy)
  have hnil : ad = none → [e0] = [] := by
    intro h
    obtain ⟨_, p, hp, _⟩ := hel 0 e0 rfl; rw [h] at hp; cases hp
  obtain ⟨v', w', hr, hi'⟩ := row_append (P := P) (t := t) (ht := ht) (hz := hz) (hv := hv) rfl hzn hi rfl hcap hel hnil (by simpa using hb) (by simpa using hl) ty
  unfold Oper.wp
  have hrun : (execOp a.eval ⟨dst, .call ⟨.builtin .append, #[x, y], #[t, t]⟩, ty, pos, after, gd⟩).run P w = .ok (.value v') w' := by
    simp only [execOp, resolve, invoke, builtin, Sem.run_bind, Sem.run_pure, Result.andThen_ok, List.map_toArray, List.map_cons, List.map_nil, hxv, hyv]
    simp only [List.length_cons, List.length_nil] at hr ⊢
    rw [hr]
    rfl
  rw [hrun]
  exact hK v' v' w' I trivial I.le_refl rfl hi'

/-- append onto nil: a new row. -/
theorem loc_appendNil [ht : TySl P t e] [hz : TyZ P e bytes z] [hv : TyV P e agg n] [h1 : ∀ x, OneAll (f' x)] (hx : opd g x = some (dVal (.slice none 0 0))) (hy : opd g y = some (dSl n f' ys)) (hzn : z.cells.size = n)
    (hb : ys.length * bytes ≤ 140737488355328) (hl : ys.length ≤ lenMax) :
    LocM P ⟨dst, .call ⟨.builtin .append, #[x, y], #[t, t]⟩, ty, pos, after, gd⟩ g N [] (fun _ : Value => True) (fun v' => dVal v') (fun v' => [rRow v' e n f' ys]) := by
  constructor
  intro F I a w K Q hs hi hK
  have := (loc_append (P := P) (ht := ht) (hz := hz) (hv := hv) (xs := ([] : List α)) (dst := dst) (ty := ty) (pos := pos) (after := after) (gd := gd) hx hy hzn (by simpa using hb) (by simpa using hl)).go F I a w K Q hs (nil_ok hi) hK
  exact this

/-- The row becomes immutable. -/
theorem row_freeze {I : Imm} {F : List Res} {w : World} (hi : Inv I (rRow v T n f' xs :: F) w) : ∃ J, I.le J ∧ (dSl n f' xs).rel J v ∧ Inv J F w := by
  rcases row_cases hi with ⟨rfl, hx⟩ | ⟨b, cap, cs, rfl, h3, h4, h5, h6, h7, h8, h9⟩
  · subst hx
    exact ⟨I, I.le_refl, ⟨none, 0, rfl, Nat.le_refl _, Nat.zero_le _, Nat.zero_le _, fun i x hx => by simp at hx⟩, hi.sub (List.sublist_cons_self ..)⟩
  · obtain ⟨o, ho, hn, hi'⟩ := hi.freeze (b := b) rfl
    have hblk : o = .cells cs T (0, 0) := by
      have := hi'.imm b o (by simp [Imm.add])
      rw [h3] at this
      injection this with this
      exact this.symm
    subst hblk
    have hle := Imm.le_add (o := .cells cs T (0, 0)) hn
    refine ⟨_, hle, ⟨some ⟨b, 0, none⟩, cap, rfl, h5, h6, h7, fun i x hx => ⟨h8 x (List.mem_of_getElem? hx), ⟨b, 0, none⟩, rfl, rfl, ?_⟩⟩, hi'⟩
    rw [Addr.add_lit, Nat.zero_add]
    refine ⟨rfl, cs, T, (0, 0), by simp [Imm.add], ?_⟩
    have h10 := relL_elem h8 h9 i x hx
    have hlen := h8 x (List.mem_of_getElem? hx)
    rw [List.drop_take, List.take_take] at h10
    have hlt : i < xs.length := (List.getElem?_eq_some_iff.1 hx).1
    have hmin : min n (xs.length * n - i * n) = n := by
      apply Nat.min_eq_left
      rw [← Nat.sub_mul]
      exact Nat.le_mul_of_pos_left n (by omega)
    rw [hmin] at h10
    simp only [hlen]
    exact relL_mono hle h10

theorem run_freezeRow {s : Nat} {C : Res → List Res} {F : List Res} (hs : look g s = some (dVal v)) (hm : Sel (rRow v T n f' xs) M C F) (h : Run P f N I0 R ((s, dSl n f' xs) :: g) F k) : Run P f N I0 R g M k := by
  refine run_turn (fun I a w hsl hi => ?_) h
  obtain ⟨J, hle, hd, hi'⟩ := row_freeze (hi.perm hm.perm.1)
  refine ⟨J, hle, ⟨hsl.size, hsl.defers, fun j e hj => ?_⟩, hi'⟩
  rw [look_cons] at hj
  split at hj
  · rename_i e1
    subst e1
    injection hj with hj
    subst hj
    have h1 : a.tmps.getD s undef = v := hsl.slot _ _ hs
    rw [h1]
    exact hd
  · exact e.mono hle (hsl.slot _ _ hj)

/-- The length of a row of the call's own. -/
theorem loc_lenRow [ht : TySl P t e] (hx : opd g x = some (dVal v)) (hm : In (rRow v T n f' xs) M) : LocP P ⟨dst, .call ⟨.builtin .len, #[x], #[t]⟩, ty, pos, after, gd⟩ g N M (dInt .i64 (xs.length : Nat)) :=
  locP_of_run fun I a w hs hi => by
    have hxv : a.eval x = v := opd_sound hs hx
    have hmem := hm.mem
    have h1 := hi.own _ hmem
    refine ⟨.int .i64 xs.length, ?_, rfl⟩
    have hvs : ∃ ad cap, v = .slice ad xs.length cap := by
      unfold Res.ok at h1
      split at h1
      · exact ⟨none, 0, by rw [h1.1, h1.2]; rfl⟩
      · obtain ⟨_, o, _, b, cap, cs, h4, _⟩ := h1
        exact ⟨_, _, h4⟩
    obtain ⟨ad, cap, hvv⟩ := hvs
    simp [execOp, resolve, invoke, builtin, Builtin.len_, hxv, hvv, run_underlying ht.eq, goInt]

/-- A row that is not empty lies in a block of its own. -/
theorem run_rowOpen {C : Res → List Res} {F : List Res} (hm : Sel (rRow v T n f' xs) M C F) (hne : xs ≠ []) (h : ∀ b cap, v = .slice (some ⟨b, 0, none⟩) xs.length cap → Run P f N I0 R g M k) : Run P f N I0 R g M k := by
  constructor
  intro I a w b cs hb hk hl hsl hi
  rcases row_cases (hi.perm hm.perm.1) with ⟨_, hx⟩ | ⟨b', cap, cs', hv, _⟩
  · exact absurd hx hne
  · exact (h b' cap hv).go I a w b cs hb hk hl hsl hi

/-- A place in a row of the call's own. -/
theorem loc_indexRow [ht : TySl P t e] [hv : TyV P e agg n] {b cap len i : Nat} (hx : opd g x = some (dVal (.slice (some ⟨b, 0, none⟩) len cap))) (hy : opd g y = some (dInt .i64 (i : Nat))) (hi : i < len) :
    LocP P ⟨dst, .indexAddr t x y, ty, pos, after, gd⟩ g N M (dVal (ptr b (i * n))) :=
  locP_of_run fun I a w hs hinv => by
    have hxv : a.eval x = .slice (some ⟨b, 0, none⟩) len cap := opd_sound hs hx
    have hyv : a.eval y = .int .i64 i := opd_sound hs hy
    refine ⟨_, ?_, rfl⟩
    have h3 : ¬ (len ≤ i) := by omega
    simp [execOp, Instr.indexAt, hxv, hyv, asIntOf, run_underlying ht.eq, h3, run_sizeOf hv, Addr.add_lit, ptr]

theorem loc_indexRowI [ht : TySl P t e] [hv : TyV P e agg n] {b cap len : Nat} {i : Int} {kd : IntKind} (hx : opd g x = some (dVal (.slice (some ⟨b, 0, none⟩) len cap))) (hy : opd g y = some (dInt kd i)) (hi : 0 ≤ i ∧ i < len) :
    LocP P ⟨dst, .indexAddr t x y, ty, pos, after, gd⟩ g N M (dVal (ptr b (i.toNat * n))) :=
  locP_of_run fun I a w hs hinv => by
    have hxv : a.eval x = .slice (some ⟨b, 0, none⟩) len cap := opd_sound hs hx
    have hyv : a.eval y = .int kd i := opd_sound hs hy
    refine ⟨_, ?_, rfl⟩
    simp [execOp, Instr.indexAt, hxv, hyv, asIntOf, run_underlying ht.eq, hi, run_sizeOf hv, Addr.add_lit, ptr]

theorem own_row {I : Imm} {M : List Res} {w : World} {b len cap : Nat} (h : Inv I M w) (hm : rRow (.slice (some ⟨b, 0, none⟩) len cap) T n f' xs ∈ M) :
    ∃ cs, len = xs.length ∧ w.heap[b]? = some (.cells cs T (0, 0)) ∧ cs.size = cap * n ∧ xs.length ≤ cap ∧ (∀ x ∈ xs, (f' x).length = n) ∧ relL (xs.flatMap f') I (cs.toList.take (xs.length * n)) := by
  have h1 := h.own _ hm
  obtain ⟨_, o, h3, b', cap', cs, h4, h5, h6, h7, h8, h9, h10, h11⟩ := h1
  injection h4 with e1 e2 e3
  injection e1 with e1
  injection e1 with e1
  subst e1 e2 e3 h5
  exact ⟨cs, rfl, h3, h6, h7, h10, h11⟩

theorem loc_loadRow1 [Inhabited α] [ht : TyV P t false 1] {b len cap i : Nat} {d : α → D} (hx : opd g x = some (dVal (ptr b (i * 1)))) (hm : In (rRow (.slice (some ⟨b, 0, none⟩) len cap) T 1 (fun e => [d e]) xs) M) (hi : i < xs.length) :
    LocP P ⟨dst, .load t x, ty, pos, after, gd⟩ g N M (d (xs[i]?.getD default)) :=
  locP_of_run fun I a w hs hinv => by
    have hp : a.eval x = .pointer (some ⟨b, i * 1, none⟩) := opd_sound hs hx
    obtain ⟨cs, _, hb, hsz, hcap, _, hr⟩ := own_row hinv hm.mem
    have h2 := relL_elem (f := fun e => [d e]) (n := 1) (fun x _ => rfl) hr i xs[i] (by simp [hi])
    obtain ⟨v, hv, hd⟩ := relL_get h2 0 (d xs[i]) rfl
    rw [List.getElem?_take, if_pos (by omega), List.getElem?_drop, List.getElem?_take, if_pos (by omega), Array.getElem?_toList] at hv
    refine ⟨v, ?_, by simpa [hi] using hd⟩
    rw [Nat.mul_one] at hp hv
    have hc : w.cell? ⟨b, i, none⟩ = some v := by simp [World.cell?, hb]; simpa using hv
    have hl : (load (⟨b, i, none⟩ : Addr)).run P w = .ok v w := by rw [run_load, hc]
    simp [execOp, hp, Instr.loadAt, Instr.sureAddr, loadVar, run_isAgg ht, -run_load, hl]

theorem flatMap_single {β : Type} (f : α → β) (xs : List α) : xs.flatMap (fun e => [f e]) = xs.map f := by
  induction xs with
  | nil => rfl
  | cons x xs ih => simp [ih]

/-- A store into a row of the call's own, of one cell an element. -/
theorem loc_storeRow1 [ht : TyV P t false 1] {b len cap i : Nat} {d : α → D} {d0 : D} (e0 : α) [ho : One d0] (hx : opd g x = some (dVal (ptr b (i * 1)))) (hy : opd g y = some d0) (he : d e0 = d0) (hi : i < xs.length) :
    LocM P ⟨none, .store t x y, ty, pos, after, gd⟩ g N [rRow (.slice (some ⟨b, 0, none⟩) len cap) T 1 (fun e => [d e]) xs] (fun _ : Unit => True) (fun _ => dTop) (fun _ => [rRow (.slice (some ⟨b, 0, none⟩) len cap) T 1 (fun e => [d e]) (xs.set i e0)]) := by
  constructor
  intro F I a w K Q hs hinv hK
  subst he
  have hp : a.eval x = .pointer (some ⟨b, i * 1, none⟩) := opd_sound hs hx
  have hd := opd_sound hs hy
  have h1 := hinv.own _ (List.mem_cons_self ..)
  obtain ⟨_, o, h3, b', cap', cs, h4, h5, h6, h7, h8, h9, h10, h11⟩ := h1
  injection h4 with e1 e2 e3
  injection e1 with e1
  injection e1 with e1
  subst e1 e2 e3 h5
  rw [Nat.mul_one] at hp
  have hk' : i < cs.size := by omega
  have hcell : w.cell? ⟨b, i, none⟩ = some cs[i] := by simp [World.cell?, h3, hk']
  have hfz : w.frozen? ⟨b, i, none⟩ = false := by simp [World.frozen?, h3]
  have hone := ho.one hd
  have h2 : (storeCells ⟨b, i, none⟩ [a.eval y]).run P w = .ok () (w.setCell ⟨b, i, none⟩ (a.eval y)) := by
    have hst : (store (⟨b, i, none⟩ : Addr) (a.eval y)).run P w = .ok () (w.setCell ⟨b, i, none⟩ (a.eval y)) := by
      have h4 := hone.2
      generalize a.eval y = v at h4
      cases v <;> simp [store, Sem.run, hcell, hfz, Value.oneCell'] at h4 ⊢
    simp only [storeCells, Addr.add_zero', Sem.run_bind, hst, Result.andThen_ok]
    rfl
  have hrun : (execOp a.eval ⟨none, .store t x y, ty, pos, after, gd⟩).run P w = .ok .skip (w.setCell ⟨b, i, none⟩ (a.eval y)) := by
    simp [execOp, hp, Instr.storeAt, Instr.sureAddr, storeVar, run_sizeOf ht, hone.1, h2]
  unfold Oper.wp
  rw [hrun]
  refine hK () undef _ I trivial I.le_refl trivial ?_
  have hne : ∀ c, c ≠ b → c < w.heap.size → (w.setCell ⟨b, i, none⟩ (a.eval y)).heap[c]? = w.heap[c]? := fun c hc _ => Go.RowKit.Below.heap_setCell w _ _ _ hc
  refine hinv.write (b := b) rfl rfl rfl rfl rfl hne (o := .cells (cs.setIfInBounds i (a.eval y)) T (0, 0)) (by simp [World.setCell, Array.getElem?_modify, h3]) ?_
  refine ⟨b, cap, _, by simp, rfl, by simpa using h6, by simpa using h7, h8, by simpa using h9, fun _ _ => rfl, ?_⟩
  rw [flatMap_single] at h11 ⊢
  rw [List.map_set]
  have := relL_set hd i h11
  simp only [List.length_set, Array.toList_setIfInBounds] at this ⊢
  rwa [← List.take_set] at this

end

/-! ### New slices and structs -/

/-- The parts of a literal: each of one cell, or a struct. -/
inductive Parts (g : G) : List Operand → List (List D) → Prop where
  | nil : Parts g [] []
  | one {x : Operand} {d : D} {xs : List Operand} {l : List (List D)} [One d] : opd g x = some d → Parts g xs l → Parts g (x :: xs) ([d] :: l)
  | agg {x : Operand} {ds : List D} {xs : List Operand} {l : List (List D)} : opd g x = some (dAgg ds) → Parts g xs l → Parts g (x :: xs) (ds :: l)

theorem Parts.vals {g : G} {xs : List Operand} {lls : List (List D)} (h : Parts g xs lls) {N : Nat} {I : Imm} {a : Act} (hs : Slots g N I a) :
    ∃ css : List (List Value), css.length = lls.length ∧ xs.map (fun x => (a.eval x).cells.toList) = css ∧ ∀ (i : Nat) ds, lls[i]? = some ds → ∃ cs, css[i]? = some cs ∧ relL ds I cs := by
  induction h with
  | nil => exact ⟨[], rfl, rfl, fun i ds h => by simp at h⟩
  | @one x d xs l ho hx _ ih =>
    obtain ⟨css, h1, h2, h3⟩ := ih
    have hd := opd_sound hs hx
    have hc := (ho.one hd).1
    refine ⟨[a.eval x] :: css, by simp [h1], by simp [h2, hc], fun i ds hi => ?_⟩
    cases i with
    | zero => simp at hi; subst hi; exact ⟨_, rfl, hd, trivial⟩
    | succ i => simpa using h3 i ds (by simpa using hi)
  | @agg x ds0 xs l hx _ ih =>
    obtain ⟨css, h1, h2, h3⟩ := ih
    obtain ⟨cs, hc, hd⟩ := opd_sound hs hx
    refine ⟨cs.toList :: css, by simp [h1], by rw [List.map_cons, h2, hc]; rfl, fun i ds hi => ?_⟩
    cases i with
    | zero => simp at hi; subst hi; exact ⟨_, rfl, hd⟩
    | succ i => simpa using h3 i ds (by simpa using hi)

theorem foldl_set (cs : List Value) : ∀ (off : Nat) (ar : Array Value) (j0 : Nat), off + j0 + cs.length ≤ ar.size →
    ((cs.zipIdx j0).foldl (fun (ar : Array Value) (p : Value × Nat) => ar.setIfInBounds (off + p.2) p.1) ar).toList = ar.toList.take (off + j0) ++ cs ++ ar.toList.drop (off + j0 + cs.length) := by
  induction cs with
  | nil => intro off ar j0 _; simp
  | cons c cs ih =>
    intro off ar j0 h
    simp only [List.length_cons] at h
    rw [List.zipIdx_cons, List.foldl_cons, ih off _ (j0 + 1) (by simp; omega)]
    have hlt : off + j0 < ar.toList.length := by simp; omega
    simp only [Array.toList_setIfInBounds, List.length_cons]
    have e1 : off + (j0 + 1) = off + j0 + 1 := by omega
    rw [e1, List.take_add_one, List.getElem?_set_self hlt, List.take_set_of_le (Nat.le_refl _), List.drop_set_of_lt (by omega)]
    have e2 : off + j0 + 1 + cs.length = off + j0 + (cs.length + 1) := by omega
    rw [e2]
    simp

theorem run_fill {n : Nat} : ∀ (vs : List Value) (i0 : Nat) (ar : Array Value), (∀ v ∈ vs, v.cells.size = n) → (i0 + vs.length) * n ≤ ar.size →
    ∃ ar', Instr.fill (fun i => some (i * n, n)) ar ((vs.zipIdx i0).map fun p => (p.2, p.1)) = some ar' ∧ ar'.toList = ar.toList.take (i0 * n) ++ vs.flatMap (fun v => v.cells.toList) ++ ar.toList.drop ((i0 + vs.length) * n)
  | [], i0, ar, _, _ => ⟨ar, rfl, by simp⟩
  | v :: vs, i0, ar, hn, h => by
    have hv := hn v (List.mem_cons_self ..)
    simp only [List.length_cons] at h
    have hfit : i0 * n + n ≤ ar.size := by
      refine Nat.le_trans ?_ h
      rw [← Nat.succ_mul]
      exact Nat.mul_le_mul_right n (by omega)
    have hset := foldl_set v.cells.toList (i0 * n) ar 0 (by simpa [hv] using hfit)
    let ar1 := v.cells.zipIdx.foldl (fun (cs : Array Value) (p : Value × Nat) => cs.setIfInBounds (i0 * n + p.2) p.1) ar
    have har1 : ar1.toList = ar.toList.take (i0 * n) ++ v.cells.toList ++ ar.toList.drop (i0 * n + n) := by
      have : ar1 = (v.cells.toList.zipIdx 0).foldl (fun (ar : Array Value) (p : Value × Nat) => ar.setIfInBounds (i0 * n + p.2) p.1) ar := by
        show v.cells.zipIdx.foldl _ ar = _
        rw [← Array.foldl_toList, Array.toList_zipIdx]
      rw [this, hset]
      simp [hv]
    have hsz : ar1.size = ar.size := by
      have := congrArg List.length har1
      simp only [List.length_append, List.length_take, List.length_drop, Array.length_toList, hv] at this
      omega
    obtain ⟨ar', h1, h2⟩ := run_fill vs (i0 + 1) ar1 (fun u hu => hn u (List.mem_cons_of_mem _ hu)) (by rw [hsz, show i0 + 1 + vs.length = i0 + (vs.length + 1) by omega]; exact h)
    refine ⟨ar', ?_, ?_⟩
    · rw [List.zipIdx_cons, List.map_cons]
      simp only [Instr.fill]
      rw [if_neg (by simp [hv, hfit])]
      exact h1
    · rw [h2, har1, List.length_cons, List.flatMap_cons]
      have e3 : (i0 + 1) * n = i0 * n + n := by rw [Nat.succ_mul]
      have hl1 : (ar.toList.take (i0 * n) ++ v.cells.toList).length = (i0 + 1) * n := by simp [hv, e3]; omega
      have e4 : i0 + 1 + vs.length = i0 + (vs.length + 1) := by omega
      rw [e4]
      have hge : (i0 + 1) * n ≤ (i0 + (vs.length + 1)) * n := Nat.mul_le_mul_right n (by omega)
      rw [← hl1, List.take_left, List.drop_append, List.drop_eq_nil_of_le (by rw [hl1]; exact hge), List.nil_append, List.drop_drop]
      have e5 : i0 * n + n + ((i0 + (vs.length + 1)) * n - (ar.toList.take (i0 * n) ++ v.cells.toList).length) = (i0 + (vs.length + 1)) * n := by rw [hl1]; omega
      rw [e5]
      simp


theorem relL_flat {I : Imm} : ∀ {lls : List (List D)} {css : List (List Value)}, css.length = lls.length → (∀ (i : Nat) ds, lls[i]? = some ds → ∃ cs, css[i]? = some cs ∧ relL ds I cs) → relL lls.flatten I css.flatten
  | [], [], _, _ => trivial
  | ds :: lls, [], h, _ => by simp at h
  | [], cs :: css, h, _ => by simp at h
  | ds :: lls, cs :: css, h, h' => by
    obtain ⟨c, h1, h2⟩ := h' 0 ds rfl
    simp at h1
    subst h1
    rw [List.flatten_cons, List.flatten_cons]
    exact relL_append h2 (relL_flat (by simpa using h) fun i ds hi => by simpa using h' (i + 1) ds (by simpa using hi))

/-- A literal slice. -/
theorem loc_buildSlice {t e : TypeId} [ht : TySl P t e] {bytes n : Nat} {z : Value} {agg : Bool} [hz : TyZ P e bytes z] [hv : TyV P e agg n] {len : Nat} {ps : List (Nat × Operand)} {lls : List (List D)}
    (hps : ps = ((ps.map (·.2)).zipIdx 0).map fun p => (p.2, p.1)) (hlen : ps.length = len) (hp : Parts g (ps.map (·.2)) lls) (hn : (lls.all fun l => Nat.beq l.length n) = true) (hbig : (Nat.ble (len * n) 16777216 && Nat.ble len 16777216) = true) :
    LocP P ⟨dst, .buildSlice t len ps.toArray, ty, pos, after, gd⟩ g N M (dSl n (fun l : List D => l) lls) :=
  locP_of_new fun I a w hs hi => by
    obtain ⟨css, h1, h2, h3⟩ := hp.vals hs
    obtain ⟨i, hin, hiz, his, hib⟩ := info_of_z hz hv
    simp only [Bool.and_eq_true] at hbig
    have hlm := Nat.le_of_ble_eq_true hbig.2
    have hlls : ∀ l ∈ lls, l.length = n := fun l hl => Nat.eq_of_beq_eq_true (List.all_eq_true.1 hn l hl)
    have hcs : ∀ cs ∈ css, cs.length = n := by
      intro cs hcs
      obtain ⟨j, hj⟩ := List.getElem?_of_mem hcs
      have hjl : j < lls.length := by rw [← h1]; exact (List.getElem?_eq_some_iff.1 hj).1
      obtain ⟨cs', h4, h5⟩ := h3 j lls[j] (by simp [hjl])
      rw [hj] at h4
      injection h4 with h4
      subst h4
      rw [← relL_length h5]
      exact hlls _ (List.getElem_mem ..)
    have hcl : css.length = len := by rw [← h2]; simp [hlen]
    let vs := (ps.map (·.2)).map a.eval
    have hvs : ∀ v ∈ vs, v.cells.size = n := by
      intro v hv
      obtain ⟨x, hx, rfl⟩ := List.mem_map.1 hv
      have := hcs ((a.eval x).cells.toList) (by rw [← h2]; exact List.mem_map.2 ⟨x, hx, rfl⟩)
      simpa using this
    let ar : Array Value := (Array.range (len * n)).map ((if len * n = 0 then #[] else z.cells)[· % (if len * n = 0 then #[] else z.cells).size]!)
    have hars : ar.size = len * n := by simp [ar]
    obtain ⟨ar', hf, hr⟩ := run_fill vs 0 ar hvs (by rw [hars]; simp [vs, hlen])
    have hal : ar'.toList = css.flatten := by
      rw [hr]
      simp only [Nat.zero_mul, List.take_zero, List.nil_append, Nat.zero_add]
      have hvl : vs.length = len := by simp [vs, hlen]
      rw [hvl, List.drop_eq_nil_of_le (by simp [hars]), List.append_nil, ← h2]
      simp [vs, List.flatMap, List.map_map, Function.comp_def]
    refine ⟨.slice (some ⟨w.heap.size, 0, none⟩) len len, .cells ar' e, ?_, ?_⟩
    · have hmap : (ps.toArray.map fun (p : Nat × Operand) => (p.1, a.eval p.2)).toList = (vs.zipIdx 0).map fun p => (p.2, p.1) := by
        rw [Array.toList_map]
        have : ∀ (xs : List Operand) (k : Nat), ((xs.zipIdx k).map fun p => (p.2, p.1)).map (fun (p : Nat × Operand) => (p.1, a.eval p.2)) = ((xs.map a.eval).zipIdx k).map fun p => (p.2, p.1) := by
          intro xs
          induction xs with
          | nil => intro k; rfl
          | cons x xs ih => intro k; simp only [List.zipIdx_cons, List.map_cons]; rw [ih]
        rw [← this, ← hps]
      have hsz := run_sizeOf hv w
      have hsl := run_underlying ht.eq w
      have hb : ¬ (16777216 < len * n) := by have := Nat.le_of_ble_eq_true hbig.1; omega
      simp only [execOp, Instr.buildSlice, Sem.run_bind, hsl, Result.andThen_ok, hsz]
      rw [if_neg (by simpa using hb)]
      have hf2 : Instr.fill (fun i => some (i * n, n)) ar (ps.toArray.map fun (p : Nat × Operand) => (p.1, a.eval p.2)).toList = some ar' := by rw [hmap]; exact hf
      by_cases h0 : len * n = 0
      · have har : ar = (Array.range (len * n)).map ((#[] : Array Value)[· % (#[] : Array Value).size]!) := by simp only [ar, if_pos h0]
        rw [har] at hf2
        rw [if_pos h0]
        simp only [Sem.run_bind, Sem.run_pure, Result.andThen_ok, hf2]
        simp [newRow]
      · have har : ar = (Array.range (len * n)).map (z.cells[· % z.cells.size]!) := by simp only [ar, if_neg h0]
        rw [har] at hf2
        rw [if_neg h0]
        have hzv : (zeroValue e).run P w = .ok z w := by simp [zeroValue, typeInfo, hin, hiz]
        simp only [Sem.run_bind, Sem.run_pure, Result.andThen_ok, hzv, hf2]
        simp [newRow]
    · have hrel := relL_flat h1 h3
      rw [← hal] at hrel
      have hlle : lls.length = len := by rw [← h1, hcl]
      refine ⟨some ⟨w.heap.size, 0, none⟩, len, by rw [hlle], by omega, by simp only [maxLen]; omega, by unfold lenMax; omega, fun j ds hj => ⟨hlls ds (List.mem_of_getElem? hj), _, rfl, rfl, ?_⟩⟩
      have hfl : relL (lls.flatMap fun l => l) I ar'.toList := by simpa [List.flatMap] using hrel
      have h10 := relL_elem (f := fun l => l) (n := n) hlls hfl j ds hj
      rw [Addr.add_lit, Nat.zero_add]
      refine ⟨rfl, ar', e, (0, 0), by simp [Imm.add], ?_⟩
      rw [hlls ds (List.mem_of_getElem? hj)]
      exact relL_mono (Imm.le_add hi.fresh) h10

end Go.Q
