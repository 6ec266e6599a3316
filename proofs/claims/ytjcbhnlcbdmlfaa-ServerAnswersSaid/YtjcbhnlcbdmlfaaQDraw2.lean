/- The rules of operations on rows, new slices and structs, closures: what is proved here holds of every program. -/
import Derived.Test.YtjcbhnlcbdmlfaaQDraw
set_option linter.unusedVariables false
set_option linter.unusedSimpArgs false
namespace Go.Q

variable {P : Program} {f : FuncId} {N : Nat} {I0 : Imm} {R : Goal} {g : G} {M : List Res} {k : List Item}
variable {dst : Option Tmp} {ty : TypeId} {pos : String} {after : Array Edge} {gd : Option (Nat × Bool)}

/-! ### Rows -/

theorem nil_ok {α : Type} {T n : Nat} {f : α → List D} {I : Imm} {M : List Res} {w : World} (h : Inv I M w) : Inv I (rRow (.slice none 0 0) T n f ([] : List α) :: M) w :=
  ⟨h.os, h.tape, h.output, h.imm, fun r hr => by
    rcases List.mem_cons.1 hr with rfl | hr
    · exact ⟨rfl, rfl⟩
    · exact h.own r hr, h.apart⟩

/-- The nil slice asL a row of the call's own. -/
theorem run_rowNil {α : Type} (T n : Nat) (f' : α → List D) (h : Run P f N I0 R g (rRow (.slice none 0 0) T n f' ([] : List α) :: M) k) : Run P f N I0 R g M k :=
  run_weaken (fun _ _ _ hs hi => ⟨hs, nil_ok hi⟩) h
theorem runL_rowNil {α : Type} (T n : Nat) (f' : α → List D) {ops : Array Oper} {l : List Oper} (h : RunL P f N I0 R g (rRow (.slice none 0 0) T n f' ([] : List α) :: M) ops l k) : RunL P f N I0 R g M ops l k :=
  ⟨fun I a w b cs hb hk hl hs hi => h.go I a w b cs hb hk hl hs (nil_ok hi)⟩

section
variable {t T e : TypeId} {bytes : Nat} {z : Value} {agg : Bool} {n : Nat} {α : Type} {f' : α → List D} {xs ys : List α} {v : Value} {x y : Operand}

theorem loc_append [ht : TySl P t e] [hz : TyZ P e bytes z] [hv : TyV P e agg n] [h1 : ∀ x, OneAll (f' x)] (hx : opd g x = some (dVal v)) (hy : opd g y = some (dSl n f' ys)) (hzn : z.cells.size = n)
    (hb : (xs.length + ys.length) * bytes ≤ 140737488355328) (hl : xs.length + ys.length ≤ lenMax) :
    LocM P ⟨dst, .call ⟨.builtin .append, #[x, y], #[t, t]⟩, ty, pos, after, gd⟩ g N [rRow v e n f' xs] (fun _ : Value => True) (fun v' => dVal v') (fun v' => [rRow v' e n f' (xs ++ ys)]) := by
  constructor
  intro F I a w K Q hs hi hK
  have hxv : a.eval x = v := opd_sound hs hx
  obtain ⟨ad, cap, hyv, hcap, _, _, hel⟩ := opd_sound hs hy
  have hnil : ad = none → ys = [] := by
    intro h
    cases ys with
    | nil => rfl
    | cons y0 ys => obtain ⟨_, p, hp, _⟩ := hel 0 y0 rfl; rw [h] at hp; cases hp
  obtain ⟨v', w', hr, hi'⟩ := row_append (P := P) (t := t) (ht := ht) (hz := hz) (hv := hv) rfl hzn hi rfl hcap hel hnil hb hl ty
  unfold Oper.wp
  have hrun : (execOp a.eval ⟨dst, .call ⟨.builtin .append, #[x, y], #[t, t]⟩, ty, pos, after, gd⟩).run P w = .ok (.value v') w' := by
    simp only [execOp, resolve, invoke, builtin, Sem.run_bind, Sem.run_pure, Result.andThen_ok, List.map_toArray, List.map_cons, List.map_nil, hxv, hyv, hr]
  rw [hrun]
  exact hK v' v' w' I trivial I.le_refl rfl hi'

theorem dSl_lit {I : Imm} {u : Value} {e0 : α} (h : (dSl n (fun l : List D => l) [f' e0]).rel I u) : (dSl n f' [e0]).rel I u := by
  obtain ⟨a, cap, h1, h2, h3, h4, h5⟩ := h
  refine ⟨a, cap, h1, h2, h3, h4, fun i x hx => ?_⟩
  cases i with
  | zero => simp at hx; subst hx; exact h5 0 _ rfl
  | succ i => simp at hx

theorem loc_append1 {ds : List D} (e0 : α) [ht : TySl P t e] [hz : TyZ P e bytes z] [hv : TyV P e agg n] [h1 : ∀ x, OneAll (f' x)] (hx : opd g x = some (dVal v)) (hy : opd g y = some (dSl n (fun l : List D => l) [ds])) (he : f' e0 = ds) (hzn : z.cells.size = n)
    (hb : (xs.length + 1) * bytes ≤ 140737488355328) (hl : xs.length + 1 ≤ lenMax) :
    LocM P ⟨dst, .call ⟨.builtin .append, #[x, y], #[t, t]⟩, ty, pos, after, gd⟩ g N [rRow v e n f' xs] (fun _ : Value => True) (fun v' => dVal v') (fun v' => [rRow v' e n f' (xs ++ [e0])]) := by
  constructor
  intro F I a w K Q hs hi hK
  subst he
  have hxv : a.eval x = v := opd_sound hs hx
  obtain ⟨ad, cap, hyv, hcap, _, _, hel⟩ := dSl_lit (opd_sound hs hy)
  have hnil : ad = none → [e0] = [] := by
    intro h
    obtain ⟨_, p, hp, _⟩ := hel 0 e0 rfl; rw [h] at hp; cases hp
  obtain ⟨v', w', hr, hi'⟩ := row_append (P := P) (t := t) (ht := ht) (hz := hz) (hv := hv) rfl hzn hi rfl hcap hel hnil (by simpa using hb) (by simpa using hl) ty
  unfold Oper.wp
  have hrun : (execOp a.eval ⟨dst, .call ⟨.builtin .append, #[x, y], #[t, t]⟩, ty, pos, after, gd⟩).run P w = .ok (.value v') w' := by
    simp only [execOp, resolve, invoke, builtin, Sem.run_bind, Sem.run_pure, Result.andThen_ok, List.map_toArray, List.map_cons, List.map_nil, hxv, hyv]
    simp only [List.length_cons, List.length_nil] at hr ⊢
    rw [hr]
    rfl
  rw [hrun]
  exact hK v' v' w' I trivial I.le_refl rfl hi'

/-- append onto nil: a new row. -/
theorem loc_appendNil [ht : TySl P t e] [hz : TyZ P e bytes z] [hv : TyV P e agg n] [h1 : ∀ x, OneAll (f' x)] (hx : opd g x = some (dVal (.slice none 0 0))) (hy : opd g y = some (dSl n f' ys)) (hzn : z.cells.size = n)
    (hb : ys.length * bytes ≤ 140737488355328) (hl : ys.length ≤ lenMax) :
    LocM P ⟨dst, .call ⟨.builtin .append, #[x, y], #[t, t]⟩, ty, pos, after, gd⟩ g N [] (fun _ : Value => True) (fun v' => dVal v') (fun v' => [rRow v' e n f' ys]) := by
  constructor
  intro F I a w K Q hs hi hK
  have := (loc_append (P := P) (ht := ht) (hz := hz) (hv := hv) (xs := ([] : List α)) (dst := dst) (ty := ty) (pos := pos) (after := after) (gd := gd) hx hy hzn (by simpa using hb) (by simpa using hl)).go F I a w K Q hs (nil_ok hi) hK
  exact this

/-- The row becomes immutable. -/
theorem row_freeze {I : Imm} {F : List Res} {w : World} (hi : Inv I (rRow v T n f' xs :: F) w) : ∃ J, I.le J ∧ (dSl n f' xs).rel J v ∧ Inv J F w := by
  rcases row_cases hi with ⟨rfl, hx⟩ | ⟨b, cap, cs, rfl, h3, h4, h5, h6, h7, h8, h9⟩
  · subst hx
    exact ⟨I, I.le_refl, ⟨none, 0, rfl, Nat.le_refl _, Nat.zero_le _, Nat.zero_le _, fun i x hx => by simp at hx⟩, hi.sub (List.sublist_cons_self ..)⟩
  · obtain ⟨o, ho, hn, hi'⟩ := hi.freeze (b := b) rfl
    have hblk : o = .cells cs T (0, 0) := by
      have := hi'.imm b o (by simp [Imm.add])
      rw [h3] at this
      injection this with this
      exact this.symm
    subst hblk
    have hle := Imm.le_add (o := .cells cs T (0, 0)) hn
    refine ⟨_, hle, ⟨some ⟨b, 0, none⟩, cap, rfl, h5, h6, h7, fun i x hx => ⟨h8 x (List.mem_of_getElem? hx), ⟨b, 0, none⟩, rfl, rfl, ?_⟩⟩, hi'⟩
    rw [Addr.add_lit, Nat.zero_add]
    refine ⟨rfl, cs, T, (0, 0), by simp [Imm.add], ?_⟩
    have h10 := relL_elem h8 h9 i x hx
    have hlen := h8 x (List.mem_of_getElem? hx)
    rw [List.drop_take, List.take_take] at h10
    have hlt : i < xs.length := (List.getElem?_eq_some_iff.1 hx).1
    have hmin : min n (xs.length * n - i * n) = n := by
      apply Nat.min_eq_left
      rw [← Nat.sub_mul]
      exact Nat.le_mul_of_pos_left n (by omega)
    rw [hmin] at h10
    simp only [hlen]
    exact relL_mono hle h10

theorem run_freezeRow {s : Nat} {C : Res → List Res} {F : List Res} (hs : look g s = some (dVal v)) (hm : Sel (rRow v T n f' xs) M C F) (h : Run P f N I0 R ((s, dSl n f' xs) :: g) F k) : Run P f N I0 R g M k := by
  refine run_turn (fun I a w hsl hi => ?_) h
  obtain ⟨J, hle, hd, hi'⟩ := row_freeze (hi.perm hm.perm.1)
  refine ⟨J, hle, ⟨hsl.size, hsl.defers, fun j e hj => ?_⟩, hi'⟩
  rw [look_cons] at hj
  split at hj
  · rename_i e1
    subst e1
    injection hj with hj
    subst hj
    have h1 : a.tmps.getD s undef = v := hsl.slot _ _ hs
    rw [h1]
    exact hd
  · exact e.mono hle (hsl.slot _ _ hj)

/-- The length of a row of the call's own. -/
theorem loc_lenRow [ht : TySl P t e] (hx : opd g x = some (dVal v)) (hm : In (rRow v T n f' xs) M) : LocP P ⟨dst, .call ⟨.builtin .len, #[x], #[t]⟩, ty, pos, after, gd⟩ g N M (dInt .i64 (xs.length : Nat)) :=
  locP_of_run fun I a w hs hi => by
    have hxv : a.eval x = v := opd_sound hs hx
    have hmem := hm.mem
    have h1 := hi.own _ hmem
    refine ⟨.int .i64 xs.length, ?_, rfl⟩
    have hvs : ∃ ad cap, v = .slice ad xs.length cap := by
      unfold Res.ok at h1
      split at h1
      · exact ⟨none, 0, by rw [h1.1, h1.2]; rfl⟩
      · obtain ⟨_, o, _, b, cap, cs, h4, _⟩ := h1
        exact ⟨_, _, h4⟩
    obtain ⟨ad, cap, hvv⟩ := hvs
    simp [execOp, resolve, invoke, builtin, Builtin.len_, hxv, hvv, run_underlying ht.eq, goInt]

/-- A row that is not empty lies in a block of its own. -/
theorem run_rowOpen {C : Res → List Res} {F : List Res} (hm : Sel (rRow v T n f' xs) M C F) (hne : xs ≠ []) (h : ∀ b cap, v = .slice (some ⟨b, 0, none⟩) xs.length cap → Run P f N I0 R g M k) : Run P f N I0 R g M k := by
  constructor
  intro I a w b cs hb hk hl hsl hi
  rcases row_cases (hi.perm hm.perm.1) with ⟨_, hx⟩ | ⟨b', cap, cs', hv, _⟩
  · exact absurd hx hne
  · exact (h b' cap hv).go I a w b cs hb hk hl hsl hi

/-- A place in a row of the call's own. -/
theorem loc_indexRow [ht : TySl P t e] [hv : TyV P e agg n] {b cap len i : Nat} (hx : opd g x = some (dVal (.slice (some ⟨b, 0, none⟩) len cap))) (hy : opd g y = some (dInt .i64 (i : Nat))) (hi : i < len) :
    LocP P ⟨dst, .indexAddr t x y, ty, pos, after, gd⟩ g N M (dVal (ptr b (i * n))) :=
  locP_of_run fun I a w hs hinv => by
    have hxv : a.eval x = .slice (some ⟨b, 0, none⟩) len cap := opd_sound hs hx
    have hyv : a.eval y = .int .i64 i := opd_sound hs hy
    refine ⟨_, ?_, rfl⟩
    have h3 : ¬ (len ≤ i) := by omega
    simp [execOp, Instr.indexAt, hxv, hyv, asIntOf, run_underlying ht.eq, h3, run_sizeOf hv, Addr.add_lit, ptr]

theorem loc_indexRowI [ht : TySl P t e] [hv : TyV P e agg n] {b cap len : Nat} {i : Int} {kd : IntKind} (hx : opd g x = some (dVal (.slice (some ⟨b, 0, none⟩) len cap))) (hy : opd g y = some (dInt kd i)) (hi : 0 ≤ i ∧ i < len) :
    LocP P ⟨dst, .indexAddr t x y, ty, pos, after, gd⟩ g N M (dVal (ptr b (i.toNat * n))) :=
  locP_of_run fun I a w hs hinv => by
    have hxv : a.eval x = .slice (some ⟨b, 0, none⟩) len cap := opd_sound hs hx
    have hyv : a.eval y = .int kd i := opd_sound hs hy
    refine ⟨_, ?_, rfl⟩
    simp [execOp, Instr.indexAt, hxv, hyv, asIntOf, run_underlying ht.eq, hi, run_sizeOf hv, Addr.add_lit, ptr]

theorem own_row {I : Imm} {M : List Res} {w : World} {b len cap : Nat} (h : Inv I M w) (hm : rRow (.slice (some ⟨b, 0, none⟩) len cap) T n f' xs ∈ M) :
    ∃ cs, len = xs.length ∧ w.heap[b]? = some (.cells cs T (0, 0)) ∧ cs.size = cap * n ∧ xs.length ≤ cap ∧ (∀ x ∈ xs, (f' x).length = n) ∧ relL (xs.flatMap f') I (cs.toList.take (xs.length * n)) := by
  have h1 := h.own _ hm
  obtain ⟨_, o, h3, b', cap', cs, h4, h5, h6, h7, h8, h9, h10, h11⟩ := h1
  injection h4 with e1 e2 e3
  injection e1 with e1
  injection e1 with e1
  subst e1 e2 e3 h5
  exact ⟨cs, rfl, h3, h6, h7, h10, h11⟩

theorem loc_loadRow1 [Inhabited α] [ht : TyV P t false 1] {b len cap i : Nat} {d : α → D} (hx : opd g x = some (dVal (ptr b (i * 1)))) (hm : In (rRow (.slice (some ⟨b, 0, none⟩) len cap) T 1 (fun e => [d e]) xs) M) (hi : i < xs.length) :
    LocP P ⟨dst, .load t x, ty, pos, after, gd⟩ g N M (d (xs[i]?.getD default)) :=
  locP_of_run fun I a w hs hinv => by
    have hp : a.eval x = .pointer (some ⟨b, i * 1, none⟩) := opd_sound hs hx
    obtain ⟨cs, _, hb, hsz, hcap, _, hr⟩ := own_row hinv hm.mem
    have h2 := relL_elem (f := fun e => [d e]) (n := 1) (fun x _ => rfl) hr i xs[i] (by simp [hi])
    obtain ⟨v, hv, hd⟩ := relL_get h2 0 (d xs[i]) rfl
    rw [List.getElem?_take, if_pos (by omega), List.getElem?_drop, List.getElem?_take, if_pos (by omega), Array.getElem?_toList] at hv
    refine ⟨v, ?_, by simpa [hi] using hd⟩
    rw [Nat.mul_one] at hp hv
    have hc : w.cell? ⟨b, i, none⟩ = some v := by simp [World.cell?, hb]; simpa using hv
    have hl : (load (⟨b, i, none⟩ : Addr)).run P w = .ok v w := by rw [run_load, hc]
    simp [execOp, hp, Instr.loadAt, Instr.sureAddr, loadVar, run_isAgg ht, -run_load, hl]

theorem flatMap_single {β : Type} (f : α → β) (xs : List α) : xs.flatMap (fun e => [f e]) = xs.map f := by
  induction xs with
  | nil => rfl
  | cons x xs ih => simp [ih]

/-- A store into a row of the call's own, of one cell an element. -/
theorem loc_storeRow1 [ht : TyV P t false 1] {b len cap i : Nat} {d : α → D} {d0 : D} (e0 : α) [ho : One d0] (hx : opd g x = some (dVal (ptr b (i * 1)))) (hy : opd g y = some d0) (he : d e0 = d0) (hi : i < xs.length) :
    LocM P ⟨none, .store t x y, ty, pos, after, gd⟩ g N [rRow (.slice (some ⟨b, 0, none⟩) len cap) T 1 (fun e => [d e]) xs] (fun _ : Unit => True) (fun _ => dTop) (fun _ => [rRow (.slice (some ⟨b, 0, none⟩) len cap) T 1 (fun e => [d e]) (xs.set i e0)]) := by
  constructor
  intro F I a w K Q hs hinv hK
  subst he
  have hp : a.eval x = .pointer (some ⟨b, i * 1, none⟩) := opd_sound hs hx
  have hd := opd_sound hs hy
  have h1 := hinv.own _ (List.mem_cons_self ..)
  obtain ⟨_, o, h3, b', cap', cs, h4, h5, h6, h7, h8, h9, h10, h11⟩ := h1
  injection h4 with e1 e2 e3
  injection e1 with e1
  injection e1 with e1
  subst e1 e2 e3 h5
  rw [Nat.mul_one] at hp
  have hk' : i < cs.size := by omega
  have hcell : w.cell? ⟨b, i, none⟩ = some cs[i] := by simp [World.cell?, h3, hk']
  have hfz : w.frozen? ⟨b, i, none⟩ = false := by simp [World.frozen?, h3]
  have hone := ho.one hd
  have h2 : (storeCells ⟨b, i, none⟩ [a.eval y]).run P w = .ok () (w.setCell ⟨b, i, none⟩ (a.eval y)) := by
    have hst : (store (⟨b, i, none⟩ : Addr) (a.eval y)).run P w = .ok () (w.setCell ⟨b, i, none⟩ (a.eval y)) := by
      have h4 := hone.2
      generalize a.eval y = v at h4
      cases v <;> simp [store, Sem.run, hcell, hfz, Value.oneCell'] at h4 ⊢
    simp only [storeCells, Addr.add_zero', Sem.run_bind, hst, Result.andThen_ok]
    rfl
  have hrun : (execOp a.eval ⟨none, .store t x y, ty, pos, after, gd⟩).run P w = .ok .skip (w.setCell ⟨b, i, none⟩ (a.eval y)) := by
    simp [execOp, hp, Instr.storeAt, Instr.sureAddr, storeVar, run_sizeOf ht, hone.1, h2]
  unfold Oper.wp
  rw [hrun]
  refine hK () undef _ I trivial I.le_refl trivial ?_
  have hne : ∀ c, c ≠ b → c < w.heap.size → (w.setCell ⟨b, i, none⟩ (a.eval y)).heap[c]? = w.heap[c]? := fun c hc _ => Go.RowKit.Below.heap_setCell w _ _ _ hc
  refine hinv.write (b := b) rfl rfl rfl rfl rfl hne (o := .cells (cs.setIfInBounds i (a.eval y)) T (0, 0)) (by simp [World.setCell, Array.getElem?_modify, h3]) ?_
  refine ⟨b, cap, _, by simp, rfl, by simpa using h6, by simpa using h7, h8, by simpa using h9, fun _ _ => rfl, ?_⟩
  rw [flatMap_single] at h11 ⊢
  rw [List.map_set]
  have := relL_set hd i h11
  simp only [List.length_set, Array.toList_setIfInBounds] at this ⊢
  rwa [← List.take_set] at this

end

/-! ### New slices and structs -/

/-- The parts of a literal: each of one cell, or a struct. -/
inductive Parts (g : G) : List Operand → List (List D) → Prop where
  | nil : Parts g [] []
  | one {x : Operand} {d : D} {xs : List Operand} {l : List (List D)} [One d] : opd g x = some d → Parts g xs l → Parts g (x :: xs) ([d] :: l)
  | agg {x : Operand} {ds : List D} {xs : List Operand} {l : List (List D)} : opd g x = some (dAgg ds) → Parts g xs l → Parts g (x :: xs) (ds :: l)

theorem Parts.vals {g : G} {xs : List Operand} {lls : List (List D)} (h : Parts g xs lls) {N : Nat} {I : Imm} {a : Act} (hs : Slots g N I a) :
    ∃ css : List (List Value), css.length = lls.length ∧ xs.map (fun x => (a.eval x).cells.toList) = css ∧ ∀ (i : Nat) ds, lls[i]? = some ds → ∃ cs, css[i]? = some cs ∧ relL ds I cs := by
  induction h with
  | nil => exact ⟨[], rfl, rfl, fun i ds h => by simp at h⟩
  | @one x d xs l ho hx _ ih =>
    obtain ⟨css, h1, h2, h3⟩ := ih
    have hd := opd_sound hs hx
    have hc := (ho.one hd).1
    refine ⟨[a.eval x] :: css, by simp [h1], by simp [h2, hc], fun i ds hi => ?_⟩
    cases i with
    | zero => simp at hi; subst hi; exact ⟨_, rfl, hd, trivial⟩
    | succ i => simpa using h3 i ds (by simpa using hi)
  | @agg x ds0 xs l hx _ ih =>
    obtain ⟨css, h1, h2, h3⟩ := ih
    obtain ⟨cs, hc, hd⟩ := opd_sound hs hx
    refine ⟨cs.toList :: css, by simp [h1], by rw [List.map_cons, h2, hc]; rfl, fun i ds hi => ?_⟩
    cases i with
    | zero => simp at hi; subst hi; exact ⟨_, rfl, hd⟩
    | succ i => simpa using h3 i ds (by simpa using hi)

theorem foldl_set (cs : List Value) : ∀ (off : Nat) (ar : Array Value) (j0 : Nat), off + j0 + cs.length ≤ ar.size →
    ((cs.zipIdx j0).foldl (fun (ar : Array Value) (p : Value × Nat) => ar.setIfInBounds (off + p.2) p.1) ar).toList = ar.toList.take (off + j0) ++ cs ++ ar.toList.drop (off + j0 + cs.length) := by
  induction cs with
  | nil => intro off ar j0 _; simp
  | cons c cs ih =>
    intro off ar j0 h
    simp only [List.length_cons] at h
    rw [List.zipIdx_cons, List.foldl_cons, ih off _ (j0 + 1) (by simp; omega)]
    have hlt : off + j0 < ar.toList.length := by simp; omega
    simp only [Array.toList_setIfInBounds, List.length_cons]
    have e1 : off + (j0 + 1) = off + j0 + 1 := by omega
    rw [e1, List.take_add_one, List.getElem?_set_self hlt, List.take_set_of_le (Nat.le_refl _), List.drop_set_of_lt (by omega)]
    have e2 : off + j0 + 1 + cs.length = off + j0 + (cs.length + 1) := by omega
    rw [e2]
    simp

theorem run_fill {n : Nat} : ∀ (vs : List Value) (i0 : Nat) (ar : Array Value), (∀ v ∈ vs, v.cells.size = n) → (i0 + vs.length) * n ≤ ar.size →
    ∃ ar', Instr.fill (fun i => some (i * n, n)) ar ((vs.zipIdx i0).map fun p => (p.2, p.1)) = some ar' ∧ ar'.toList = ar.toList.take (i0 * n) ++ vs.flatMap (fun v => v.cells.toList) ++ ar.toList.drop ((i0 + vs.length) * n)
  | [], i0, ar, _, _ => ⟨ar, rfl, by simp⟩
  | v :: vs, i0, ar, hn, h => by
    have hv := hn v (List.mem_cons_self ..)
    simp only [List.length_cons] at h
    have hfit : i0 * n + n ≤ ar.size := by
      refine Nat.le_trans ?_ h
      rw [← Nat.succ_mul]
      exact Nat.mul_le_mul_right n (by omega)
    have hset := foldl_set v.cells.toList (i0 * n) ar 0 (by simpa [hv] using hfit)
    let ar1 := v.cells.zipIdx.foldl (fun (cs : Array Value) (p : Value × Nat) => cs.setIfInBounds (i0 * n + p.2) p.1) ar
    have har1 : ar1.toList = ar.toList.take (i0 * n) ++ v.cells.toList ++ ar.toList.drop (i0 * n + n) := by
      have : ar1 = (v.cells.toList.zipIdx 0).foldl (fun (ar : Array Value) (p : Value × Nat) => ar.setIfInBounds (i0 * n + p.2) p.1) ar := by
        show v.cells.zipIdx.foldl _ ar = _
        rw [← Array.foldl_toList, Array.toList_zipIdx]
      rw [this, hset]
      simp [hv]
    have hsz : ar1.size = ar.size := by
      have := congrArg List.length har1
      simp only [List.length_append, List.length_take, List.length_drop, Array.length_toList, hv] at this
      omega
    obtain ⟨ar', h1, h2⟩ := run_fill vs (i0 + 1) ar1 (fun u hu => hn u (List.mem_cons_of_mem _ hu)) (by rw [hsz, show i0 + 1 + vs.length = i0 + (vs.length + 1) by omega]; exact h)
    refine ⟨ar', ?_, ?_⟩
    · rw [List.zipIdx_cons, List.map_cons]
      simp only [Instr.fill]
      rw [if_neg (by simp [hv, hfit])]
      exact h1
    · rw [h2, har1, List.length_cons, List.flatMap_cons]
      have e3 : (i0 + 1) * n = i0 * n + n := by rw [Nat.succ_mul]
      have hl1 : (ar.toList.take (i0 * n) ++ v.cells.toList).length = (i0 + 1) * n := by simp [hv, e3]; omega
      have e4 : i0 + 1 + vs.length = i0 + (vs.length + 1) := by omega
      rw [e4]
      have hge : (i0 + 1) * n ≤ (i0 + (vs.length + 1)) * n := Nat.mul_le_mul_right n (by omega)
      rw [← hl1, List.take_left, List.drop_append, List.drop_eq_nil_of_le (by rw [hl1]; exact hge), List.nil_append, List.drop_drop]
      have e5 : i0 * n + n + ((i0 + (vs.length + 1)) * n - (ar.toList.take (i0 * n) ++ v.cells.toList).length) = (i0 + (vs.length + 1)) * n := by rw [hl1]; omega
      rw [e5]
      simp


theorem relL_flat {I : Imm} : ∀ {lls : List (List D)} {css : List (List Value)}, css.length = lls.length → (∀ (i : Nat) ds, lls[i]? = some ds → ∃ cs, css[i]? = some cs ∧ relL ds I cs) → relL lls.flatten I css.flatten
  | [], [], _, _ => trivial
  | ds :: lls, [], h, _ => by simp at h
  | [], cs :: css, h, _ => by simp at h
  | ds :: lls, cs :: css, h, h' => by
    obtain ⟨c, h1, h2⟩ := h' 0 ds rfl
    simp at h1
    subst h1
    rw [List.flatten_cons, List.flatten_cons]
    exact relL_append h2 (relL_flat (by simpa using h) fun i ds hi => by simpa using h' (i + 1) ds (by simpa using hi))

/-- A literal slice. -/
theorem loc_buildSlice {t e : TypeId} [ht : TySl P t e] {bytes n : Nat} {z : Value} {agg : Bool} [hz : TyZ P e bytes z] [hv : TyV P e agg n] {len : Nat} {ps : List (Nat × Operand)} {lls : List (List D)}
    (hps : ps = ((ps.map (·.2)).zipIdx 0).map fun p => (p.2, p.1)) (hlen : ps.length = len) (hp : Parts g (ps.map (·.2)) lls) (hn : (lls.all fun l => Nat.beq l.length n) = true) (hbig : (Nat.ble (len * n) 16777216 && Nat.ble len 16777216) = true) :
    LocP P ⟨dst, .buildSlice t len ps.toArray, ty, pos, after, gd⟩ g N M (dSl n (fun l : List D => l) lls) :=
  locP_of_new fun I a w hs hi => by
    obtain ⟨css, h1, h2, h3⟩ := hp.vals hs
    obtain ⟨i, hin, hiz, his, hib⟩ := info_of_z hz hv
    simp only [Bool.and_eq_true] at hbig
    have hlm := Nat.le_of_ble_eq_true hbig.2
    have hlls : ∀ l ∈ lls, l.length = n := fun l hl => Nat.eq_of_beq_eq_true (List.all_eq_true.1 hn l hl)
    have hcs : ∀ cs ∈ css, cs.length = n := by
      intro cs hcs
      obtain ⟨j, hj⟩ := List.getElem?_of_mem hcs
      have hjl : j < lls.length := by rw [← h1]; exact (List.getElem?_eq_some_iff.1 hj).1
      obtain ⟨cs', h4, h5⟩ := h3 j lls[j] (by simp [hjl])
      rw [hj] at h4
      injection h4 with h4
      subst h4
      rw [← relL_length h5]
      exact hlls _ (List.getElem_mem ..)
    have hcl : css.length = len := by rw [← h2]; simp [hlen]
    let vs := (ps.map (·.2)).map a.eval
    have hvs : ∀ v ∈ vs, v.cells.size = n := by
      intro v hv
      obtain ⟨x, hx, rfl⟩ := List.mem_map.1 hv
      have := hcs ((a.eval x).cells.toList) (by rw [← h2]; exact List.mem_map.2 ⟨x, hx, rfl⟩)
      simpa using this
    let ar : Array Value := (Array.range (len * n)).map ((if len * n = 0 then #[] else z.cells)[· % (if len * n = 0 then #[] else z.cells).size]!)
    have hars : ar.size = len * n := by simp [ar]
    obtain ⟨ar', hf, hr⟩ := run_fill vs 0 ar hvs (by rw [hars]; simp [vs, hlen])
    have hal : ar'.toList = css.flatten := by
      rw [hr]
      simp only [Nat.zero_mul, List.take_zero, List.nil_append, Nat.zero_add]
      have hvl : vs.length = len := by simp [vs, hlen]
      rw [hvl, List.drop_eq_nil_of_le (by simp [hars]), List.append_nil, ← h2]
      simp [vs, List.flatMap, List.map_map, Function.comp_def]
    refine ⟨.slice (some ⟨w.heap.size, 0, none⟩) len len, .cells ar' e, ?_, ?_⟩
    · have hmap : (ps.toArray.map fun (p : Nat × Operand) => (p.1, a.eval p.2)).toList = (vs.zipIdx 0).map fun p => (p.2, p.1) := by
        rw [Array.toList_map]
        have : ∀ (xs : List Operand) (k : Nat), ((xs.zipIdx k).map fun p => (p.2, p.1)).map (fun (p : Nat × Operand) => (p.1, a.eval p.2)) = ((xs.map a.eval).zipIdx k).map fun p => (p.2, p.1) := by
          intro xs
          induction xs with
          | nil => intro k; rfl
          | cons x xs ih => intro k; simp only [List.zipIdx_cons, List.map_cons]; rw [ih]
        rw [← this, ← hps]
      have hsz := run_sizeOf hv w
      have hsl := run_underlying ht.eq w
      have hb : ¬ (16777216 < len * n) := by have := Nat.le_of_ble_eq_true hbig.1; omega
      simp only [execOp, Instr.buildSlice, Sem.run_bind, hsl, Result.andThen_ok, hsz]
      rw [if_neg (by simpa using hb)]
      have hf2 : Instr.fill (fun i => some (i * n, n)) ar (ps.toArray.map fun (p : Nat × Operand) => (p.1, a.eval p.2)).toList = some ar' := by rw [hmap]; exact hf
      by_cases h0 : len * n = 0
      · have har : ar = (Array.range (len * n)).map ((#[] : Array Value)[· % (#[] : Array Value).size]!) := by simp only [ar, if_pos h0]
        rw [har] at hf2
        rw [if_pos h0]
        simp only [Sem.run_bind, Sem.run_pure, Result.andThen_ok, hf2]
        simp [newRow]
      · have har : ar = (Array.range (len * n)).map (z.cells[· % z.cells.size]!) := by simp only [ar, if_neg h0]
        rw [har] at hf2
        rw [if_neg h0]
        have hzv : (zeroValue e).run P w = .ok z w := by simp [zeroValue, typeInfo, hin, hiz]
        simp only [Sem.run_bind, Sem.run_pure, Result.andThen_ok, hzv, hf2]
        simp [newRow]
    · have hrel := relL_flat h1 h3
      rw [← hal] at hrel
      have hlle : lls.length = len := by rw [← h1, hcl]
      refine ⟨some ⟨w.heap.size, 0, none⟩, len, by rw [hlle], by omega, by simp only [maxLen]; omega, by unfold lenMax; omega, fun j ds hj => ⟨hlls ds (List.mem_of_getElem? hj), _, rfl, rfl, ?_⟩⟩
      have hfl : relL (lls.flatMap fun l => l) I ar'.toList := by simpa [List.flatMap] using hrel
      have h10 := relL_elem (f := fun l => l) (n := n) hlls hfl j ds hj
      rw [Addr.add_lit, Nat.zero_add]
      refine ⟨rfl, ar', e, (0, 0), by simp [Imm.add], ?_⟩
      rw [hlls ds (List.mem_of_getElem? hj)]
      exact relL_mono (Imm.le_add hi.fresh) h10

end Go.Q

namespace Go.Q

variable {P : Program} {f : FuncId} {N : Nat} {I0 : Imm} {R : Goal} {g : G} {M : List Res} {k : List Item}
variable {dst : Option Tmp} {ty : TypeId} {pos : String} {after : Array Edge} {gd : Option (Nat × Bool)}

/-! ### Struct literals -/

def plOf (P : Program) (t : TypeId) : Option (List (Nat × Nat)) :=
  match P.underlying t with
  | some (.struct fs) => fs.toList.mapM fun f => (P.info? f.type).map fun i => (f.offset, i.size)
  | _ => none
/-- Where a struct's fields lie: offset and size. -/
class TyPl (P : Program) (t : TypeId) (pl : outParam (List (Nat × Nat))) : Prop where
  eq : plOf P t = some pl

inductive Fills (g : G) (pl : List (Nat × Nat)) : List (Nat × Operand) → List D → List D → Prop where
  | nil {zs : List D} : Fills g pl [] zs zs
  | one {i off : Nat} {x : Operand} {d : D} {ps : List (Nat × Operand)} {zs out : List D} [One d] : pl[i]? = some (off, 1) → opd g x = some d → Nat.blt off zs.length = true → Fills g pl ps (zs.set off d) out → Fills g pl ((i, x) :: ps) zs out
  | agg {i off n : Nat} {x : Operand} {ds : List D} {ps : List (Nat × Operand)} {zs out : List D} : pl[i]? = some (off, n) → opd g x = some (dAgg ds) → Nat.beq ds.length n = true → Nat.ble (off + n) zs.length = true →
      Fills g pl ps (zs.take off ++ ds ++ zs.drop (off + n)) out → Fills g pl ((i, x) :: ps) zs out

theorem Fills.run {pl : List (Nat × Nat)} {ps : List (Nat × Operand)} {zs out : List D} (h : Fills g pl ps zs out) {N : Nat} {I : Imm} {a : Act} (hs : Slots g N I a) :
    ∀ {ar : Array Value}, relL zs I ar.toList → ∃ ar', Instr.fill (pl.toArray[·]?) ar (ps.map fun p => (p.1, a.eval p.2)) = some ar' ∧ relL out I ar'.toList := by
  induction h with
  | nil => intro ar hr; exact ⟨ar, rfl, hr⟩
  | @one i off x d ps zs out ho hp hx hlt _ ih =>
    intro ar hr
    have hd := opd_sound hs hx
    have hc := (ho.one hd).1
    have hlt' : off < ar.size := by
      have h1 : off < zs.length := by simpa [Nat.blt_eq] using hlt
      rw [relL_length hr] at h1
      simpa using h1
    obtain ⟨ar', h1, h2⟩ := ih (ar := ar.setIfInBounds off (a.eval x)) (by simpa using relL_set hd off hr)
    refine ⟨ar', ?_, h2⟩
    simp only [List.map_cons, Instr.fill, List.getElem?_toArray, hp, hc]
    rw [if_neg (by simp; omega)]
    simpa using h1
  | @agg i off n x ds ps zs out hp hx hn hle _ ih =>
    intro ar hr
    obtain ⟨cs, hc, hd⟩ := opd_sound hs hx
    have hn' := Nat.eq_of_beq_eq_true hn
    have hcl : cs.size = n := by
      have := relL_length hd
      rw [hn'] at this
      simpa using this.symm
    have hle' : off + n ≤ ar.size := by
      have h1 := Nat.le_of_ble_eq_true hle
      rw [relL_length hr] at h1
      simpa using h1
    let ar1 := cs.zipIdx.foldl (fun (ar : Array Value) (p : Value × Nat) => ar.setIfInBounds (off + p.2) p.1) ar
    have har1 : ar1.toList = ar.toList.take off ++ cs.toList ++ ar.toList.drop (off + n) := by
      have e : ar1 = (cs.toList.zipIdx 0).foldl (fun (ar : Array Value) (p : Value × Nat) => ar.setIfInBounds (off + p.2) p.1) ar := by
        show cs.zipIdx.foldl _ ar = _
        rw [← Array.foldl_toList, Array.toList_zipIdx]
      rw [e, foldl_set cs.toList off ar 0 (by simpa [hcl] using hle')]
      simp [hcl]
    obtain ⟨ar', h1, h2⟩ := ih (ar := ar1) (by
      rw [har1]
      exact relL_append (relL_append (relL_take off hr) hd) (relL_drop (off + n) hr))
    refine ⟨ar', ?_, h2⟩
    have hcc : (Value.agg cs).cells = cs := rfl
    simp only [List.map_cons, Instr.fill, List.getElem?_toArray, hp, hc]
    rw [if_neg (by rw [hcc]; simp [hcl]; omega)]
    simp only [List.getElem?_toArray] at h1
    exact h1

theorem loc_build {t : TypeId} {pl : List (Nat × Nat)} [hpl : TyPl P t pl] {bytes : Nat} {zc : Array Value} [hz : TyZ P t bytes (.agg zc)] {ps : List (Nat × Operand)} {out : List D} (hf : Fills g pl ps (zeroDs (.agg zc)) out) :
    LocP P ⟨dst, .build t ps.toArray, ty, pos, after, gd⟩ g N M (dAgg out) :=
  locP_of_run fun I a w hs hi => by
    have hzr := zeroDs_rel I (.agg zc) (by simp)
    obtain ⟨ar', h1, h2⟩ := hf.run hs hzr
    refine ⟨.agg ar', ?_, _, rfl, h2⟩
    have h3 := hz.eq
    have h4 := hpl.eq
    cases hu : P.info? t with
    | none => simp [hu] at h3
    | some i =>
      simp only [hu, Option.map_some, Option.some.injEq, Prod.mk.injEq] at h3
      have hb : P.built t (ps.toArray.map fun (p : Nat × Operand) => (p.1, a.eval p.2)).toList = some ar' := by
        unfold Program.built
        unfold plOf at h4
        cases hun : P.underlying t with
        | none => simp [hun] at h4
        | some d =>
          cases d <;> simp only [hun] at h4 <;> try cases h4
          simp only [hu, h3.2, h4]
          simpa using h1
      simp only [execOp, Sem.run_bind, run_build w t _ _ hb, Result.andThen_ok]
      rfl

/-! ### Comparisons -/

section
variable {t t' : TypeId} {x y : Operand}

theorem run_eql_bool [ht : TyBool P t] (w : World) (b c : Bool) : (binOp .eql t (.bool b) (.bool c)).run P w = .ok (.bool (b == c)) w := by
  have h : (binOp .eql t (.bool b) (.bool c)).run P w = ((Op.equalIn 10000 t (.bool b) (.bool c)).run P w).andThen fun b w' => .ok (.bool b) w' := by
    simp only [binOp]
    simp [Op.equal, Op.maxDepth]
  rw [h, run_equalIn_bool' w 9999 t b c ht.eq]
  rfl
theorem run_neq_bool [ht : TyBool P t] (w : World) (b c : Bool) : (binOp .neq t (.bool b) (.bool c)).run P w = .ok (.bool (!(b == c))) w := by
  have h : (binOp .neq t (.bool b) (.bool c)).run P w = ((Op.equalIn 10000 t (.bool b) (.bool c)).run P w).andThen fun b w' => .ok (.bool (!b)) w' := by
    simp only [binOp]
    simp [Op.equal, Op.maxDepth]
  rw [h, run_equalIn_bool' w 9999 t b c ht.eq]
  rfl

theorem loc_eqlB [ht : TyBool P t] {p q : Prop} (hx : opd g x = some (dB p)) (hy : opd g y = some (dB q)) : LocP P ⟨dst, .binOp .eql t x y t', ty, pos, after, gd⟩ g N M (dB (p ↔ q)) :=
  locP_of_run fun I a w hs hi => by
    obtain ⟨b, hb, hp⟩ := opd_sound hs hx
    obtain ⟨c, hc, hq⟩ := opd_sound hs hy
    refine ⟨.bool (b == c), ?_, b == c, rfl, ?_⟩
    · have e : eqGuard .eql t x y (.bool b) (.bool c) = pure () := by unfold eqGuard; rfl
      simp only [execOp, hb, hc, e, Sem.run_bind, Sem.run_pure, Result.andThen_ok, run_eql_bool]
    · rw [← hp, ← hq]; cases b <;> cases c <;> simp
theorem loc_neqB [ht : TyBool P t] {p q : Prop} (hx : opd g x = some (dB p)) (hy : opd g y = some (dB q)) : LocP P ⟨dst, .binOp .neq t x y t', ty, pos, after, gd⟩ g N M (dB (¬ (p ↔ q))) :=
  locP_of_run fun I a w hs hi => by
    obtain ⟨b, hb, hp⟩ := opd_sound hs hx
    obtain ⟨c, hc, hq⟩ := opd_sound hs hy
    refine ⟨.bool (!(b == c)), ?_, !(b == c), rfl, ?_⟩
    · have e : eqGuard .neq t x y (.bool b) (.bool c) = pure () := by unfold eqGuard; rfl
      simp only [execOp, hb, hc, e, Sem.run_bind, Sem.run_pure, Result.andThen_ok, run_neq_bool]
    · rw [← hp, ← hq]; cases b <;> cases c <;> simp

theorem beq_bytes (s u : ByteArray) : (s == u) = true ↔ s = u := by
  rw [beq_toListBytes, beq_iff_eq, ByteArray.toList_eq, ByteArray.toList_eq]
  constructor
  · intro h
    obtain ⟨⟨a⟩⟩ := s
    obtain ⟨⟨b⟩⟩ := u
    simp at h
    subst h
    rfl
  · rintro rfl; rfl

theorem loc_eqlS {s u : ByteArray} (hx : opd g x = some (dStr s)) (hy : opd g y = some (dStr u)) : LocP P ⟨dst, .binOp .eql t x y t', ty, pos, after, gd⟩ g N M (dB (s = u)) :=
  locP_of_run fun I a w hs hi => by
    have hb : a.eval x = .string s := opd_sound hs hx
    have hc : a.eval y = .string u := opd_sound hs hy
    refine ⟨.bool (s == u), ?_, s == u, rfl, beq_bytes s u⟩
    have e : eqGuard .eql t x y (.string s) (.string u) = pure () := by unfold eqGuard; rfl
    simp [execOp, hb, hc, e, binOp, Op.stringOp]
    exact (beq_toListBytes s u).symm
theorem loc_neqS {s u : ByteArray} (hx : opd g x = some (dStr s)) (hy : opd g y = some (dStr u)) : LocP P ⟨dst, .binOp .neq t x y t', ty, pos, after, gd⟩ g N M (dB (s ≠ u)) :=
  locP_of_run fun I a w hs hi => by
    have hb : a.eval x = .string s := opd_sound hs hx
    have hc : a.eval y = .string u := opd_sound hs hy
    refine ⟨.bool (s != u), ?_, s != u, rfl, by
      have := beq_bytes s u
      unfold bne
      cases h : s == u <;> simp_all⟩
    have e : eqGuard .neq t x y (.string s) (.string u) = pure () := by unfold eqGuard; rfl
    simp [execOp, hb, hc, e, binOp, Op.stringOp]
    rw [← beq_toListBytes]
    unfold bne
    simp

/-- A struct of integers. -/
def eqIntFs (P : Program) : Nat → List Field → Bool
  | _, [] => true
  | j, fd :: fs => Nat.beq fd.offset j && !(fd.name == "_") && (match P.underlying fd.type with | some (.int _) => true | _ => false) && eqIntFs P (j + 1) fs
class TyEqI (P : Program) (t : TypeId) (n : outParam Nat) : Prop where
  is : (match P.underlying t with | some (.struct fs) => (fs.size, eqIntFs P 0 fs.toList) | _ => (0, false)) = (n, true)
  stood : P.stoodInHeld t = false
  guard : P.eqGuardType P.depth t = false

inductive IntsD : List D → List Int → Prop where
  | nil : IntsD [] []
  | cons {kd : IntKind} {m : Int} {ds : List D} {ms : List Int} : IntsD ds ms → IntsD (dInt kd m :: ds) (m :: ms)

/-- Two structs' cells that are integers of the same kinds. -/
def sameInts : List Value → List Value → Option (List Int × List Int)
  | [], [] => some ([], [])
  | .int k m :: vs, .int k' m' :: us => if k = k' then (sameInts vs us).map fun p => (m :: p.1, m' :: p.2) else none
  | _, _ => none

inductive IntsD2 : List D → List D → List Int → List Int → Prop where
  | nil : IntsD2 [] [] [] []
  | cons {kd : IntKind} {m m' : Int} {ds ds' : List D} {ms ms' : List Int} : IntsD2 ds ds' ms ms' → IntsD2 (dInt kd m :: ds) (dInt kd m' :: ds') (m :: ms) (m' :: ms')

theorem run_eqInts {w : World} {dp : Nat} {I : Imm} : ∀ {ds ds' : List D} {ms ms' : List Int}, IntsD2 ds ds' ms ms' → ∀ (fs : List Field) (j : Nat) (xs ys : Array Value), eqIntFs P j fs = true → fs.length = ds.length →
    relL ds I (xs.toList.drop j) → relL ds' I (ys.toList.drop j) → (Op.eqFields (dp + 1) xs ys fs).run P w = .ok (decide (ms = ms')) w := by
  intro ds ds' ms ms' h
  induction h with
  | nil =>
    intro fs j xs ys _ hl _ _
    cases fs with
    | nil => simp [Op.eqFields]
    | cons => simp at hl
  | @cons kd m m' ds ds' ms ms' _ ih =>
    intro fs j xs ys hf hl hx hy
    cases fs with
    | nil => simp at hl
    | cons fd fs =>
      simp only [eqIntFs, Bool.and_eq_true] at hf
      obtain ⟨⟨⟨h1, h2⟩, h3⟩, h4⟩ := hf
      have hoff := Nat.eq_of_beq_eq_true h1
      have hname : fd.name ≠ "_" := by simpa using h2
      cases hu : P.underlying fd.type with
      | none => simp [hu] at h3
      | some dd =>
        cases dd <;> simp [hu] at h3
        rename_i kk
        have hxc : ∃ r, xs.toList.drop j = .int kd m :: r ∧ relL ds I r := by
          cases hd : xs.toList.drop j with
          | nil => rw [hd] at hx; cases hx
          | cons v r => rw [hd] at hx; exact ⟨r, by rw [show v = _ from hx.1], hx.2⟩
        have hyc : ∃ r, ys.toList.drop j = .int kd m' :: r ∧ relL ds' I r := by
          cases hd : ys.toList.drop j with
          | nil => rw [hd] at hy; cases hy
          | cons v r => rw [hd] at hy; exact ⟨r, by rw [show v = _ from hy.1], hy.2⟩
        obtain ⟨rx, ex, hrx⟩ := hxc
        obtain ⟨ry, ey, hry⟩ := hyc
        have gx : xs[j]? = some (.int kd m) := by
          have : (xs.toList.drop j)[0]? = some (.int kd m) := by rw [ex]; rfl
          simpa using this
        have gy : ys[j]? = some (.int kd m') := by
          have : (ys.toList.drop j)[0]? = some (.int kd m') := by rw [ey]; rfl
          simpa using this
        have dx : xs.toList.drop (j + 1) = rx := by rw [← List.drop_drop, ex]; rfl
        have dy : ys.toList.drop (j + 1) = ry := by rw [← List.drop_drop, ey]; rfl
        have hag : (isAgg fd.type).run P w = .ok false w := by
          unfold isAgg
          simp only [Sem.run_bind, run_underlying hu, Result.andThen_ok]
          rfl
        have px : (part fd.type xs fd.offset).run P w = .ok (.int kd m) w := by simp [part, hag, hoff, gx]
        have py : (part fd.type ys fd.offset).run P w = .ok (.int kd m') w := by simp [part, hag, hoff, gy]
        simp only [Op.eqFields, if_pos hname, ne_eq, hname, not_false_eq_true, if_true, Sem.run_bind, px, py, Result.andThen_ok, run_equalIn_int w dp fd.type kd kk m m' hu, Sem.run_ite]
        by_cases hm : m = m'
        · subst hm
          simp only [beq_self_eq_true, Bool.not_true, Bool.false_eq_true, if_false]
          rw [ih fs (j + 1) xs ys h4 (by simpa using hl) (by rw [dx]; exact hrx) (by rw [dy]; exact hry)]
          simp
        · have hb : (m == m') = false := by simpa using hm
          simp [hb, hm]

theorem ints2_length : ∀ {ds ds' : List D} {ms ms' : List Int}, IntsD2 ds ds' ms ms' → ds.length = ds'.length
  | _, _, _, _, .nil => rfl
  | _, _, _, _, .cons h => congrArg (· + 1) (ints2_length h)

theorem run_eqAgg {n : Nat} (ht : TyEqI P t n) {ds ds' : List D} {ms ms' : List Int} {I : Imm} (hi : IntsD2 ds ds' ms ms') (hn : Nat.beq ds.length n = true) {cs cs' : Array Value} (h1 : relL ds I cs.toList) (h2 : relL ds' I cs'.toList) (w : World) :
    (Op.equalIn 10000 t (.agg cs) (.agg cs')).run P w = .ok (decide (ms = ms')) w := by
  have h3 := ht.is
  cases hu : P.underlying t with
  | none => simp [hu] at h3
  | some d =>
    cases d <;> simp [hu] at h3
    rename_i fs
    have hfo : P.fieldsOf t = fs := by unfold Program.fieldsOf; simp [hu]
    rw [run_equalIn_struct w 9999 t cs cs' (by rw [hfo]; exact hu) ht.stood, hfo]
    exact run_eqInts (dp := 9998) hi fs.toList 0 cs cs' h3.2 (by rw [Nat.eq_of_beq_eq_true hn, ← h3.1]; simp) (by simpa using h1) (by simpa using h2)

theorem loc_eqlI {n : Nat} [ht : TyEqI P t n] {ds ds' : List D} {ms ms' : List Int} (hx : opd g x = some (dAgg ds)) (hy : opd g y = some (dAgg ds')) (hi : IntsD2 ds ds' ms ms') (hn : Nat.beq ds.length n = true) : LocP P ⟨dst, .binOp .eql t x y t', ty, pos, after, gd⟩ g N M (dB (ms = ms')) :=
  locP_of_run fun I a w hs hinv => by
    obtain ⟨cs, hc, hd⟩ := opd_sound hs hx
    obtain ⟨cs', hc', hd'⟩ := opd_sound hs hy
    refine ⟨.bool (decide (ms = ms')), ?_, _, rfl, by simp⟩
    simp only [execOp, hc, hc', Sem.run_bind, run_eqGuard_agg w .eql t x y cs cs' ht.guard, Result.andThen_ok, run_eql_struct, run_eqAgg ht hi hn hd hd', Sem.run_pure]
theorem loc_neqI {n : Nat} [ht : TyEqI P t n] {ds ds' : List D} {ms ms' : List Int} (hx : opd g x = some (dAgg ds)) (hy : opd g y = some (dAgg ds')) (hi : IntsD2 ds ds' ms ms') (hn : Nat.beq ds.length n = true) : LocP P ⟨dst, .binOp .neq t x y t', ty, pos, after, gd⟩ g N M (dB (ms ≠ ms')) :=
  locP_of_run fun I a w hs hinv => by
    obtain ⟨cs, hc, hd⟩ := opd_sound hs hx
    obtain ⟨cs', hc', hd'⟩ := opd_sound hs hy
    refine ⟨.bool (!decide (ms = ms')), ?_, _, rfl, by simp⟩
    simp only [execOp, hc, hc', Sem.run_bind, run_eqGuard_agg w .neq t x y cs cs' ht.guard, Result.andThen_ok, run_neq_struct, run_eqAgg ht hi hn hd hd', Sem.run_pure]

/-! ### Conversions between integers -/

theorem loc_convW {s : TypeId} {k0 k1 : IntKind} [h1 : TyInt P s k0] [h2 : TyInt P t k1] {kd : IntKind} {m : Int} (hx : opd g x = some (dInt kd m)) : LocP P ⟨dst, .convert s t x, ty, pos, after, gd⟩ g N M (dInt k1 (k1.wrap m)) :=
  locP_of_run fun I a w hs hi => by
    have hc : a.eval x = .int kd m := opd_sound hs hx
    refine ⟨.int k1 (k1.wrap m), ?_, rfl⟩
    have hik : P.intKind t = k1 := by unfold Program.intKind; simp [h2.eq]
    have := run_convert_int (P := P) w s t kd m (by simp [h1.eq]) (by rw [hik]; exact h2.eq)
    rw [hik] at this
    simp only [execOp, hc, Sem.run_bind, this, Result.andThen_ok, Sem.run_pure]
theorem loc_conv {s : TypeId} {k0 : IntKind} [h1 : TyInt P s k0] [h2 : TyInt P t .i64] {kd : IntKind} {m : Int} (hx : opd g x = some (dInt kd m)) (h : -9223372036854775808 ≤ m ∧ m ≤ 9223372036854775807) : LocP P ⟨dst, .convert s t x, ty, pos, after, gd⟩ g N M (dInt .i64 m) :=
  (loc_convW hx).conv (by rw [IntWalk.i64_in _ h])

/-! ### Parts of slices -/

theorem dSl_part {α : Type} {n : Nat} {f' : α → List D} {xs : List α} {I : Imm} {a : Option Addr} {cap lo hi : Nat} (hlo : lo ≤ hi) (hhi : hi ≤ xs.length)
    (hcap : xs.length ≤ cap) (hm : cap ≤ maxLen) (hl : xs.length ≤ lenMax) (hel : ∀ i x, xs[i]? = some x → (f' x).length = n ∧ ∃ p, a = some p ∧ p.spot = none ∧ I.at (p.add (i * n)) (f' x)) :
    (dSl n f' ((xs.take hi).drop lo)).rel I (.slice (if cap = lo then a else a.map (·.add (lo * n))) (hi - lo) (cap - lo)) := by
  have hlen : ((xs.take hi).drop lo).length = hi - lo := by simp; omega
  refine ⟨_, _, by rw [hlen], by omega, by omega, by omega, fun i x hx => ?_⟩
  have hi' : i < hi - lo := by have := (List.getElem?_eq_some_iff.1 hx).1; omega
  rw [List.getElem?_drop, List.getElem?_take, if_pos (by omega)] at hx
  obtain ⟨h1, p, h2, h3, h4⟩ := hel (lo + i) x hx
  subst h2
  rw [if_neg (by omega)]
  refine ⟨h1, p.add (lo * n), rfl, ?_, ?_⟩
  · obtain ⟨b, o, s⟩ := p
    simp only at h3
    subst h3
    rw [Addr.add_lit]
  · have e : (p.add (lo * n)).add (i * n) = p.add ((lo + i) * n) := by
      obtain ⟨b, o, s⟩ := p
      simp only at h3
      subst h3
      rw [Addr.add_lit, Addr.add_lit, Addr.add_lit, Nat.add_mul, Nat.add_assoc]
    rw [e]
    exact h4

section
variable {e : TypeId} {n : Nat} {agg : Bool} {α : Type} {f' : α → List D} {xs : List α} {lo hi : Operand} {i j : Int} {kd kd' : IntKind}

/-- x[i:] -/
theorem loc_sliceFrom [ht : TySl P t e] [hv : TyV P e agg n] (hx : opd g x = some (dSl n f' xs)) (hy : opd g lo = some (dInt kd i)) (h : 0 ≤ i ∧ i ≤ xs.length) :
    LocP P ⟨dst, .slice t x (some lo) none none, ty, pos, after, gd⟩ g N M (dSl n f' (xs.drop i.toNat)) :=
  locP_of_run fun I a w hs hinv => by
    obtain ⟨b, cap, hp, h1, h2, h3, h4⟩ := opd_sound hs hx
    have hyv : a.eval lo = .int kd i := opd_sound hs hy
    have hr := dSl_part (lo := i.toNat) (hi := xs.length) (by omega) (Nat.le_refl _) h1 h2 h3 h4
    rw [List.take_length] at hr
    refine ⟨_, ?_, hr⟩
    simp [execOp, Instr.sliceAt, Instr.slice, hp, hyv, run_underlying ht.eq, Instr.sliceBounds, Instr.sliceBound, asIntOf, h, run_sizeOf hv]

/-- x[:j] -/
theorem loc_sliceTo [ht : TySl P t e] [hv : TyV P e agg n] (hx : opd g x = some (dSl n f' xs)) (hy : opd g hi = some (dInt kd j)) (h : 0 ≤ j ∧ j ≤ xs.length) :
    LocP P ⟨dst, .slice t x none (some hi) none, ty, pos, after, gd⟩ g N M (dSl n f' (xs.take j.toNat)) :=
  locP_of_run fun I a w hs hinv => by
    obtain ⟨b, cap, hp, h1, h2, h3, h4⟩ := opd_sound hs hx
    have hyv : a.eval hi = .int kd j := opd_sound hs hy
    have hr := dSl_part (lo := 0) (hi := j.toNat) (by omega) (by omega) h1 h2 h3 h4
    rw [List.drop_zero] at hr
    have hc : (0 ≤ j ∧ j ≤ (cap : Int)) := by omega
    refine ⟨_, ?_, hr⟩
    simp [execOp, Instr.sliceAt, Instr.slice, hp, hyv, run_underlying ht.eq, Instr.sliceBounds, Instr.sliceBound, asIntOf, hc, run_sizeOf hv]

/-- x[i:j] -/
theorem loc_slice [ht : TySl P t e] [hv : TyV P e agg n] (hx : opd g x = some (dSl n f' xs)) (hy : opd g lo = some (dInt kd i)) (hz : opd g hi = some (dInt kd' j)) (h : 0 ≤ i ∧ i ≤ j ∧ j ≤ xs.length) :
    LocP P ⟨dst, .slice t x (some lo) (some hi) none, ty, pos, after, gd⟩ g N M (dSl n f' ((xs.take j.toNat).drop i.toNat)) :=
  locP_of_run fun I a w hs hinv => by
    obtain ⟨b, cap, hp, h1, h2, h3, h4⟩ := opd_sound hs hx
    have hyv : a.eval lo = .int kd i := opd_sound hs hy
    have hzv : a.eval hi = .int kd' j := opd_sound hs hz
    have hr := dSl_part (lo := i.toNat) (hi := j.toNat) (by omega) (by omega) h1 h2 h3 h4
    have hc : (0 ≤ j ∧ j ≤ (cap : Int)) := by omega
    have hc2 : (0 ≤ i ∧ i ≤ max j 0) := by omega
    refine ⟨_, ?_, hr⟩
    simp [execOp, Instr.sliceAt, Instr.slice, hp, hyv, hzv, run_underlying ht.eq, Instr.sliceBounds, Instr.sliceBound, asIntOf, hc, hc2, run_sizeOf hv]

end
end

/-! ### Closures -/

/-- A function value of a known function, with what it has captured. -/
def dClo (f : FuncId) (ds : List D) : D := ⟨fun I v => ∃ cap : Array Value, v = .func (.func f) #[] cap ∧ relL ds I cap.toList, fun h ⟨c, e, r⟩ => ⟨c, e, relL_mono h r⟩⟩
instance (f : FuncId) (ds : List D) : One (dClo f ds) := ⟨fun ⟨_, h, _⟩ => by rw [h]; exact ⟨rfl, rfl⟩⟩

theorem toArray_app (vs : List Value) (cap : Array Value) : (vs ++ cap.toList).toArray = vs.toArray ++ cap := by
  apply Array.toList_inj.1
  simp

theorem loc_makeFunc {fn : FuncId} {xs : List Operand} {ds : List D} (hx : opds g xs = some ds) : LocP P ⟨dst, .makeFunc (.func fn) #[] xs.toArray, ty, pos, after, gd⟩ g N M (dClo fn ds) :=
  locP_of_run fun I a w hs hi => ⟨.func (.func fn) #[] (xs.map a.eval).toArray, by simp [execOp, Instr.makeFunc], _, rfl, by simpa using opds_sound hs hx⟩

/-- A function value that only computes: called with such arguments it gives such a result. -/
def dFun (P : Program) {ι : Type} (Ds : ι → List D) (d : ι → D) : D :=
  ⟨fun I v => ∃ fn cap, v = .func (.func fn) #[] cap ∧ TyFn P fn ∧ ∀ i (J : Imm) (M : List Res) (w : World) (vs : List Value), I.le J → relL (Ds i) J vs → Inv J M w →
      Calls P fn (vs.toArray ++ cap) w fun e w' => ∃ v, e = .returned v ∧ ∃ J', J.le J' ∧ (d i).rel J' v ∧ Inv J' M w',
   fun h ⟨fn, cap, e, h1, h2⟩ => ⟨fn, cap, e, h1, fun i J' M w vs hle => h2 i J' M w vs (h.trans hle)⟩⟩
instance {ι : Type} (Ds : ι → List D) (d : ι → D) : One (dFun P Ds d) := ⟨fun ⟨_, _, h, _⟩ => by rw [h]; exact ⟨rfl, rfl⟩⟩

theorem clo_fun {fn : FuncId} {ι : Type} {Cs : List D} {Ds : ι → List D} {d : ι → D} [hf : TyFn P fn] (h : ∀ i, SpecP P fn (Ds i ++ Cs) (d i)) : ∀ I v, (dClo fn Cs).rel I v → (dFun P Ds d).rel I v := by
  rintro I v ⟨cap, rfl, hr⟩
  refine ⟨fn, cap, rfl, hf, fun i J M w vs hle hv hi => ?_⟩
  have := h i J M w (vs ++ cap.toList) (relL_append hv (relL_mono hle hr)) hi
  rwa [toArray_app] at this

/-- A named function asL a value. -/
theorem val_fun {fn : FuncId} {ι : Type} {Ds : ι → List D} {d : ι → D} [hf : TyFn P fn] (h : ∀ i, SpecP P fn (Ds i) (d i)) : ∀ I v, (dVal (.func (.func fn) #[] #[])).rel I v → (dFun P Ds d).rel I v := by
  rintro I v rfl
  refine ⟨fn, #[], rfl, hf, fun i J M w vs hle hv hi => ?_⟩
  have := h i J M w vs hv hi
  simpa using this

/-- A call of a function value. -/
theorem loc_callFun {c : Operand} {xs : List Operand} {ats : Array TypeId} {ι : Type} {Ds : ι → List D} {d : ι → D} (i : ι) (hc : opd g c = some (dFun P Ds d)) (hx : opds g xs = some (Ds i)) :
    LocP P ⟨dst, .call ⟨.value c, xs.toArray, ats⟩, ty, pos, after, gd⟩ g N M (d i) := by
  constructor
  intro I a w K Q hsl hi hK
  obtain ⟨fn, cap, hcv, hf, h⟩ := opd_sound hsl hc
  unfold Oper.wp
  rw [execOp_call_slot hcv, run_callFunc hf]
  refine Calls.mono (h i I M w _ I.le_refl (opds_sound hsl hx) hi) ?_
  rintro e w' ⟨v, rfl, J, h1, h2, h3⟩
  exact hK v w' J h1 h2 h3

/-- A call of a closure whose function is known. -/
theorem loc_callClo {fn : FuncId} [hf : TyFn P fn] {c : Operand} {xs : List Operand} {ats : Array TypeId} {Cs Ds : List D} {d : D} (hs : SpecP P fn (Ds ++ Cs) d) (hc : opd g c = some (dClo fn Cs)) (hx : opds g xs = some Ds) :
    LocP P ⟨dst, .call ⟨.value c, xs.toArray, ats⟩, ty, pos, after, gd⟩ g N M d := by
  constructor
  intro I a w K Q hsl hi hK
  obtain ⟨cap, hcv, hcr⟩ := opd_sound hsl hc
  unfold Oper.wp
  rw [execOp_call_slot hcv, run_callFunc hf]
  have := hs I M w _ (relL_append (opds_sound hsl hx) hcr) hi
  rw [toArray_app] at this
  refine Calls.mono this ?_
  rintro e w' ⟨v, rfl, J, h1, h2, h3⟩
  exact hK v w' J h1 h2 h3

/-! ### make -/

theorem relL_replicate {I : Imm} {d : D} {v : Value} (h : d.rel I v) : ∀ m, relL (List.replicate m d) I (List.replicate m v)
  | 0 => trivial
  | m + 1 => ⟨h, relL_replicate h m⟩

theorem loc_makeSlice {t e : TypeId} [ht : TySl P t e] {bytes : Nat} {z : Value} [hz : TyZ P e bytes z] [hv : TyV P e false 1] {x y : Operand} {m : Int} (hx : opd g x = some (dInt .i64 m)) (hy : opd g y = some (dInt .i64 m)) (hm : 0 ≤ m ∧ m ≤ 17592186044416) (hb : m * bytes ≤ 281474976710656)
    {α : Type} (d : α → D) (e0 : α) (he : zeroDs z = [d e0]) (hzt : ∀ vs, z ≠ .tuple vs) :
    LocM P ⟨dst, .makeSlice t x y, ty, pos, after, gd⟩ g N [] (fun _ : Nat => True) (fun b => dVal (.slice (some ⟨b, 0, none⟩) m.toNat m.toNat)) (fun b => [rRow (.slice (some ⟨b, 0, none⟩) m.toNat m.toNat) e 1 (fun e => [d e]) (List.replicate m.toNat e0)]) := by
  constructor
  intro F I a w K Q hs hi hK
  have hxv : a.eval x = .int .i64 m := opd_sound hs hx
  have hyv : a.eval y = .int .i64 m := opd_sound hs hy
  obtain ⟨i, hin, hiz, his, hib⟩ := info_of_z hz hv
  have hzr := zeroDs_rel I z hzt
  rw [he] at hzr
  obtain ⟨z0, hz0⟩ : ∃ z0, z.cells.toList = [z0] := by
    have := relL_length hzr
    cases hc : z.cells.toList with
    | nil => rw [hc] at this; simp at this
    | cons z0 r =>
      rw [hc] at this
      cases r with
      | nil => exact ⟨z0, rfl⟩
      | cons => simp at this
  rw [hz0] at hzr
  have hzc : z.cells = #[z0] := by apply Array.toList_inj.1; simpa using hz0
  have hw : IntKind.i64.wrap m = m := IntWalk.i64_in _ (by omega)
  let ar : Array Value := (Array.range (m.toNat * 1)).map ((if m.toNat * 1 = 0 then #[] else z.cells)[· % (if m.toNat * 1 = 0 then #[] else z.cells).size]!)
  have har : ar.toList = List.replicate m.toNat z0 := by
    by_cases h0 : m.toNat = 0
    · simp [ar, h0]
    · simp only [ar, Nat.mul_one, if_neg h0, hzc]
      apply List.ext_getElem
      · simp
      · intro j h1 h2
        simp [Nat.mod_one]
  have hrun : (execOp a.eval ⟨dst, .makeSlice t x y, ty, pos, after, gd⟩).run P w = .ok (.value (.slice (some ⟨w.heap.size, 0, none⟩) m.toNat m.toNat)) (w.alloc (.cells ar e)) := by
    have hb' : ¬ (281474976710656 < (bytes : Int) * m) := by rw [Int.mul_comm]; omega
    have hm0 : ¬ (m < 0) := by omega
    have hask : ∀ n, (askRoom n).run P w = .ok () w := by intro n; unfold askRoom; split <;> rfl
    by_cases h0 : m.toNat = 0
    · simp [execOp, Instr.makeSlice, hxv, hyv, asInt, asIntOf, run_underlying ht.eq, typeInfo, hin, hib, hw, hb', hm0, hask, run_sizeOf hv, h0, newRow, ar]
    · simp [execOp, Instr.makeSlice, hxv, hyv, asInt, asIntOf, run_underlying ht.eq, typeInfo, zeroValue, hin, hiz, hib, hw, hb', hm0, hask, run_sizeOf hv, h0, newRow, ar]
  unfold Oper.wp
  rw [hrun]
  refine hK w.heap.size _ _ I trivial I.le_refl rfl (hi.allocOwn _ _ rfl ⟨w.heap.size, m.toNat, ar, by simp, rfl, by simp [ar], by simp, by simp only [maxLen]; omega, by unfold lenMax; simp; omega, fun _ _ => rfl, ?_⟩)
  rw [flatMap_single, List.map_replicate, har]
  simp only [List.length_replicate, Nat.mul_one]
  have := relL_replicate hzr.1 m.toNat
  rwa [List.take_of_length_le (by simp)]

end Go.Q

namespace Go.Q

theorem d_int {k : IntKind} {m n : Int} (h : m = n) : ∀ I v, (dInt k m).rel I v → (dInt k n).rel I v := fun _ _ e => h ▸ e
theorem d_B {p q : Prop} (h : p ↔ q) : ∀ I v, (dB p).rel I v → (dB q).rel I v := fun _ _ ⟨b, e, hb⟩ => ⟨b, e, hb.trans h⟩
theorem d_any {d : D} : ∀ I v, d.rel I v → dTop.rel I v := fun _ _ _ => trivial
theorem d_eq {d d' : D} (h : d = d') : ∀ I v, d.rel I v → d'.rel I v := fun _ _ e => h ▸ e
theorem d_nil {α : Type} {n : Nat} {f : α → List D} : ∀ I v, (dVal (.slice none 0 0)).rel I v → (dSl n f ([] : List α)).rel I v := by
  rintro I v rfl
  exact ⟨none, 0, rfl, Nat.le_refl _, Nat.zero_le _, Nat.zero_le _, fun i x hx => by simp at hx⟩
theorem relL_imp {I : Imm} : ∀ {ds es : List D} {vs : List Value}, ds.length = es.length → (∀ (i : Nat) d e, ds[i]? = some d → es[i]? = some e → ∀ v, d.rel I v → e.rel I v) → relL ds I vs → relL es I vs
  | [], [], [], _, _, _ => trivial
  | d :: ds, e :: es, v :: vs, hl, h, ⟨h1, h2⟩ => ⟨h 0 d e rfl rfl v h1, relL_imp (by simpa using hl) (fun i d' e' hd he => h (i + 1) d' e' (by simpa using hd) (by simpa using he)) h2⟩
  | [], _ :: _, _, hl, _, _ => by simp at hl
  | _ :: _, [], _, hl, _, _ => by simp at hl
  | [], [], _ :: _, _, _, h => by cases h
  | _ :: _, _ :: _, [], _, _, h => by cases h
theorem d_tup1 {a a' : D} (h1 : ∀ I v, a.rel I v → a'.rel I v) : ∀ I v, (dTup [a]).rel I v → (dTup [a']).rel I v := by
  rintro I v ⟨cs, e, hr⟩
  refine ⟨cs, e, ?_⟩
  cases hc : cs.toList with
  | nil => rw [hc] at hr; cases hr
  | cons u us => rw [hc] at hr; exact ⟨h1 _ _ hr.1, hr.2⟩
theorem relL2 {a b : D} {I : Imm} {vs : List Value} (h : relL [a, b] I vs) : ∃ u v, vs = [u, v] ∧ a.rel I u ∧ b.rel I v := by
  match vs, h with
  | [u, v], h => exact ⟨u, v, rfl, h.1, h.2.1⟩
  | [], h => cases h
  | [_], h => cases h.2
  | _ :: _ :: _ :: _, h => cases h.2.2
theorem d_tup2 {a a' b b' : D} (h1 : ∀ I v, a.rel I v → a'.rel I v) (h2 : ∀ I v, b.rel I v → b'.rel I v) : ∀ I v, (dTup [a, b]).rel I v → (dTup [a', b']).rel I v := by
  rintro I v ⟨cs, e, hr⟩
  obtain ⟨u, w, hc, g1, g2⟩ := relL2 hr
  exact ⟨cs, e, by rw [hc]; exact ⟨h1 _ _ g1, h2 _ _ g2, trivial⟩⟩
theorem dSl_len {α : Type} {n : Nat} {f : α → List D} {xs : List α} {I : Imm} {v : Value} (h : (dSl n f xs).rel I v) : xs.length ≤ 17592186044416 := by
  obtain ⟨_, _, _, _, _, h, _⟩ := h
  exact h
theorem d_sl {α β : Type} {n : Nat} {f : α → List D} {h : β → List D} {xs : List α} {ys : List β} (e : xs.map f = ys.map h) : ∀ I v, (dSl n f xs).rel I v → (dSl n h ys).rel I v := by
  rintro I v ⟨a, cap, h1, h2, h3, h4, h5⟩
  have hl : xs.length = ys.length := by have := congrArg List.length e; simpa using this
  rw [hl] at h1 h2 h4
  refine ⟨a, cap, h1, h2, h3, h4, fun i y hy => ?_⟩
  have hi : i < ys.length := (List.getElem?_eq_some_iff.1 hy).1
  have hx : xs[i]? = some (xs[i]'(by omega)) := by simp [hl, hi]
  have hfe : f (xs[i]'(by omega)) = h y := by
    have := congrArg (fun l => l[i]?) e
    simp only [List.getElem?_map, hx, hy, Option.map_some, Option.some.injEq] at this
    exact this
  have := h5 i _ hx
  rwa [hfe] at this
theorem mul_bd {a b A B : Int} (h1 : 0 ≤ a) (h2 : a ≤ A) (h3 : 0 ≤ b) (h4 : b ≤ B) : 0 ≤ a * b ∧ a * b ≤ A * B :=
  ⟨Int.mul_nonneg h1 h3, Int.mul_le_mul h2 h4 h3 (by omega)⟩

section
variable {P : Program} {f : FuncId} {N : Nat} {I0 : Imm} {g : G} {M : List Res} {k : List Item} {fn : Func}

theorem run_ret3P {t u s : Tmp} {d : D} (hf : P.funcs[f]? = some fn) (hr : fn.results = #[.tmp t, .tmp u, .tmp s]) {d1 d2 d3 : D} (hd1 : look g t = some d1) (hd2 : look g u = some d2) (hd3 : look g s = some d3) (hle : ∀ I v, (dTup [d1, d2, d3]).rel I v → d.rel I v) :
    Run P f N I0 (PostP I0 d M) g M (.code .ret :: k) :=
  ⟨fun _ a w _ _ hb hk hl hs hi => goes_ret hf hb hk (results_tmp3 hr a.tmps P w) ⟨_, rfl, _, hl, hle _ _ ⟨_, rfl, hs.slot t d1 hd1, hs.slot u d2 hd2, hs.slot s d3 hd3, trivial⟩, hi⟩⟩
end
end Go.Q

namespace Go.Q

variable {P : Program} {f : FuncId} {N : Nat} {I0 : Imm} {R : Goal} {g : G} {M : List Res} {k : List Item} {fn : Func}
variable {dst : Option Tmp} {ty : TypeId} {pos : String} {after : Array Edge} {gd : Option (Nat × Bool)}

/-! ### Results -/

inductive ResOk (P : Program) (g : G) (M : List Res) : List ResultVar → List D → Prop where
  | nil : ResOk P g M [] []
  | tmp {t : Tmp} {d : D} {rs : List ResultVar} {ds : List D} : look g t = some d → ResOk P g M rs ds → ResOk P g M (.tmp t :: rs) (d :: ds)
  | cellN {p : Tmp} {ty T : TypeId} {b n : Nat} {es : List D} {rs : List ResultVar} {ds : List D} [TyV P ty true n] : look g p = some (dVal (ptr b 0)) → In (rCells b T es) M → Nat.beq n es.length = true → ResOk P g M rs ds → ResOk P g M (.cell p ty :: rs) (dAgg es :: ds)
  | cell1 {p : Tmp} {ty T : TypeId} {b : Nat} {e : D} {rs : List ResultVar} {ds : List D} [TyV P ty false 1] : look g p = some (dVal (ptr b 0)) → In (rCells b T [e]) M → ResOk P g M rs ds → ResOk P g M (.cell p ty :: rs) (e :: ds)

def resOne (tmps : Array Value) : ResultVar → Sem Value
  | .tmp t => pure (tmps.getD t undef)
  | .cell p t => do loadVar t (← asAddr (tmps.getD p undef))

theorem results_eq (fn : Func) (tmps : Array Value) : results fn tmps = (do let vs ← fn.results.mapM (resOne tmps); pure (if h : vs.size = 1 then vs[0] else .tuple vs)) := by
  unfold results
  congr 1
theorem ResOk.run {rs : List ResultVar} {ds : List D} (h : ResOk P g M rs ds) {N : Nat} {I : Imm} {a : Act} {w : World} (hs : Slots g N I a) (hi : Inv I M w) :
    ∃ vs : List Value, relL ds I vs ∧ (rs.mapM (resOne a.tmps)).run P w = .ok vs w := by
  induction h with
  | nil => exact ⟨[], trivial, by simp⟩
  | @tmp t d rs ds ht _ ih =>
    obtain ⟨vs, h1, h2⟩ := ih
    exact ⟨_ :: vs, ⟨hs.slot t d ht, h1⟩, by simp only [List.mapM_cons, Sem.run_bind, resOne, Sem.run_pure, Result.andThen_ok, h2]⟩
  | @cellN p ty T b n es rs ds hty hp hm hn _ ih =>
    obtain ⟨vs, h1, h2⟩ := ih
    obtain ⟨cs, hb, hr⟩ := own_cells hi hm.mem
    have hpv : a.tmps.getD p undef = .pointer (some ⟨b, 0, none⟩) := hs.slot p _ hp
    have hne := Nat.eq_of_beq_eq_true hn
    have hl := own_load (P := P) (M := M) hb hr (k := 0) (n := n) (by omega)
    refine ⟨.agg ((cs.toList.drop 0).take n).toArray :: vs, ⟨⟨_, rfl, ?_⟩, h1⟩, ?_⟩
    · have h3 := relL_take n hr
      rw [hne, List.take_length] at h3
      simpa [hne] using h3
    · have h4 : (resOne a.tmps (.cell p ty)).run P w = .ok (.agg ((cs.toList.drop 0).take n).toArray) w := by
        simp only [resOne, Sem.run_bind, hpv, asAddr, Sem.run_pure, Result.andThen_ok, loadVar, run_isAgg hty, run_sizeOf hty, if_true, hl]
      simp only [List.mapM_cons, Sem.run_bind, h4, Result.andThen_ok, h2, Sem.run_pure]
  | @cell1 p ty T b e rs ds hty hp hm _ ih =>
    obtain ⟨vs, h1, h2⟩ := ih
    obtain ⟨cs, hb, hr⟩ := own_cells hi hm.mem
    have hpv : a.tmps.getD p undef = .pointer (some ⟨b, 0, none⟩) := hs.slot p _ hp
    obtain ⟨v, hv, hd⟩ := relL_get hr 0 e rfl
    have hc : w.cell? ⟨b, 0, none⟩ = some v := by simp at hv; simp [World.cell?, hb, hv]
    have hl : (load (⟨b, 0, none⟩ : Addr)).run P w = .ok v w := by rw [run_load, hc]
    refine ⟨v :: vs, ⟨hd, h1⟩, ?_⟩
    have h4 : (resOne a.tmps (.cell p ty)).run P w = .ok v w := by
      simp only [resOne, Sem.run_bind, hpv, asAddr, Sem.run_pure, Result.andThen_ok, loadVar, run_isAgg hty, Bool.false_eq_true, if_false, hl]
    simp only [List.mapM_cons, Sem.run_bind, h4, Result.andThen_ok, h2, Sem.run_pure]

def retD : List D → D
  | [d] => d
  | ds => dTup ds

theorem results_ok {rs : List ResultVar} {ds : List D} (hr : fn.results = rs.toArray) (h : ResOk P g M rs ds) {N : Nat} {I : Imm} {a : Act} {w : World} (hs : Slots g N I a) (hi : Inv I M w) :
    ∃ v, (results fn a.tmps).run P w = .ok v w ∧ (retD ds).rel I v := by
  obtain ⟨vs, h1, h2⟩ := h.run hs hi
  have h3 : (results fn a.tmps).run P w = .ok (if h : vs.toArray.size = 1 then vs.toArray[0] else .tuple vs.toArray) w := by
    rw [results_eq, hr, Array.mapM_eq_mapM_toList]
    simp only [Sem.run_bind, Sem.run_map, h2, Result.andThen_ok]
    rfl
  refine ⟨_, h3, ?_⟩
  match ds, vs, h1 with
  | [], [], _ => exact ⟨#[], rfl, trivial⟩
  | [d], [v], h1 => exact h1.1
  | d :: e :: ds, u :: v :: vs, h1 => exact ⟨(u :: v :: vs).toArray, by simp, by simpa using h1⟩

theorem run_retG {rs : List ResultVar} {ds : List D} {σ : Type} {φ : σ → Prop} {d : σ → D} {Mout : σ → List Res} {F : List Res} (s : σ) (hf : P.funcs[f]? = some fn) (hr : fn.results = rs.toArray) (h : ResOk P g M rs ds)
    (hle : ∀ I v, (retD ds).rel I v → (d s).rel I v) (hφ : φ s) (hM : ∀ I w, Inv I M w → Inv I (Mout s ++ F) w) : Run P f N I0 (Post I0 φ d Mout F) g M (.code .ret :: k) :=
  ⟨fun _ a w _ _ hb hk hl hs hi => let ⟨_, h1, h2⟩ := results_ok hr h hs hi; goes_ret hf hb hk h1 ⟨_, rfl, s, hφ, _, hl, hle _ _ h2, hM _ _ hi⟩⟩

theorem run_retGP {rs : List ResultVar} {ds : List D} {d : D} {M0 : List Res} (hf : P.funcs[f]? = some fn) (hr : fn.results = rs.toArray) (h : ResOk P g M rs ds) (hle : ∀ I v, (retD ds).rel I v → d.rel I v) (hM : ∀ I w, Inv I M w → Inv I M0 w) :
    Run P f N I0 (PostP I0 d M0) g M (.code .ret :: k) :=
  ⟨fun _ a w _ _ hb hk hl hs hi => let ⟨_, h1, h2⟩ := results_ok hr h hs hi; goes_ret hf hb hk h1 ⟨_, rfl, _, hl, hle _ _ h2, hM _ _ hi⟩⟩

/-- Owned cells are let go. -/
theorem inv_tail {I : Imm} {r : Res} {M : List Res} {w : World} (h : Inv I (r :: M) w) : Inv I M w := h.sub (List.sublist_cons_self ..)

/-! ### A whole struct stored -/

theorem splice_rel {I : Imm} {ds es : List D} {cs vs : List Value} {k : Nat} (h : relL ds I cs) (h' : relL es I vs) : relL (ds.take k ++ es ++ ds.drop (k + es.length)) I (cs.take k ++ vs ++ cs.drop (k + vs.length)) := by
  rw [← relL_length h']
  exact relL_append (relL_append (relL_take k h) h') (relL_drop _ h)

theorem loc_storeN {t T : TypeId} {n : Nat} [ht : TyV P t true n] {x y : Operand} {b kk : Nat} {ds es : List D} [ho : OneAll es] (hx : opd g x = some (dVal (ptr b kk))) (hy : opd g y = some (dAgg es)) (hk : (Nat.beq es.length n && Nat.ble (kk + n) ds.length) = true) :
    LocM P ⟨none, .store t x y, ty, pos, after, gd⟩ g N [rCells b T ds] (fun _ : Unit => True) (fun _ => dTop) (fun _ => [rCells b T (ds.take kk ++ es ++ ds.drop (kk + es.length))]) := by
  constructor
  intro F I a w K Q hs hi hK
  have hp : a.eval x = .pointer (some ⟨b, kk, none⟩) := opd_sound hs hx
  obtain ⟨us, hyv, hd⟩ := opd_sound hs hy
  obtain ⟨cs, hb, hr⟩ := own_cells hi (List.mem_cons_self ..)
  simp only [Bool.and_eq_true] at hk
  have hen := Nat.eq_of_beq_eq_true hk.1
  have hkl := Nat.le_of_ble_eq_true hk.2
  have hlen := relL_length hr
  have hul := relL_length hd
  simp at hlen hul
  have hst := run_storeCells_at P b kk T us.toList 0 cs w hb (by simp; omega) (ho.all hd)
  simp only [Nat.add_zero] at hst
  have hrun : (execOp a.eval ⟨none, .store t x y, ty, pos, after, gd⟩).run P w = .ok .skip (w.setRow b (cs.toList.take kk ++ us.toList ++ cs.toList.drop (kk + us.toList.length)).toArray) := by
    have hsz : us.size = n := by omega
    have hcc : (Value.agg us).cells = us := rfl
    simp only [execOp, hp, hyv, Instr.storeAt, Instr.sureAddr, storeVar, Sem.run_bind, Sem.run_pure, Result.andThen_ok, run_sizeOf ht, hcc, hsz, ne_eq, not_true_eq_false, if_false, hst]
  unfold Oper.wp
  rw [hrun]
  refine hK () undef _ I trivial I.le_refl trivial ?_
  exact hi.write (b := b) rfl rfl rfl rfl rfl (fun c hc _ => setRow_other w b c _ hc) (setRow_heap w b cs _ T _ hb) ⟨_, rfl, splice_rel hr hd⟩

/-! ### A slice held against nil -/

theorem loc_eqlNil {t t' : TypeId} {e : TypeId} [ht : TySl P t e] {x : Operand} {α : Type} {n : Nat} {f' : α → List D} {xs : List α} (hx : opd g x = some (dSl n f' xs)) :
    LocM P ⟨dst, .binOp .eql t x (.const (.slice none 0 0)) t', ty, pos, after, gd⟩ g N [] (fun p : Prop => p → xs = []) (fun p => dB p) (fun _ => []) := by
  constructor
  intro F I a w K Q hs hi hK
  obtain ⟨b, cap, hp, _, _, _, hel⟩ := opd_sound hs hx
  have hrun : (execOp a.eval ⟨dst, .binOp .eql t x (.const (.slice none 0 0)) t', ty, pos, after, gd⟩).run P w = .ok (.value (.bool b.isNone)) w := by
    have hq : a.eval (.const (.slice none 0 0)) = .slice none 0 0 := rfl
    have e1 : eqGuard .eql t x (.const (.slice none 0 0)) (.slice b xs.length cap) (.slice none 0 0) = pure () := by unfold eqGuard; rfl
    have h : (binOp .eql t (.slice b xs.length cap) (.slice none 0 0)).run P w = ((Op.equalIn 10000 t (.slice b xs.length cap) (.slice none 0 0)).run P w).andThen fun b w' => .ok (.bool b) w' := by
      simp only [binOp]
      simp [Op.equal, Op.maxDepth]
    have h2 : ∀ d, (Op.equalIn (d + 1) t (.slice b xs.length cap) (.slice none 0 0)).run P w = .ok b.isNone w := by
      intro d
      simp only [Op.equalIn, Sem.run_bind, run_underlying ht.eq, Result.andThen_ok]
      cases b <;> rfl
    have h2 := h2 9999
    simp only [execOp, hp, hq, e1, Sem.run_bind, Sem.run_pure, Result.andThen_ok, h, h2]
  unfold Oper.wp
  rw [hrun]
  refine hK (b.isNone = true) _ _ I (fun hn => ?_) I.le_refl ⟨_, rfl, Iff.rfl⟩ hi
  cases xs with
  | nil => rfl
  | cons y ys =>
    obtain ⟨_, p, hpp, _⟩ := hel 0 y rfl
    subst hpp
    simp at hn

/-! ### An empty literal asL a row -/

theorem loc_build0 {t e : TypeId} [ht : TySl P t e] {bytes n : Nat} {z : Value} {agg : Bool} [hz : TyZ P e bytes z] [hv : TyV P e agg n] {α : Type} (f' : α → List D) :
    LocM P ⟨dst, .buildSlice t 0 #[], ty, pos, after, gd⟩ g N [] (fun _ : Nat => True) (fun b => dVal (.slice (some ⟨b, 0, none⟩) 0 0)) (fun b => [rRow (.slice (some ⟨b, 0, none⟩) 0 0) e n f' ([] : List α)]) := by
  constructor
  intro F I a w K Q hs hi hK
  have hrun : (execOp a.eval ⟨dst, .buildSlice t 0 #[], ty, pos, after, gd⟩).run P w = .ok (.value (.slice (some ⟨w.heap.size, 0, none⟩) 0 0)) (w.alloc (.cells #[] e)) := by
    simp [execOp, Instr.buildSlice, run_underlying ht.eq, run_sizeOf hv, Instr.fill, newRow]
    congr 2
    exact Array.eq_empty_of_size_eq_zero (by simp)
  unfold Oper.wp
  rw [hrun]
  exact hK w.heap.size _ _ I trivial I.le_refl rfl (hi.allocOwn _ _ rfl ⟨w.heap.size, 0, #[], by simp, rfl, by simp, by simp, Nat.zero_le _, Nat.zero_le _, (fun x hx => by cases hx), by rw [show (#[] : Array Value).toList = [] from rfl, List.take_nil]; trivial⟩)

/-! ### A new resource in a drawn region -/

theorem none_ok {I : Imm} {M : List Res} {w : World} (h : Inv I M w) : Inv I (rNone :: M) w :=
  ⟨h.os, h.tape, h.output, h.imm, fun r hr => by
    rcases List.mem_cons.1 hr with rfl | hr
    · exact trivial
    · exact h.own r hr, h.apart⟩

theorem run_addNone (h : Run P f N I0 R g (rNone :: M) k) : Run P f N I0 R g M k :=
  run_weaken (fun _ _ _ hs hi => ⟨hs, none_ok hi⟩) h

theorem locM_new {o : Oper} {σ : Type} {φ : σ → Prop} {d : σ → D} {r : σ → Res} (h : LocM P o g N [] φ d (fun s => [r s])) : LocM P o g N [rNone] φ d (fun s => [r s]) :=
  ⟨fun F I a w K Q hs hi hK => h.go F I a w K Q hs (inv_tail hi) hK⟩

end Go.Q

namespace Go.Q

variable {P : Program} {f : FuncId} {N : Nat} {I0 : Imm} {R : Goal} {g : G} {M : List Res} {k : List Item}
variable {ty : TypeId} {pos : String} {after : Array Edge} {ops : Array Oper} {rest : List Oper} {C : Res → List Res} {F : List Res} {x y : Operand} {dst : Tmp}

theorem run_store1 {t T : TypeId} [ht : TyV P t false 1] {b kk : Nat} {ds : List D} {d : D} [ho : One d] (hx : opd g x = some (dVal (ptr b kk))) (hy : opd g y = some d) (hs : Sel (rCells b T ds) M C F) (hk : Nat.blt kk ds.length = true)
    (h : RunL P f N I0 R g (C (rCells b T (ds.set kk d))) ops rest k) : RunL P f N I0 R g M ops (⟨none, .store t x y, ty, pos, after, none⟩ :: rest) k :=
  run_upd0 (loc_store1 hx hy hk) hs fun _ _ => h

theorem run_storeN {t T : TypeId} {n : Nat} [ht : TyV P t true n] {b kk : Nat} {ds es : List D} [ho : OneAll es] (hx : opd g x = some (dVal (ptr b kk))) (hy : opd g y = some (dAgg es)) (hs : Sel (rCells b T ds) M C F) (hk : (Nat.beq es.length n && Nat.ble (kk + n) ds.length) = true)
    (h : RunL P f N I0 R g (C (rCells b T (ds.take kk ++ es ++ ds.drop (kk + es.length)))) ops rest k) : RunL P f N I0 R g M ops (⟨none, .store t x y, ty, pos, after, none⟩ :: rest) k :=
  run_upd0 (loc_storeN hx hy hk) hs fun _ _ => h

section
variable {t e : TypeId} {bytes : Nat} {z : Value} {agg : Bool} {n : Nat} {α : Type} {f' : α → List D} {xs ys : List α} {v : Value}

theorem run_append [ht : TySl P t e] [hz : TyZ P e bytes z] [hv : TyV P e agg n] [h1 : ∀ x, OneAll (f' x)] (hx : opd g x = some (dVal v)) (hs : Sel (rRow v e n f' xs) M C F) (hy : opd g y = some (dSl n f' ys)) (hzn : z.cells.size = n)
    (hb : (xs.length + ys.length) * bytes ≤ 140737488355328) (hl : xs.length + ys.length ≤ lenMax) (hN : Nat.blt dst N = true) (h : ∀ v', RunL P f N I0 R ((dst, dVal v') :: g) (C (rRow v' e n f' (xs ++ ys))) ops rest k) :
    RunL P f N I0 R g M ops (⟨some dst, .call ⟨.builtin .append, #[x, y], #[t, t]⟩, ty, pos, after, none⟩ :: rest) k :=
  run_upd (loc_append hx hy hzn hb hl) hN hs fun v' _ => h v'

theorem run_append1 {ds : List D} {e0 : α} [ht : TySl P t e] [hz : TyZ P e bytes z] [hv : TyV P e agg n] [h1 : ∀ x, OneAll (f' x)] (hx : opd g x = some (dVal v)) (hs : Sel (rRow v e n f' xs) M C F) (hy : opd g y = some (dSl n (fun l : List D => l) [ds])) (he : f' e0 = ds) (hzn : z.cells.size = n)
    (hb : (xs.length + 1) * bytes ≤ 140737488355328) (hl : xs.length + 1 ≤ lenMax) (hN : Nat.blt dst N = true) (h : ∀ v', RunL P f N I0 R ((dst, dVal v') :: g) (C (rRow v' e n f' (xs ++ [e0]))) ops rest k) :
    RunL P f N I0 R g M ops (⟨some dst, .call ⟨.builtin .append, #[x, y], #[t, t]⟩, ty, pos, after, none⟩ :: rest) k :=
  run_upd (loc_append1 e0 hx hy he hzn hb hl) hN hs fun v' _ => h v'
end

theorem run_storeRow1 {t T : TypeId} [ht : TyV P t false 1] {α : Type} {xs : List α} {b len cap i : Nat} {d : α → D} {d0 : D} {e0 : α} [ho : One d0] (hx : opd g x = some (dVal (ptr b (i * 1)))) (hs : Sel (rRow (.slice (some ⟨b, 0, none⟩) len cap) T 1 (fun e => [d e]) xs) M C F) (hy : opd g y = some d0) (he : d e0 = d0) (hi : i < xs.length)
    (h : RunL P f N I0 R g (C (rRow (.slice (some ⟨b, 0, none⟩) len cap) T 1 (fun e => [d e]) (xs.set i e0))) ops rest k) : RunL P f N I0 R g M ops (⟨none, .store t x y, ty, pos, after, none⟩ :: rest) k :=
  run_upd0 (loc_storeRow1 e0 hx hy he hi) hs fun _ _ => h

/-- A call that turns one resource. -/
theorem run_callM {fn : FuncId} [hf : TyFn P fn] {xs : List Operand} {ats : Array TypeId} {Ds : List D} {r : Res} {σ : Type} {φ : σ → Prop} {d : σ → D} {r' : σ → Res} (hx : opds g xs = some Ds) (hs : Sel r M C F) (hsp : Spec P fn Ds [r] φ d (fun s => [r' s])) (hN : Nat.blt dst N = true)
    (h : ∀ s, φ s → RunL P f N I0 R ((dst, d s) :: g) (C (r' s)) ops rest k) : RunL P f N I0 R g M ops (⟨some dst, .call ⟨.value (.func fn), xs.toArray, ats⟩, ty, pos, after, none⟩ :: rest) k :=
  run_upd (loc_callM hsp hx) hN hs h

/-- A call that makes one resource. -/
theorem run_callN {fn : FuncId} [hf : TyFn P fn] {xs : List Operand} {ats : Array TypeId} {Ds : List D} {σ : Type} {φ : σ → Prop} {d : σ → D} {r' : σ → Res} (hx : opds g xs = some Ds) (hsp : Spec P fn Ds [] φ d (fun s => [r' s])) (hN : Nat.blt dst N = true)
    (h : ∀ s, φ s → RunL P f N I0 R ((dst, d s) :: g) (r' s :: M) ops rest k) : RunL P f N I0 R g M ops (⟨some dst, .call ⟨.value (.func fn), xs.toArray, ats⟩, ty, pos, after, none⟩ :: rest) k :=
  run_new (loc_callM hsp hx) hN h

end Go.Q

namespace Go.Q

section
variable {P : Program} {N : Nat} {g : G} {σ : Type} {l : List Oper} {us : List Info} {C : Ch σ}
variable {fs : List (Nat × (σ → D) × (σ → D))} {vs : List (List (σ → Res))} {os : List (Nat × (σ → D))} {i : Nat} {M : List Res} {I0 : Imm} {f : FuncId} {R : Goal} {k : List Item}
variable {id : Nat} {rest : List Oper} {urest : List Info} {dst : Tmp} {op : Op} {ty : TypeId} {pos : String} {after : Array Edge} {need : List (Nat × Option (Nat × Bool))} {anc : List Nat} {d : σ → D} {c : σ → G}

inductive CtxR (g : G) (fs : List (Nat × (σ → D) × (σ → D))) (s : σ) : List (Nat × Option (Nat × Bool)) → G → Prop where
  | nil : CtxR g fs s [] []
  | op {t j : Nat} {d u : σ → D} {need : List (Nat × Option (Nat × Bool))} {c : G} : lk fs j = some (d, u) → CtxR g fs s need c → CtxR g fs s ((t, some (j, false)) :: need) ((t, d s) :: c)
  | opU {t j : Nat} {d u : σ → D} {need : List (Nat × Option (Nat × Bool))} {c : G} : lk fs j = some (d, u) → CtxR g fs s need c → CtxR g fs s ((t, some (j, true)) :: need) ((t, u s) :: c)
  | g {t : Nat} {d : D} {need : List (Nat × Option (Nat × Bool))} {c : G} : look g t = some d → CtxR g fs s need c → CtxR g fs s ((t, none) :: need) ((t, d) :: c)

theorem CtxR.eq {s : σ} {c : G} (h : CtxR g fs s need c) : ctx g (lkF fs) (lkU fs) need s = c := by
  induction h with
  | nil => rfl
  | op h _ ih => simp only [ctx, List.map_cons, lkF, h, Option.map_some, Option.getD_some] at ih ⊢; rw [ih]
  | opU h _ ih => simp only [ctx, List.map_cons, lkU, h, Option.map_some, Option.getD_some] at ih ⊢; rw [ih]
  | g h _ ih => simp only [ctx, List.map_cons, h, Option.getD_some] at ih ⊢; rw [ih]

theorem dq_pure (hix : nElem C.X i = false) (hcx : ∀ s, CtxR g fs s need (c s))
    (h : ∀ s, C.good anc s → ∀ M, LocP P ⟨some dst, op, ty, pos, after, none⟩ (c s) N M (d s)) (hc : AllX C.X fun x => nElem anc x = true ∨ ∀ s s', C.E x s s' → d s = d s')
    (next : DR P f N I0 R g M l us C id k ((i, d, d) :: fs) vs ((dst, d) :: os) (i + 1) rest urest) :
    DR P f N I0 R g M l us C id k fs vs os i (⟨some dst, op, ty, pos, after, none⟩ :: rest) (⟨need, anc, none⟩ :: urest) :=
  dr_pure hix hc (fun s hs M => by rw [(hcx s).eq]; exact h s hs M) next

theorem dq_read {r p : Nat} {v : σ → Res} {old : List (σ → Res)} (hix : nElem C.X i = false) (hcx : ∀ s, CtxR g fs s need (c s)) (hv : vs[r]? = some (v :: old)) (hp : old.length = p)
    (h : ∀ s, C.good anc s → ∀ M, In (v s) M → LocP P ⟨some dst, op, ty, pos, after, none⟩ (c s) N M (d s)) (hc : AllX C.X fun x => nElem anc x = true ∨ ∀ s s', C.E x s s' → d s = d s')
    (next : DR P f N I0 R g M l us C id k ((i, d, d) :: fs) vs ((dst, d) :: os) (i + 1) rest urest) :
    DR P f N I0 R g M l us C id k fs vs os i (⟨some dst, op, ty, pos, after, none⟩ :: rest) (⟨need, anc, some (r, p, false)⟩ :: urest) :=
  dr_read hix hv hp hc (fun s hs M hm => by rw [(hcx s).eq]; exact h s hs M hm) next

theorem dq_write {r p : Nat} {v v' : σ → Res} {old : List (σ → Res)} (hix : nElem C.X i = false) (hcx : ∀ s, CtxR g fs s need (c s)) (hv : vs[r]? = some (v :: old)) (hp : old.length = p)
    (h : ∀ s, C.good anc s → LocM P ⟨some dst, op, ty, pos, after, none⟩ (c s) N [v s] (fun _ : Unit => True) (fun _ => d s) (fun _ => [v' s])) (hc : AllX C.X fun x => nElem anc x = true ∨ ∀ s s', C.E x s s' → d s = d s' ∧ v' s = v' s')
    (next : DR P f N I0 R g M l us C id k ((i, d, d) :: fs) (vs.set r (v' :: v :: old)) ((dst, d) :: os) (i + 1) rest urest) :
    DR P f N I0 R g M l us C id k fs vs os i (⟨some dst, op, ty, pos, after, none⟩ :: rest) (⟨need, anc, some (r, p, true)⟩ :: urest) :=
  dr_write hix hv hp hc (fun s hs => by rw [(hcx s).eq]; exact h s hs) next

theorem dq_write0 {r p : Nat} {v v' : σ → Res} {old : List (σ → Res)} (hix : nElem C.X i = false) (hcx : ∀ s, CtxR g fs s need (c s)) (hv : vs[r]? = some (v :: old)) (hp : old.length = p)
    (h : ∀ s, C.good anc s → LocM P ⟨none, op, ty, pos, after, none⟩ (c s) N [v s] (fun _ : Unit => True) (fun _ => dTop) (fun _ => [v' s])) (hc : AllX C.X fun x => nElem anc x = true ∨ ∀ s s', C.E x s s' → v' s = v' s')
    (next : DR P f N I0 R g M l us C id k ((i, (fun _ => dTop), (fun _ => dTop)) :: fs) (vs.set r (v' :: v :: old)) os (i + 1) rest urest) :
    DR P f N I0 R g M l us C id k fs vs os i (⟨none, op, ty, pos, after, none⟩ :: rest) (⟨need, anc, some (r, p, true)⟩ :: urest) :=
  dr_write0 hix hv hp hc (fun s hs => by rw [(hcx s).eq]; exact h s hs) next

theorem LocM.map {o : Oper} {c : G} {Min : List Res} {τ : Type} {ψ : τ → Prop} {d : τ → D} {Mo : τ → List Res} {φ : σ → Prop} {d' : σ → D} {Mo' : σ → List Res} (up : τ → σ) (h : LocM P o c N Min ψ d Mo) (hφ : ∀ t, ψ t → φ (up t)) (hd : ∀ t, d' (up t) = d t) (hm : ∀ t, Mo' (up t) = Mo t) :
    LocM P o c N Min φ d' Mo' :=
  ⟨fun F I a w K Q hs hi hK => h.go F I a w K Q hs hi fun t v w' J ht hle hv hi' => hK (up t) v w' J (hφ t ht) hle (by rw [hd]; exact hv) (by rw [hm]; exact hi')⟩

def Ch.none : Ch Unit := ⟨[], fun _ _ => True, fun _ _ _ => True, fun _ _ _ _ h => absurd h (by simp)⟩
def Ch.one (x : Nat) (φ : σ → Prop) : Ch σ := ⟨[x], fun _ => φ, fun _ _ _ => True, fun a b _ _ h1 h2 h3 => absurd (by simp at h1 h2; rw [h1, h2]) h3⟩
def Ch.two {τ1 τ2 : Type} (x1 x2 : Nat) (φ1 : τ1 → Prop) (φ2 : τ2 → Prop) : Ch (τ1 × τ2) :=
  ⟨[x1, x2], fun i s => cond (Nat.beq i x1) (φ1 s.1) (φ2 s.2), fun i s s' => cond (Nat.beq i x1) (s'.2 = s.2) (s'.1 = s.1), fun a b s s' h1 h2 h3 he hp => by
    cases h4 : Nat.beq a x1 <;> cases h5 : Nat.beq b x1 <;> rw [h4] at he <;> rw [h5] at hp <;> simp only [cond_true, cond_false, h5] at he hp ⊢
    · simp at h1 h2
      have e4 := Nat.ne_of_beq_eq_false h4
      have e5 := Nat.ne_of_beq_eq_false h5
      exact absurd (by rw [h1.resolve_left e4, h2.resolve_left e5]) h3
    · rw [he]; exact hp
    · rw [he]; exact hp
    · exact absurd (by rw [Nat.eq_of_beq_eq_true h4, Nat.eq_of_beq_eq_true h5]) h3⟩

theorem dq_choose {τ : Type} (pr : σ → τ) (up : σ → τ → σ) {φ : τ → Prop} {r p : Nat} {v : σ → Res} {v' : τ → Res} {d : τ → D} {old : List (σ → Res)} (hix : nElem C.X i = true) (hup : ∀ s t, pr (up s t) = t ∧ (φ t → C.Φ i (up s t)) ∧ C.E i s (up s t))
    (hcx : ∀ s, CtxR g fs s need (c s)) (hv : vs[r]? = some (v :: old)) (hp : old.length = p)
    (h : ∀ s, C.good anc s → LocM P ⟨some dst, op, ty, pos, after, none⟩ (c s) N [v s] φ (fun t => d t) (fun t => [v' t]))
    (hc : AllX C.X fun x => x = i ∨ nElem anc x = true ∨ ∀ s s', C.E x s s' → pr s = pr s')
    (next : DR P f N I0 R g M l us C id k ((i, (fun s => d (pr s)), (fun s => d (pr s))) :: fs) (vs.set r ((fun s => v' (pr s)) :: v :: old)) ((dst, (fun s => d (pr s))) :: os) (i + 1) rest urest) :
    DR P f N I0 R g M l us C id k fs vs os i (⟨some dst, op, ty, pos, after, none⟩ :: rest) (⟨need, anc, some (r, p, true)⟩ :: urest) :=
  dr_choose hix hv hp (hc.imp fun x hx => hx.imp (fun e => e) (Or.imp (fun e => e) fun h s s' he => by rw [h s s' he]; exact ⟨rfl, rfl⟩))
    (fun s hs => by
      rw [(hcx s).eq]
      exact (h s hs).map (up s) (fun t ht => ⟨(hup s t).2.1 ht, (hup s t).2.2⟩) (fun t => by rw [(hup s t).1]) (fun t => by rw [(hup s t).1])) next

theorem dq_gpure {j : Nat} {want : Bool} {dg : σ → D} {cc : σ → Prop} (hix : nElem C.X i = false) (hcx : ∀ s, CtxR g fs s need (c s)) (hg : (lk fs j).map (·.1) = some dg) (hgd : ∀ s, guardD want (dg s) (cc s))
    (h : ∀ s, C.good anc s → cc s → ∀ M, LocP P ⟨some dst, op, ty, pos, after, some (j, want)⟩ (c s) N M (d s)) (hc : AllX C.X fun x => nElem anc x = true ∨ ∀ s s', C.E x s s' → dIf (cc s) (d s) = dIf (cc s') (d s'))
    (next : DR P f N I0 R g M l us C id k ((i, (fun s => dIf (cc s) (d s)), d) :: fs) vs ((dst, (fun s => dIf (cc s) (d s))) :: os) (i + 1) rest urest) :
    DR P f N I0 R g M l us C id k fs vs os i (⟨some dst, op, ty, pos, after, some (j, want)⟩ :: rest) (⟨need, anc, none⟩ :: urest) :=
  dr_gpure hix hg hgd hc (fun s hs hcs M => by rw [(hcx s).eq]; exact h s hs hcs M) next

theorem dq_gread {r p : Nat} {v : σ → Res} {old : List (σ → Res)} {j : Nat} {want : Bool} {dg : σ → D} {cc : σ → Prop} (hix : nElem C.X i = false) (hcx : ∀ s, CtxR g fs s need (c s)) (hv : vs[r]? = some (v :: old)) (hp : old.length = p) (hg : (lk fs j).map (·.1) = some dg) (hgd : ∀ s, guardD want (dg s) (cc s))
    (h : ∀ s, C.good anc s → cc s → ∀ M, In (v s) M → LocP P ⟨some dst, op, ty, pos, after, some (j, want)⟩ (c s) N M (d s)) (hc : AllX C.X fun x => nElem anc x = true ∨ ∀ s s', C.E x s s' → dIf (cc s) (d s) = dIf (cc s') (d s'))
    (next : DR P f N I0 R g M l us C id k ((i, (fun s => dIf (cc s) (d s)), d) :: fs) vs ((dst, (fun s => dIf (cc s) (d s))) :: os) (i + 1) rest urest) :
    DR P f N I0 R g M l us C id k fs vs os i (⟨some dst, op, ty, pos, after, some (j, want)⟩ :: rest) (⟨need, anc, some (r, p, false)⟩ :: urest) :=
  dr_gread hix hv hp hg hgd hc (fun s hs hcs M hm => by rw [(hcx s).eq]; exact h s hs hcs M hm) next


def outG (s : σ) : List (Nat × (σ → D)) → G → G
  | [], g => g
  | (t, d) :: os, g => (t, d s) :: outG s os g
def outM (s : σ) : List (List (σ → Res)) → List Res → List Res
  | [], M => M
  | (v :: _) :: vs, M => v s :: outM s vs M
  | [] :: vs, M => rNone :: outM s vs M

theorem outG_eq (s : σ) (g : G) : ∀ os : List (Nat × (σ → D)), os.map (fun p => (p.1, p.2 s)) ++ g = outG s os g
  | [] => rfl
  | (t, d) :: os => by simp only [List.map_cons, List.cons_append, outG, outG_eq s g os]
theorem outM_eq (s : σ) (M : List Res) : ∀ vs : List (List (σ → Res)), vs.map (fun hs => lastV hs s) ++ M = outM s vs M
  | [] => rfl
  | [] :: vs => congrArg (rNone :: ·) (outM_eq s M vs)
  | (v :: _) :: vs => congrArg (v s :: ·) (outM_eq s M vs)

theorem dq_end [hmix : TyMix P] {M0 rs : List Res} (s0 : σ) (hM : M = rs ++ M0) (hfirst : ∀ s : σ, vs.map (fun hs => (hs.reverse.headD fun _ => rNone) s) = rs) (hxn : AllX C.X fun x => Nat.blt x l.length = true)
    (hchk : (allLt l.length fun i => chkPred l i && chkRes us vs.length i) = true)
    (h : ∀ s, (∀ x ∈ C.X, C.Φ x s) → Run P f N I0 R (outG s os g) (outM s vs M0) k) :
    DR P f N I0 R g M l us C id k fs vs os i [] [] :=
  dr_end s0 hM hfirst (fun x hx => by have := hxn.all x hx; rwa [Nat.blt_eq] at this) hchk fun s hs => by rw [outG_eq, outM_eq]; exact h s hs

theorem Ch.one_good {x : Nat} {φ : σ → Prop} {s : σ} (h : ∀ y ∈ (Ch.one x φ).X, (Ch.one x φ).Φ y s) : φ s := h x (List.mem_singleton.2 rfl)
theorem Ch.two_good {τ1 τ2 : Type} {x1 x2 : Nat} {φ1 : τ1 → Prop} {φ2 : τ2 → Prop} {s : τ1 × τ2} (hne : Nat.beq x2 x1 = false) (h : ∀ y ∈ (Ch.two x1 x2 φ1 φ2).X, (Ch.two x1 x2 φ1 φ2).Φ y s) : φ1 s.1 ∧ φ2 s.2 := by
  have h1 := h x1 (by show x1 ∈ [x1, x2]; simp)
  have h2 := h x2 (by show x2 ∈ [x1, x2]; simp)
  simp only [Ch.two, hne, show Nat.beq x1 x1 = true from Nat.beq_refl x1, cond_true, cond_false] at h1 h2
  exact ⟨h1, h2⟩

end
end Go.Q
