/- Results that lie in cells, whole structs stored, slices held against nil, new resources in a drawn region: what is proved here holds of every program. -/
import Derived.Test.YtmapjpdgjefnoaaQKit
set_option linter.unusedVariables false
set_option linter.unusedSimpArgs false
namespace Go.Q

variable {P : Program} {f : FuncId} {N : Nat} {I0 : Imm} {R : Ending → World → Prop} {g : G} {M : List Res} {k : List Item} {fn : Func}
variable {dst : Option Tmp} {ty : TypeId} {pos : String} {after : Array Edge} {gd : Option (Nat × Bool)}

/-! ### Results -/

inductive ResOk (P : Program) (g : G) (M : List Res) : List ResultVar → List D → Prop where
  | nil : ResOk P g M [] []
  | tmp {t : Tmp} {d : D} {rs : List ResultVar} {ds : List D} : look g t = some d → ResOk P g M rs ds → ResOk P g M (.tmp t :: rs) (d :: ds)
  | cellN {p : Tmp} {ty T : TypeId} {b n : Nat} {es : List D} {rs : List ResultVar} {ds : List D} [TyV P ty true n] : look g p = some (dVal (ptr b 0)) → In (rCells b T es) M → Nat.beq n es.length = true → ResOk P g M rs ds → ResOk P g M (.cell p ty :: rs) (dAgg es :: ds)
  | cell1 {p : Tmp} {ty T : TypeId} {b : Nat} {e : D} {rs : List ResultVar} {ds : List D} [TyV P ty false 1] : look g p = some (dVal (ptr b 0)) → In (rCells b T [e]) M → ResOk P g M rs ds → ResOk P g M (.cell p ty :: rs) (e :: ds)

def resOne (tmps : Array Value) : ResultVar → Sem Value
  | .tmp t => pure (tmps.getD t undef)
  | .cell p t => do loadVar t (← asAddr (tmps.getD p undef))

theorem results_eq (fn : Func) (tmps : Array Value) : results fn tmps = (do let vs ← fn.results.mapM (resOne tmps); pure (if h : vs.size = 1 then vs[0] else .tuple vs)) := by
  unfold results
  congr 1
theorem ResOk.run {rs : List ResultVar} {ds : List D} (h : ResOk P g M rs ds) {N : Nat} {I : Imm} {a : Act} {w : World} (hs : Slots g N I a) (hi : Inv I M w) :
    ∃ vs : List Value, relL ds I vs ∧ (rs.mapM (resOne a.tmps)).run P w = .ok vs w := by
  induction h with
  | nil => exact ⟨[], trivial, by simp⟩
  | @tmp t d rs ds ht _ ih =>
    obtain ⟨vs, h1, h2⟩ := ih
    exact ⟨_ :: vs, ⟨hs.slot t d ht, h1⟩, by simp only [List.mapM_cons, Sem.run_bind, resOne, Sem.run_pure, Result.andThen_ok, h2]⟩
  | @cellN p ty T b n es rs ds hty hp hm hn _ ih =>
    obtain ⟨vs, h1, h2⟩ := ih
    obtain ⟨cs, hb, hr⟩ := own_cells hi hm.mem
    have hpv : a.tmps.getD p undef = .pointer (some ⟨b, 0, none⟩) := hs.slot p _ hp
    have hne := Nat.eq_of_beq_eq_true hn
    have hl := own_load (P := P) (M := M) hb hr (k := 0) (n := n) (by omega)
    refine ⟨.agg ((cs.toList.drop 0).take n).toArray :: vs, ⟨⟨_, rfl, ?_⟩, h1⟩, ?_⟩
    · have h3 := relL_take n hr
      rw [hne, List.take_length] at h3
      simpa [hne] using h3
    · have h4 : (resOne a.tmps (.cell p ty)).run P w = .ok (.agg ((cs.toList.drop 0).take n).toArray) w := by
        simp only [resOne, Sem.run_bind, hpv, asAddr, Sem.run_pure, Result.andThen_ok, loadVar, run_isAgg hty, run_sizeOf hty, if_true, hl]
      simp only [List.mapM_cons, Sem.run_bind, h4, Result.andThen_ok, h2, Sem.run_pure]
  | @cell1 p ty T b e rs ds hty hp hm _ ih =>
    obtain ⟨vs, h1, h2⟩ := ih
    obtain ⟨cs, hb, hr⟩ := own_cells hi hm.mem
    have hpv : a.tmps.getD p undef = .pointer (some ⟨b, 0, none⟩) := hs.slot p _ hp
    obtain ⟨v, hv, hd⟩ := relL_get hr 0 e rfl
    have hc : w.cell? ⟨b, 0, none⟩ = some v := by simp at hv; simp [World.cell?, hb, hv]
    have hl : (load (⟨b, 0, none⟩ : Addr)).run P w = .ok v w := by rw [run_load, hc]
    refine ⟨v :: vs, ⟨hd, h1⟩, ?_⟩
    have h4 : (resOne a.tmps (.cell p ty)).run P w = .ok v w := by
      simp only [resOne, Sem.run_bind, hpv, asAddr, Sem.run_pure, Result.andThen_ok, loadVar, run_isAgg hty, Bool.false_eq_true, if_false, hl]
    simp only [List.mapM_cons, Sem.run_bind, h4, Result.andThen_ok, h2, Sem.run_pure]

def retD : List D → D
  | [d] => d
  | ds => dTup ds

theorem results_ok {rs : List ResultVar} {ds : List D} (hr : fn.results = rs.toArray) (h : ResOk P g M rs ds) {N : Nat} {I : Imm} {a : Act} {w : World} (hs : Slots g N I a) (hi : Inv I M w) :
    ∃ v, (results fn a.tmps).run P w = .ok v w ∧ (retD ds).rel I v := by
  obtain ⟨vs, h1, h2⟩ := h.run hs hi
  have h3 : (results fn a.tmps).run P w = .ok (if h : vs.toArray.size = 1 then vs.toArray[0] else .tuple vs.toArray) w := by
    rw [results_eq, hr, Array.mapM_eq_mapM_toList]
    simp only [Sem.run_bind, Sem.run_map, h2, Result.andThen_ok]
    rfl
  refine ⟨_, h3, ?_⟩
  match ds, vs, h1 with
  | [], [], _ => exact ⟨#[], rfl, trivial⟩
  | [d], [v], h1 => exact h1.1
  | d :: e :: ds, u :: v :: vs, h1 => exact ⟨(u :: v :: vs).toArray, by simp, by simpa using h1⟩

theorem run_retG {rs : List ResultVar} {ds : List D} {σ : Type} {φ : σ → Prop} {d : σ → D} {Mout : σ → List Res} {F : List Res} (s : σ) (hf : P.funcs[f]? = some fn) (hr : fn.results = rs.toArray) (h : ResOk P g M rs ds)
    (hle : ∀ I v, (retD ds).rel I v → (d s).rel I v) (hφ : φ s) (hM : ∀ I w, Inv I M w → Inv I (Mout s ++ F) w) : Run P f N I0 (Post I0 φ d Mout F) g M (.code .ret :: k) :=
  ⟨fun _ a w _ _ hb hk hl hs hi => let ⟨_, h1, h2⟩ := results_ok hr h hs hi; goes_ret hf hb hk hs.defers h1 ⟨_, rfl, s, hφ, _, hl, hle _ _ h2, hM _ _ hi⟩⟩

theorem run_retGP {rs : List ResultVar} {ds : List D} {d : D} {M0 : List Res} (hf : P.funcs[f]? = some fn) (hr : fn.results = rs.toArray) (h : ResOk P g M rs ds) (hle : ∀ I v, (retD ds).rel I v → d.rel I v) (hM : ∀ I w, Inv I M w → Inv I M0 w) :
    Run P f N I0 (PostP I0 d M0) g M (.code .ret :: k) :=
  ⟨fun _ a w _ _ hb hk hl hs hi => let ⟨_, h1, h2⟩ := results_ok hr h hs hi; goes_ret hf hb hk hs.defers h1 ⟨_, rfl, _, hl, hle _ _ h2, hM _ _ hi⟩⟩

/-- Owned cells are let go. -/
theorem inv_tail {I : Imm} {r : Res} {M : List Res} {w : World} (h : Inv I (r :: M) w) : Inv I M w := h.sub (List.sublist_cons_self ..)

/-! ### A whole struct stored -/

theorem splice_rel {I : Imm} {ds es : List D} {cs vs : List Value} {k : Nat} (h : relL ds I cs) (h' : relL es I vs) : relL (ds.take k ++ es ++ ds.drop (k + es.length)) I (cs.take k ++ vs ++ cs.drop (k + vs.length)) := by
  rw [← relL_length h']
  exact relL_append (relL_append (relL_take k h) h') (relL_drop _ h)

theorem loc_storeN {t T : TypeId} {n : Nat} [ht : TyV P t true n] {x y : Operand} {b kk : Nat} {ds es : List D} [ho : OneAll es] (hx : opd g x = some (dVal (ptr b kk))) (hy : opd g y = some (dAgg es)) (hk : (Nat.beq es.length n && Nat.ble (kk + n) ds.length) = true) :
    LocM P ⟨none, .store t x y, ty, pos, after, gd⟩ g N [rCells b T ds] (fun _ : Unit => True) (fun _ => dTop) (fun _ => [rCells b T (ds.take kk ++ es ++ ds.drop (kk + es.length))]) := by
  constructor
  intro F I a w K Q hs hi hK
  have hp : a.eval x = .pointer (some ⟨b, kk, none⟩) := opd_sound hs hx
  obtain ⟨us, hyv, hd⟩ := opd_sound hs hy
  obtain ⟨cs, hb, hr⟩ := own_cells hi (List.mem_cons_self ..)
  simp only [Bool.and_eq_true] at hk
  have hen := Nat.eq_of_beq_eq_true hk.1
  have hkl := Nat.le_of_ble_eq_true hk.2
  have hlen := relL_length hr
  have hul := relL_length hd
  simp at hlen hul
  have hst := run_storeCells_at P b kk T us.toList 0 cs w hb (by simp; omega) (ho.all hd)
  simp only [Nat.add_zero] at hst
  have hrun : (execOp a.eval ⟨none, .store t x y, ty, pos, after, gd⟩).run P w = .ok .skip (w.setRow b (cs.toList.take kk ++ us.toList ++ cs.toList.drop (kk + us.toList.length)).toArray) := by
    have hsz : us.size = n := by omega
    have hcc : (Value.agg us).cells = us := rfl
    simp only [execOp, hp, hyv, Instr.storeAt, Instr.sureAddr, storeVar, Sem.run_bind, Sem.run_pure, Result.andThen_ok, run_sizeOf ht, hcc, hsz, ne_eq, not_true_eq_false, if_false, hst]
  unfold Oper.wp
  rw [hrun]
  refine hK () undef _ I trivial I.le_refl trivial ?_
  exact hi.write (b := b) rfl rfl rfl rfl rfl (fun c hc _ => setRow_other w b c _ hc) (setRow_heap w b cs _ T _ hb) ⟨_, rfl, splice_rel hr hd⟩

/-! ### A slice held against nil -/

theorem loc_eqlNil {t t' : TypeId} {e : TypeId} [ht : TySl P t e] {x : Operand} {α : Type} {n : Nat} {f' : α → List D} {xs : List α} (hx : opd g x = some (dSl n f' xs)) :
    LocM P ⟨dst, .binOp .eql t x (.const (.slice none 0 0)) t', ty, pos, after, gd⟩ g N [] (fun p : Prop => p → xs = []) (fun p => dB p) (fun _ => []) := by
  constructor
  intro F I a w K Q hs hi hK
  obtain ⟨b, cap, hp, _, _, _, hel⟩ := opd_sound hs hx
  have hrun : (execOp a.eval ⟨dst, .binOp .eql t x (.const (.slice none 0 0)) t', ty, pos, after, gd⟩).run P w = .ok (.value (.bool b.isNone)) w := by
    have hq : a.eval (.const (.slice none 0 0)) = .slice none 0 0 := rfl
    have e1 : eqGuard .eql t x (.const (.slice none 0 0)) (.slice b xs.length cap) (.slice none 0 0) = pure () := by unfold eqGuard; rfl
    have h : (binOp .eql t (.slice b xs.length cap) (.slice none 0 0)).run P w = ((Op.equalIn 10000 t (.slice b xs.length cap) (.slice none 0 0)).run P w).andThen fun b w' => .ok (.bool b) w' := by
      simp only [binOp]
      simp [Op.equal, Op.maxDepth]
    have h2 : ∀ d, (Op.equalIn (d + 1) t (.slice b xs.length cap) (.slice none 0 0)).run P w = .ok b.isNone w := by
      intro d
      simp only [Op.equalIn, Sem.run_bind, run_underlying ht.eq, Result.andThen_ok]
      cases b <;> rfl
    have h2 := h2 9999
    simp only [execOp, hp, hq, e1, Sem.run_bind, Sem.run_pure, Result.andThen_ok, h, h2]
  unfold Oper.wp
  rw [hrun]
  refine hK (b.isNone = true) _ _ I (fun hn => ?_) I.le_refl ⟨_, rfl, Iff.rfl⟩ hi
  cases xs with
  | nil => rfl
  | cons y ys =>
    obtain ⟨_, p, hpp, _⟩ := hel 0 y rfl
    subst hpp
    simp at hn

/-! ### An empty literal as a row -/

theorem loc_build0 {t e : TypeId} [ht : TySl P t e] {bytes n : Nat} {z : Value} {agg : Bool} [hz : TyZ P e bytes z] [hv : TyV P e agg n] {α : Type} (f' : α → List D) :
    LocM P ⟨dst, .buildSlice t 0 #[], ty, pos, after, gd⟩ g N [] (fun _ : Nat => True) (fun b => dVal (.slice (some ⟨b, 0, none⟩) 0 0)) (fun b => [rRow (.slice (some ⟨b, 0, none⟩) 0 0) e n f' ([] : List α)]) := by
  constructor
  intro F I a w K Q hs hi hK
  have hrun : (execOp a.eval ⟨dst, .buildSlice t 0 #[], ty, pos, after, gd⟩).run P w = .ok (.value (.slice (some ⟨w.heap.size, 0, none⟩) 0 0)) (w.alloc (.cells #[] e)) := by
    simp [execOp, Instr.buildSlice, run_underlying ht.eq, run_sizeOf hv, Instr.fill, newRow]
    congr 2
    exact Array.eq_empty_of_size_eq_zero (by simp)
  unfold Oper.wp
  rw [hrun]
  exact hK w.heap.size _ _ I trivial I.le_refl rfl (hi.allocOwn _ _ rfl ⟨w.heap.size, 0, #[], by simp, rfl, by simp, by simp, Nat.zero_le _, Nat.zero_le _, (fun x hx => by cases hx), by rw [show (#[] : Array Value).toList = [] from rfl, List.take_nil]; trivial⟩)

/-! ### A new resource in a drawn region -/

theorem none_ok {I : Imm} {M : List Res} {w : World} (h : Inv I M w) : Inv I (rNone :: M) w :=
  ⟨h.os, h.tape, h.output, h.imm, fun r hr => by
    rcases List.mem_cons.1 hr with rfl | hr
    · exact trivial
    · exact h.own r hr, h.apart⟩

theorem run_addNone (h : Run P f N I0 R g (rNone :: M) k) : Run P f N I0 R g M k :=
  run_weaken (fun _ _ _ hs hi => ⟨hs, none_ok hi⟩) h

theorem locM_new {o : Oper} {σ : Type} {φ : σ → Prop} {d : σ → D} {r : σ → Res} (h : LocM P o g N [] φ d (fun s => [r s])) : LocM P o g N [rNone] φ d (fun s => [r s]) :=
  ⟨fun F I a w K Q hs hi hK => h.go F I a w K Q hs (inv_tail hi) hK⟩

end Go.Q
