/- The rules of single operations that make memory: what is proved here holds of every program. -/
import Derived.Test.YtmapjpdgjefnoaaQOps
set_option linter.unusedVariables false
set_option linter.unusedSimpArgs false
namespace Go.Q

variable {P : Program} {g : G} {N : Nat} {M : List Res} {dst : Option Tmp} {ty : TypeId} {pos : String} {after : Array Edge} {gd : Option (Nat × Bool)}

/-- A value of one cell. -/
class One (d : D) : Prop where
  one : ∀ {I v}, d.rel I v → v.cells = #[v] ∧ v.oneCell' = true
instance (k : IntKind) (n : Int) : One (dInt k n) := ⟨fun h => by rw [show _ = _ from h]; exact ⟨rfl, rfl⟩⟩
instance (p : Prop) : One (dB p) := ⟨fun ⟨_, h, _⟩ => by rw [h]; exact ⟨rfl, rfl⟩⟩
instance (s : ByteArray) : One (dStr s) := ⟨fun h => by rw [show _ = _ from h]; exact ⟨rfl, rfl⟩⟩
instance (ds : List D) : One (dBox ds) := ⟨fun ⟨_, h, _⟩ => by rw [h]; exact ⟨rfl, rfl⟩⟩
instance {α : Type} (n : Nat) (f : α → List D) (xs : List α) : One (dSl n f xs) := ⟨fun ⟨_, _, h, _⟩ => by rw [h]; exact ⟨rfl, rfl⟩⟩
instance (xs : List Int) : One (dInts xs) := inferInstanceAs (One (dSl _ _ _))
instance (xs : List (List Int)) : One (dRows xs) := inferInstanceAs (One (dSl _ _ _))
instance (a : Option Addr) : One (dVal (.pointer a)) := ⟨fun h => by rw [show _ = _ from h]; exact ⟨rfl, rfl⟩⟩
instance (a : Option Addr) (n c : Nat) : One (dVal (.slice a n c)) := ⟨fun h => by rw [show _ = _ from h]; exact ⟨rfl, rfl⟩⟩

/-- A persistent operation that makes one immutable block. -/
theorem locP_of_new {o : Oper} {d : D}
    (h : ∀ I a w, Slots g N I a → Inv I M w → ∃ v ob, (execOp a.eval o).run P w = .ok (.value v) (w.alloc ob) ∧ d.rel (I.add w.heap.size ob) v) : LocP P o g N M d := by
  constructor
  intro I a w K Q hs hi hK
  obtain ⟨v, ob, hr, hd⟩ := h I a w hs hi
  unfold Oper.wp
  rw [hr]
  obtain ⟨h1, h2⟩ := hi.allocImm ob
  exact hK v _ _ h1 hd h2

theorem add_at {I : Imm} {b : Nat} {cs : Array Value} {T : TypeId} {fz : Nat × Nat} {ds : List D} (hn : I.blk b = none) (h : relL ds I cs.toList) : (I.add b (.cells cs T fz)).at ⟨b, 0, none⟩ ds := by
  refine ⟨rfl, cs, T, fz, by simp [Imm.add], ?_⟩
  have hl := relL_length h
  simp only [List.drop_zero]
  rw [hl, List.take_length]
  exact relL_mono (Imm.le_add hn) h

theorem Inv.fresh {I : Imm} {M : List Res} {w : World} (h : Inv I M w) : I.blk w.heap.size = none := by
  cases hb : I.blk w.heap.size with
  | none => rfl
  | some o' => have := h.imm _ _ hb; simp at this

/-- A local that is never written again, in a box. -/
theorem loc_box1 {t : TypeId} {x : Operand} {d : D} [ho : One d] (hx : opd g x = some d) : LocP P ⟨dst, .box t x, ty, pos, after, gd⟩ g N M (dBox [d]) :=
  locP_of_new fun I a w hs hi => by
    have hd := opd_sound hs hx
    refine ⟨.pointer (some ⟨w.heap.size, 0, none⟩), .cells #[a.eval x] t, ?_, ?_⟩
    · simp [execOp, Instr.box, newVar, newRow, (ho.one hd).1]
    · exact ⟨_, rfl, add_at hi.fresh ⟨hd, trivial⟩⟩

theorem loc_boxN {t : TypeId} {x : Operand} {ds : List D} (hx : opd g x = some (dAgg ds)) : LocP P ⟨dst, .box t x, ty, pos, after, gd⟩ g N M (dBox ds) :=
  locP_of_new fun I a w hs hi => by
    obtain ⟨cs, hv, hd⟩ := opd_sound hs hx
    refine ⟨.pointer (some ⟨w.heap.size, 0, none⟩), .cells cs t, ?_, ?_⟩
    · simp [execOp, Instr.box, newVar, newRow, hv, Value.cells]
    · exact ⟨_, rfl, add_at hi.fresh hd⟩

/-- A pointer that is no nil. -/
theorem loc_nilCheck {x : Operand} {ds : List D} (hx : opd g x = some (dBox ds)) : LocP P ⟨dst, .nilCheck x, ty, pos, after, gd⟩ g N M (dBox ds) :=
  locP_of_run fun I a w hs hi => by
    obtain ⟨p, hp, hat⟩ := opd_sound hs hx
    exact ⟨.pointer (some p), by simp [execOp, hp], p, rfl, hat⟩
theorem loc_nilCheckV {x : Operand} {p : Addr} (hx : opd g x = some (dVal (.pointer (some p)))) : LocP P ⟨dst, .nilCheck x, ty, pos, after, gd⟩ g N M (dVal (.pointer (some p))) :=
  locP_of_run fun I a w hs hi => by
    have hp : a.eval x = .pointer (some p) := opd_sound hs hx
    exact ⟨.pointer (some p), by simp [execOp, hp], rfl⟩

/-! ### What is owned: cells -/

/-- Cells of the call's own, each with what is known of it. -/
def rCells (b : Nat) (t : TypeId) (ds : List D) : Res :=
  ⟨some b, fun I o => ∃ cs, o = some (.cells cs t (0, 0)) ∧ relL ds I cs.toList, fun h ⟨cs, e, r⟩ => ⟨cs, e, relL_mono h r⟩⟩

def ptr (b k : Nat) : Value := .pointer (some ⟨b, k, none⟩)

theorem own_cells {I : Imm} {b : Nat} {t : TypeId} {ds : List D} {M : List Res} {w : World} (h : Inv I M w) (hm : rCells b t ds ∈ M) :
    ∃ cs, w.heap[b]? = some (.cells cs t (0, 0)) ∧ relL ds I cs.toList := by
  have h1 := h.own _ hm
  obtain ⟨_, o, h3, cs, h4, h5⟩ := h1
  injection h4 with h4
  subst h4
  exact ⟨cs, h3, h5⟩

/-- Find the cells of a block among what is owned. -/
inductive In : Res → List Res → Prop where
  | here {r : Res} {M : List Res} : In r (r :: M)
  | there {r s : Res} {M : List Res} : In r M → In r (s :: M)

theorem In.mem {r : Res} {M : List Res} (h : In r M) : r ∈ M := by
  induction h with
  | here => exact List.mem_cons_self ..
  | there _ ih => exact List.mem_cons_of_mem _ ih

theorem loc_loadOwn1 {t T : TypeId} [ht : TyV P t false 1] {x : Operand} {b k : Nat} {ds : List D} {d : D} (hx : opd g x = some (dVal (ptr b k))) (hm : In (rCells b T ds) M) (hd : ds[k]? = some d) :
    LocP P ⟨dst, .load t x, ty, pos, after, gd⟩ g N M d :=
  locP_of_run fun I a w hs hi => by
    have hp : a.eval x = .pointer (some ⟨b, k, none⟩) := opd_sound hs hx
    obtain ⟨cs, hb, hr⟩ := own_cells hi hm.mem
    obtain ⟨v, hv, hdv⟩ := relL_get hr k d hd
    refine ⟨v, ?_, hdv⟩
    have hc : w.cell? ⟨b, k, none⟩ = some v := by simp at hv; simp [World.cell?, hb, hv]
    simp [execOp, hp, Instr.loadAt, Instr.sureAddr, loadVar, run_isAgg ht, hc]

theorem own_load {I : Imm} {M : List Res} {w : World} {b k n : Nat} {T : TypeId} {ds : List D} {cs : Array Value} (hb : w.heap[b]? = some (.cells cs T (0, 0))) (hr : relL ds I cs.toList) (hn : k + n ≤ ds.length) :
    (loadCells ⟨b, k, none⟩ n).run P w = .ok ((cs.toList.drop k).take n).toArray w := by
  have hl := relL_length hr
  have := run_loadCells_list (P := P) w ⟨b, k, none⟩ ((cs.toList.drop k).take n) (fun j v hj => by
    rw [Addr.add_lit]
    rw [List.getElem?_take] at hj
    split at hj
    · rw [List.getElem?_drop, Array.getElem?_toList] at hj
      simp [World.cell?, hb, hj]
    · cases hj)
  have hlen : ((cs.toList.drop k).take n).length = n := by
    rw [List.length_take, List.length_drop, ← hl]
    omega
  rwa [hlen] at this

theorem loc_loadOwnN {t T : TypeId} {n : Nat} [ht : TyV P t true n] {x : Operand} {b k : Nat} {ds : List D} (hx : opd g x = some (dVal (ptr b k))) (hm : In (rCells b T ds) M) (hn : Nat.ble (k + n) ds.length = true) :
    LocP P ⟨dst, .load t x, ty, pos, after, gd⟩ g N M (dAgg ((ds.drop k).take n)) :=
  locP_of_run fun I a w hs hi => by
    have hp : a.eval x = .pointer (some ⟨b, k, none⟩) := opd_sound hs hx
    obtain ⟨cs, hb, hr⟩ := own_cells hi hm.mem
    have hl := own_load (P := P) (M := M) hb hr (Nat.le_of_ble_eq_true hn)
    exact ⟨.agg ((cs.toList.drop k).take n).toArray, by simp [execOp, hp, Instr.loadAt, Instr.sureAddr, loadVar, run_isAgg ht, run_sizeOf ht, hl], _, rfl, by simpa using relL_take n (relL_drop k hr)⟩

theorem loc_fieldAddrOwn {s : TypeId} {i off n : Nat} {agg : Bool} [hf : TyFld P s i off n agg] {x : Operand} {b k : Nat} (hx : opd g x = some (dVal (ptr b k))) : LocP P ⟨dst, .fieldAddr s x i, ty, pos, after, gd⟩ g N M (dVal (ptr b (k + off))) :=
  locP_of_run fun I a w hs hi => by
    have hp : a.eval x = .pointer (some ⟨b, k, none⟩) := opd_sound hs hx
    obtain ⟨fs, fd, hu, hfi, hoff, hsz, _⟩ := hf.eq
    refine ⟨.pointer (some ⟨b, k + off, none⟩), ?_, rfl⟩
    simp [execOp, hp, Instr.fieldAt, run_underlying hu, hfi, Instr.sureAddr, fieldPlace, run_sizeOf' hsz, hoff, Addr.add_lit]

theorem loc_nilCheckOwn {x : Operand} {b k : Nat} (hx : opd g x = some (dVal (ptr b k))) : LocP P ⟨dst, .nilCheck x, ty, pos, after, gd⟩ g N M (dVal (ptr b k)) := loc_nilCheckV hx

/-- A local that is written, in a box of its own. -/
theorem loc_boxOwn1 {t : TypeId} {x : Operand} {d : D} [ho : One d] (hx : opd g x = some d) : LocM P ⟨dst, .box t x, ty, pos, after, gd⟩ g N [] (fun _ : Nat => True) (fun b => dVal (ptr b 0)) (fun b => [rCells b t [d]]) := by
  constructor
  intro F I a w K Q hs hi hK
  have hd := opd_sound hs hx
  unfold Oper.wp
  have hr : (execOp a.eval ⟨dst, .box t x, ty, pos, after, gd⟩).run P w = .ok (.value (ptr w.heap.size 0)) (w.alloc (.cells #[a.eval x] t)) := by
    simp [execOp, Instr.box, newVar, newRow, (ho.one hd).1, ptr]
  rw [hr]
  exact hK w.heap.size _ _ I trivial I.le_refl rfl (hi.allocOwn _ _ rfl ⟨_, rfl, hd, trivial⟩)

theorem loc_boxOwnN {t : TypeId} {x : Operand} {ds : List D} (hx : opd g x = some (dAgg ds)) : LocM P ⟨dst, .box t x, ty, pos, after, gd⟩ g N [] (fun _ : Nat => True) (fun b => dVal (ptr b 0)) (fun b => [rCells b t ds]) := by
  constructor
  intro F I a w K Q hs hi hK
  obtain ⟨cs, hv, hd⟩ := opd_sound hs hx
  unfold Oper.wp
  have hr : (execOp a.eval ⟨dst, .box t x, ty, pos, after, gd⟩).run P w = .ok (.value (ptr w.heap.size 0)) (w.alloc (.cells cs t)) := by
    simp [execOp, Instr.box, newVar, newRow, hv, Value.cells, ptr]
  rw [hr]
  exact hK w.heap.size _ _ I trivial I.le_refl rfl (hi.allocOwn _ _ rfl ⟨_, rfl, hd⟩)

/-- A value as cells. -/
def Value.asD : Value → List D
  | .agg cs => cs.toList.map dVal
  | v => [dVal v]

/-- The zero of a type, cell by cell. -/
def zeroDs : Value → List D
  | .agg cs => cs.toList.map fun v => match v with | .int k n => dInt k n | .bool true => dB True | .bool false => dB False | .string s => dStr s | v => dVal v
  | .int k n => [dInt k n]
  | .bool true => [dB True]
  | .bool false => [dB False]
  | .string s => [dStr s]
  | v => [dVal v]

theorem zeroDs_rel (I : Imm) (z : Value) (hz : ∀ vs, z ≠ .tuple vs) : relL (zeroDs z) I z.cells.toList := by
  have key : ∀ l : List Value, relL (l.map fun v => match v with | .int k n => dInt k n | .bool true => dB True | .bool false => dB False | .string s => dStr s | v => dVal v) I l := by
    intro l
    induction l with
    | nil => trivial
    | cons v l ih =>
      refine ⟨?_, ih⟩
      cases v with
      | bool b => cases b <;> exact ⟨_, rfl, by simp⟩
      | _ => rfl
  cases z with
  | agg cs => exact key cs.toList
  | bool b => cases b <;> exact ⟨⟨_, rfl, by simp⟩, trivial⟩
  | tuple vs => exact absurd rfl (hz vs)
  | _ => exact ⟨rfl, trivial⟩

/-- 'var x T', captured or addressed. -/
theorem loc_allocOwn {t : TypeId} {bytes : Nat} {z : Value} [hz : TyZ P t bytes z] (hn : ∀ vs, z ≠ .tuple vs) : LocM P ⟨dst, .alloc t, ty, pos, after, gd⟩ g N [] (fun _ : Nat => True) (fun b => dVal (ptr b 0)) (fun b => [rCells b t (zeroDs z)]) := by
  constructor
  intro F I a w K Q hs hi hK
  unfold Oper.wp
  have h1 := hz.eq
  cases hu : P.info? t with
  | none => simp [hu] at h1
  | some i =>
    simp only [hu, Option.map_some, Option.some.injEq, Prod.mk.injEq] at h1
    have hr : (execOp a.eval ⟨dst, .alloc t, ty, pos, after, gd⟩).run P w = .ok (.value (ptr w.heap.size 0)) (w.alloc (.cells z.cells t)) := by
      simp [execOp, Instr.alloc, zeroValue, typeInfo, hu, h1.2, newVar, newRow, ptr]
    rw [hr]
    exact hK w.heap.size _ _ I trivial I.le_refl rfl (hi.allocOwn _ _ rfl ⟨_, rfl, zeroDs_rel I z hn⟩)

/-- A store into one cell of the call's own. -/
theorem loc_store1 {t T : TypeId} [ht : TyV P t false 1] {x y : Operand} {b k : Nat} {ds : List D} {d : D} [ho : One d] (hx : opd g x = some (dVal (ptr b k))) (hy : opd g y = some d) (hk : Nat.blt k ds.length = true) :
    LocM P ⟨none, .store t x y, ty, pos, after, gd⟩ g N [rCells b T ds] (fun _ : Unit => True) (fun _ => dTop) (fun _ => [rCells b T (ds.set k d)]) := by
  constructor
  intro F I a w K Q hs hi hK
  have hp : a.eval x = .pointer (some ⟨b, k, none⟩) := opd_sound hs hx
  have hd := opd_sound hs hy
  obtain ⟨cs, hb, hr⟩ := own_cells hi (List.mem_cons_self ..)
  have hlen := relL_length hr
  have hk' : k < cs.size := by
    have : k < ds.length := by simpa [Nat.blt_eq] using hk
    rw [hlen] at this
    simpa using this
  have hcell : w.cell? ⟨b, k, none⟩ = some cs[k] := by simp [World.cell?, hb, hk']
  have hfz : w.frozen? ⟨b, k, none⟩ = false := by simp [World.frozen?, hb]
  have hrun : (execOp a.eval ⟨none, .store t x y, ty, pos, after, gd⟩).run P w = .ok .skip (w.setCell ⟨b, k, none⟩ (a.eval y)) := by
    have h1 := ho.one hd
    have h3 : (storeCells ⟨b, k, none⟩ [a.eval y]).run P w = .ok () (w.setCell ⟨b, k, none⟩ (a.eval y)) := by
      have hst : (store (⟨b, k, none⟩ : Addr) (a.eval y)).run P w = .ok () (w.setCell ⟨b, k, none⟩ (a.eval y)) := by
        have h4 := h1.2
        generalize a.eval y = v at h4
        cases v <;> simp [store, Sem.run, hcell, hfz, Value.oneCell'] at h4 ⊢
      simp only [storeCells, Addr.add_zero', Sem.run_bind, hst, Result.andThen_ok]
      rfl
    simp [execOp, hp, Instr.storeAt, Instr.sureAddr, storeVar, run_sizeOf ht, h1.1, h3]
  unfold Oper.wp
  rw [hrun]
  refine hK () undef _ I trivial I.le_refl trivial ?_
  have hne : ∀ c, c ≠ b → c < w.heap.size → (w.setCell ⟨b, k, none⟩ (a.eval y)).heap[c]? = w.heap[c]? := fun c hc _ => Go.RowKit.Below.heap_setCell w _ _ _ hc
  exact hi.write (b := b) rfl rfl rfl rfl rfl hne (o := .cells (cs.setIfInBounds k (a.eval y)) T (0, 0)) (by simp [World.setCell, Array.getElem?_modify, hb]) ⟨_, rfl, by simpa using relL_set hd k hr⟩

end Go.Q
