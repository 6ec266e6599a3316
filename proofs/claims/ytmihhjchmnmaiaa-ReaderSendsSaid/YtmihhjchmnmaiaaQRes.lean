/- An appended row whose handle is stored at once; a row made of elements of several cells. -/
import Derived.Test.YtmihhjchmnmaiaaQPlainE
set_option linter.unusedVariables false
set_option linter.unusedSimpArgs false
namespace Go.Q
variable {P : Program} {N : Nat} {g : G} {M : List Res}
variable {dst : Option Tmp} {ty : TypeId} {pos : String} {after : Array Edge} {gd : Option (Nat × Bool)}
theorem LocM.rowV {o : Oper} {Min : List Res} {T n : Nat} {α : Type} {φ : Value → Prop} {f' : α → List D} {ys : List α} (h : LocM P o g N Min φ (fun v => dVal v) (fun v => [rRow v T n f' ys])) :
    LocM P o g N Min φ (fun v => dSlV v) (fun v => [rRow v T n f' ys]) := by
  constructor
  intro F I a w K Q hs hi hK
  refine h.go F I a w K Q hs hi fun v u w' J h0 h1 h2 h3 => hK v u w' J h0 h1 ⟨h2, ?_⟩ h3
  rw [show u = v from h2]
  exact row_slice h3

theorem cyc_list {zs : List Value} {n : Nat} (hn : zs.length = n) (h0 : 0 < n) : ∀ m, (List.range (m * n)).map (fun i => zs.toArray[i % n]!) = (List.replicate m zs).flatten
  | 0 => by simp
  | m + 1 => by
    rw [Nat.add_mul, Nat.one_mul, List.range_add, List.map_append, cyc_list hn h0 m, List.replicate_succ', List.flatten_append]
    congr 1
    simp only [List.map_map, List.flatten_cons, List.flatten_nil, List.append_nil]
    apply List.ext_getElem
    · simp [hn]
    · intro i h1 h2
      simp only [List.getElem_map, List.getElem_range, Function.comp]
      rw [show (m * n + i) % n = i by rw [Nat.mul_comm, Nat.mul_add_mod]; exact Nat.mod_eq_of_lt (by omega)]
      simp [h2]

theorem relL_rep {I : Imm} {ds : List D} {vs : List Value} (h : relL ds I vs) : ∀ m, relL (List.replicate m ds).flatten I (List.replicate m vs).flatten
  | 0 => trivial
  | m + 1 => by
    rw [List.replicate_succ, List.replicate_succ, List.flatten_cons, List.flatten_cons]
    exact relL_append h (relL_rep h m)

theorem loc_makeSliceN {t e n : Nat} {ag : Bool} [ht : TySl P t e] {bytes : Nat} {z : Value} [hz : TyZ P e bytes z] [hv : TyV P e ag n] {x y : Operand} {m : Nat} (hx : opd g x = some (dInt .i64 (m : Nat))) (hy : opd g y = some (dInt .i64 (m : Nat))) (hm : 0 < m ∧ m ≤ 17592186044416) (hb : (m : Int) * bytes ≤ 281474976710656)
    (hl : Nat.beq (zeroDs z).length n = true) (h0 : 0 < n) (hzt : ∀ vs, z ≠ .tuple vs) :
    LocM P ⟨dst, .makeSlice t x y, ty, pos, after, gd⟩ g N [] (fun _ : Nat => True) (fun b => dVal (sl b n 0 m m)) (fun b => [rBuf b e n (List.replicate m (zeroDs z))]) := by
  constructor
  intro F I a w K Q hs hi hK
  have hxv : a.eval x = .int .i64 m := opd_sound hs hx
  have hyv : a.eval y = .int .i64 m := opd_sound hs hy
  obtain ⟨i, hin, hiz, his, hib⟩ := info_of_z hz hv
  have hzr := zeroDs_rel I z hzt
  have hln := Nat.eq_of_beq_eq_true hl
  have hzl : z.cells.toList.length = n := by rw [← relL_length hzr, hln]
  have hw : IntKind.i64.wrap (m : Int) = m := IntWalk.i64_in _ (by omega)
  have hmn : m * n ≠ 0 := by have := Nat.mul_pos hm.1 h0; omega
  let ar : Array Value := (Array.range (m * n)).map ((if m * n = 0 then #[] else z.cells)[· % (if m * n = 0 then #[] else z.cells).size]!)
  have har : ar.toList = (List.replicate m z.cells.toList).flatten := by
    rw [← cyc_list hzl h0 m]
    have hsz : z.cells.size = n := by simpa using hzl
    simp only [ar, if_neg hmn, hsz, Array.toList_map, Array.toList_range, Array.toArray_toList]
  have hrun : (execOp a.eval ⟨dst, .makeSlice t x y, ty, pos, after, gd⟩).run P w = .ok (.value (.slice (some ⟨w.heap.size, 0, none⟩) m m)) (w.alloc (.cells ar e)) := by
    have hb' : ¬ (281474976710656 < (bytes : Int) * m) := by rw [Int.mul_comm]; omega
    have hm0 : ¬ ((m : Int) < 0) := by omega
    have hask : ∀ n, (askRoom n).run P w = .ok () w := by intro n; unfold askRoom; split <;> rfl
    have hml : ¬ (m = 0) := by omega
    simp [execOp, Instr.makeSlice, hxv, hyv, asInt, asIntOf, run_underlying ht.eq, typeInfo, zeroValue, hin, hiz, hib, hw, hb', hm0, hask, run_sizeOf hv, hmn, hml, newRow, ar]
  unfold Oper.wp
  rw [hrun]
  refine hK w.heap.size _ _ I trivial I.le_refl (by show _ = sl _ _ _ _ _; unfold sl; rw [Nat.zero_mul]) (hi.allocOwn _ _ rfl ⟨ar, rfl, fun q hq => by rw [List.eq_of_mem_replicate hq]; exact hln, ?_⟩)
  rw [har]
  exact relL_rep hzr m

theorem relL_repUp {ds ds' : List D} (h : ∀ J vs, relL ds J vs → relL ds' J vs) (hl : ds.length = ds'.length) : ∀ (m : Nat) (J : Imm) (vs : List Value), relL (List.replicate m ds).flatten J vs → relL (List.replicate m ds').flatten J vs
  | 0, _, _, hv => hv
  | m + 1, J, vs, hv => by
    rw [List.replicate_succ, List.flatten_cons] at hv ⊢
    have hlen := relL_length hv
    rw [List.length_append] at hlen
    have h1 := relL_take ds.length hv
    have h2 := relL_drop ds.length hv
    rw [List.take_left' rfl] at h1
    rw [List.drop_left' rfl] at h2
    rw [← List.take_append_drop ds.length vs]
    exact relL_append (h J _ h1) (relL_repUp h hl m J _ h2)

theorem map_get {α : Type} [Inhabited α] {f' : α → List D} {xs : List α} {q i : Nat} (hi : i < xs.length) (hq : q = i) : (xs.map f')[q]? = some (f' (xs[i]?.getD default)) := by
  subst hq
  rw [List.getElem?_map, List.getElem?_eq_getElem hi]
  rfl

variable {f : FuncId} {I0 : Imm} {R : Goal} {k : List Item}
/-- A block whose elements are told more weakly. -/
theorem run_bufUp {b T n : Nat} {els els' : List (List D)} {C : Res → List Res} {F : List Res} (hs : Sel (rBuf b T n els) M C F) (hl : ∀ e ∈ els', e.length = n) (hup : ∀ J vs, relL els.flatten J vs → relL els'.flatten J vs)
    (h : Run P f N I0 R g (C (rBuf b T n els')) k) : Run P f N I0 R g M k := by
  refine run_turn (fun I a w hsl hi => ?_) h
  refine ⟨I, I.le_refl, hsl, ?_⟩
  have h2 := hi.perm hs.perm.1
  refine Inv.perm ?_ (hs.perm.2 _)
  refine ⟨h2.os, h2.tape, h2.output, h2.imm, fun r hr => ?_, h2.apart⟩
  rcases List.mem_cons.1 hr with rfl | hr
  · obtain ⟨hb, o, h3, cs, h4, h5, h6⟩ := h2.own _ (List.mem_cons_self ..)
    exact ⟨hb, o, h3, cs, h4, hl, hup _ _ h6⟩
  · exact h2.own r (List.mem_cons_of_mem _ hr)

end Go.Q

namespace Go.Q
variable {P : Program} {N : Nat} {g : G} {M : List Res}
variable {dst : Option Tmp} {ty : TypeId} {pos : String} {after : Array Edge} {gd : Option (Nat × Bool)}

theorem loc_indexArrOwn {t e : TypeId} {len : Nat} (hu : P.underlying t = some (.array len e)) [hv : TyV P e false 1] {x y : Operand} {b k : Nat} {kd : IntKind} {i : Int} (hx : opd g x = some (dVal (ptr b k))) (hy : opd g y = some (dInt kd i)) (hi : 0 ≤ i ∧ i < len) :
    LocP P ⟨dst, .indexAddr t x y, ty, pos, after, gd⟩ g N M (dVal (ptr b (k + i.toNat))) :=
  locP_of_run fun I a w hs hinv => by
    have hp : a.eval x = .pointer (some ⟨b, k, none⟩) := opd_sound hs hx
    have hyv : a.eval y = .int kd i := opd_sound hs hy
    refine ⟨.pointer (some ⟨b, k + i.toNat, none⟩), ?_, rfl⟩
    simp [execOp, Instr.indexAt, hp, hyv, asIntOf, run_underlying hu, Instr.sureAddr, hi, run_sizeOf hv, Addr.add_lit]

theorem single_flat : ∀ ds : List D, (ds.map fun d => [d]).flatten = ds
  | [] => rfl
  | d :: ds => by rw [List.map_cons, List.flatten_cons, single_flat ds]; rfl

theorem inv_flat {I : Imm} {b T n : Nat} {els : List (List D)} {F : List Res} {w : World} (h : Inv I (rBuf b T n els :: F) w) : Inv I (rBuf b T 1 (els.flatten.map fun d => [d]) :: F) w := by
  refine ⟨h.os, h.tape, h.output, h.imm, fun r hr => ?_, h.apart⟩
  rcases List.mem_cons.1 hr with rfl | hr
  · obtain ⟨hb, o, h3, cs, h4, h5, h6⟩ := h.own _ (List.mem_cons_self ..)
    exact ⟨hb, o, h3, cs, h4, fun e he => by obtain ⟨d, _, rfl⟩ := List.mem_map.1 he; rfl, by rw [single_flat]; exact h6⟩
  · exact h.own r (List.mem_cons_of_mem _ hr)
theorem inv_unflat {I : Imm} {b T n : Nat} {els : List (List D)} {fl : List D} {F : List Res} {w : World} (hl : ∀ e ∈ els, e.length = n) (hf : els.flatten = fl) (h : Inv I (rBuf b T 1 (fl.map fun d => [d]) :: F) w) : Inv I (rBuf b T n els :: F) w := by
  subst hf
  refine ⟨h.os, h.tape, h.output, h.imm, fun r hr => ?_, h.apart⟩
  rcases List.mem_cons.1 hr with rfl | hr
  · obtain ⟨hb, o, h3, cs, h4, h5, h6⟩ := h.own _ (List.mem_cons_self ..)
    rw [single_flat] at h6
    exact ⟨hb, o, h3, cs, h4, hl, h6⟩
  · exact h.own r (List.mem_cons_of_mem _ hr)

theorem flatten_get {n : Nat} : ∀ {els : List (List D)} {q o : Nat} {ds : List D} {d : D}, (∀ e ∈ els, e.length = n) → els[q]? = some ds → ds[o]? = some d → els.flatten[q * n + o]? = some d
  | e :: els, 0, o, ds, d, hl, hq, ho => by
    simp at hq
    subst hq
    rw [Nat.zero_mul, Nat.zero_add, List.flatten_cons, List.getElem?_append_left (List.getElem?_eq_some_iff.1 ho).1]
    exact ho
  | e :: els, q + 1, o, ds, d, hl, hq, ho => by
    have he := hl e (List.mem_cons_self ..)
    rw [List.flatten_cons, List.getElem?_append_right (by rw [he, Nat.add_mul]; omega), he, show (q + 1) * n + o - n = q * n + o by rw [Nat.add_mul]; omega]
    exact flatten_get (fun x hx => hl x (List.mem_cons_of_mem _ hx)) (by simpa using hq) ho
theorem flatten_set {n : Nat} : ∀ {els : List (List D)} {q o : Nat} {ds : List D} {d : D}, (∀ e ∈ els, e.length = n) → els[q]? = some ds → o < n → (els.set q (ds.set o d)).flatten = els.flatten.set (q * n + o) d
  | e :: els, 0, o, ds, d, hl, hq, ho => by
    have he := hl e (List.mem_cons_self ..)
    simp at hq
    subst hq
    rw [Nat.zero_mul, Nat.zero_add, List.set_cons_zero, List.flatten_cons, List.flatten_cons, List.set_append_left _ _ (by omega)]
  | e :: els, q + 1, o, ds, d, hl, hq, ho => by
    have he := hl e (List.mem_cons_self ..)
    rw [List.set_cons_succ, List.flatten_cons, List.flatten_cons, List.set_append_right _ _ (by rw [he, Nat.add_mul]; omega), he, show (q + 1) * n + o - n = q * n + o by rw [Nat.add_mul]; omega]
    rw [flatten_set (fun x hx => hl x (List.mem_cons_of_mem _ hx)) (by simpa using hq) ho]

theorem buf_lens {I : Imm} {b T n : Nat} {els : List (List D)} {F : List Res} {w : World} (h : Inv I (rBuf b T n els :: F) w) : ∀ e ∈ els, e.length = n := by
  obtain ⟨hb, o, h3, cs, h4, h5, h6⟩ := h.own _ (List.mem_cons_self ..)
  exact h5

theorem loc_loadBufF {t T n b q o : Nat} [ht : TyV P t false 1] {x : Operand} {els : List (List D)} {ds : List D} {d : D} (hx : opd g x = some (dVal (ptr b (q * n + o)))) (hm : In (rBuf b T n els) M) (hq : els[q]? = some ds) (ho : ds[o]? = some d) :
    LocP P ⟨dst, .load t x, ty, pos, after, gd⟩ g N M d :=
  locP_of_run fun I a w hs hinv => by
    have hp : a.eval x = .pointer (some ⟨b, q * n + o, none⟩) := opd_sound hs hx
    obtain ⟨cs, hb, h5, h6⟩ := own_buf hinv hm.mem
    obtain ⟨v, hv, hd⟩ := relL_get h6 _ d (flatten_get h5 hq ho)
    refine ⟨v, ?_, hd⟩
    have hc : w.cell? ⟨b, q * n + o, none⟩ = some v := by simp [World.cell?, hb]; simpa using hv
    have hl : (load (⟨b, q * n + o, none⟩ : Addr)).run P w = .ok v w := by rw [run_load, hc]
    simp [execOp, hp, Instr.loadAt, Instr.sureAddr, loadVar, run_isAgg ht, -run_load, hl]

theorem loc_storeBufF {t T n b q o : Nat} [ht : TyV P t false 1] {x y : Operand} {els : List (List D)} {ds : List D} {d : D} [hone : One d] (hx : opd g x = some (dVal (ptr b (q * n + o)))) (hy : opd g y = some d) (hq : els[q]? = some ds) (ho : o < n) :
    LocM P ⟨none, .store t x y, ty, pos, after, gd⟩ g N [rBuf b T n els] (fun _ : Unit => True) (fun _ => dTop) (fun _ => [rBuf b T n (els.set q (ds.set o d))]) := by
  constructor
  intro F I a w K Q hs hi hK
  have hl := buf_lens hi
  have hds : ds.length = n := hl ds (List.mem_of_getElem? hq)
  have hlen : q * n + o < (els.flatten.map fun d => [d]).length := by
    have h1 : ds[o]? = some ds[o] := List.getElem?_eq_getElem (by omega)
    have := (List.getElem?_eq_some_iff.1 (flatten_get hl hq h1)).1
    rw [List.length_map]
    exact this
  refine (loc_storeBuf1 (q := q * n + o) (T := T) (els := els.flatten.map fun d => [d]) (by rw [Nat.mul_one]; exact hx) hy hlen).go F I a w K Q hs (inv_flat hi) fun u v w' J h0 h1 h2 h3 => hK u v w' J h0 h1 h2 ?_
  refine inv_unflat ?_ (flatten_set hl hq ho) (n := n) (fl := els.flatten.set (q * n + o) d) ?_
  · intro e he
    rcases List.mem_or_eq_of_mem_set he with he | rfl
    · exact hl e he
    · rw [List.length_set]; exact hds
  · rw [List.map_set]; exact h3
end Go.Q

namespace Go.Q

/-! ### What the loop itself lays -/

def rReady (l : Nat) (r : Loop) : Res := ⟨some l, fun _ o => o = some (.loop { r with state := .ready, pending := none }), fun _ h => h⟩
def rBusy (l : Nat) (r : Loop) : Res := ⟨some l, fun _ o => o = some (.loop { r with state := .busy, pending := none }), fun _ h => h⟩
def rDef (D : Nat) : Res := ⟨some D, fun _ o => o = some (.deferred (some [])), fun _ h => h⟩

theorem own_obj {I : Imm} {M : List Res} {w : World} {b : Nat} {o : Obj} {h0 : ∀ {I J : Imm} {o' : Option Obj}, I.le J → o' = some o → o' = some o} (h : Inv I M w) (hm : (⟨some b, fun _ o' => o' = some o, h0⟩ : Res) ∈ M) : w.heap[b]? = some o := by
  obtain ⟨_, o', h1, h2⟩ := h.own _ hm
  injection h2 with h2
  rw [h1, h2]

theorem inv_putObj {I : Imm} {M : List Res} {w : World} {r r' : Res} {b : Nat} {o : Obj} (h : Inv I (r :: M) w) (hk : r.key = some b) (hk' : r'.key = some b) (hs : r'.sat I (some o)) : Inv I (r' :: M) (w.putObj b o) := by
  have h1 := h.own r (List.mem_cons_self ..)
  unfold Res.ok at h1
  rw [hk] at h1
  obtain ⟨_, o1, h3, _⟩ := h1
  have hb := (Array.getElem?_eq_some_iff.1 h3).1
  exact h.write hk hk' rfl rfl rfl (fun c hc _ => World.putObj_heap_other hc) (World.putObj_heap_same hb) hs

/-! ### Iterators -/

/-- A call of yield at these values is a round that goes on. -/
def Yields (P : Program) (l : Nat) (us : List Value) (w : World) (R : World → Prop) : Prop :=
  ∃ fn tmps assign body, (Instr.yield l us.toArray).run P w = .ok (.round l fn tmps assign body) w ∧ RoundIn (FR none) 0 P l fn tmps assign body w (fun e w' => e = .returned (.bool true) ∧ R w')

/-- What the caller of an iterator brings. -/
def YOk (P : Program) (l : Nat) {α : Type} (c : α → List D) (xs : List α) {σ : Type} (φ : Nat → σ → Prop) (Mo : Nat → σ → List Res) (I0 : Imm) : Prop :=
  ∀ (F : List Res) (i : Nat) (x : α) (s : σ) (I1 : Imm) (w1 : World) (us : List Value), xs[i]? = some x → φ i s → I0.le I1 → relL (c x) I1 us → Inv I1 (Mo i s ++ F) w1 →
    Yields P l us w1 fun w2 => ∃ s' I2, φ (i + 1) s' ∧ I1.le I2 ∧ Inv I2 (Mo (i + 1) s' ++ F) w2

/-- A function that gives each of xs, in their order. -/
def IterOk (P : Program) (gf : FuncId) (lb : List Value) {α : Type} (c : α → List D) (xs : List α) (Rs : List Res) (J0 : Imm) : Prop :=
  ∀ (l : Nat) (σ : Type) (φ : Nat → σ → Prop) (Mo : Nat → σ → List Res) (F0 : List Res) (s0 : σ) (I : Imm) (w : World), J0.le I → φ 0 s0 → Inv I (Mo 0 s0 ++ (Rs ++ F0)) w → YOk P l c xs φ Mo I →
    Calls P gf (#[.func (.yield l) #[] #[]] ++ lb.toArray) w fun e w' => ∃ v, e = .returned v ∧ ∃ s' , φ xs.length s' ∧ ∃ I', I.le I' ∧ dTop.rel I' v ∧ Inv I' (Mo xs.length s' ++ (Rs ++ F0)) w'

/-- An iterator over xs, that reads what is in Rs. -/
def dSeqR (P : Program) {α : Type} (c : α → List D) (xs : List α) (Rs : List Res) : D :=
  ⟨fun I v => ∃ (gf : FuncId) (lb : List Value), v = .func (.func gf) #[] lb.toArray ∧ TyFn P gf ∧ IterOk P gf lb c xs Rs I,
   fun h ⟨gf, lb, e, h1, h2⟩ => ⟨gf, lb, e, h1, fun l σ φ Mo F0 s0 I w hle => h2 l σ φ Mo F0 s0 I w (h.trans hle)⟩⟩

abbrev dSeq (P : Program) {α : Type} (c : α → List D) (xs : List α) : D := dSeqR P c xs []

variable {P : Program} {f : FuncId} {N : Nat} {I0 : Imm} {R : Goal} {g : G} {M : List Res} {k : List Item}

/-- An iterator's contract, out of its body. -/
theorem iter_of_body {fn : Func} {cd : Code} {caps : List D} {α : Type} {c : α → List D} {xs : List α} {Rs : List Res} (hf : P.funcs[f]? = some fn) (hb : fn.body = some cd) (hN : Nat.ble (caps.length + 1) fn.ntmps = true)
    (h : ∀ (l : Nat) (σ : Type) (φ : Nat → σ → Prop) (Mo : Nat → σ → List Res) (F0 : List Res) (s0 : σ) (I : Imm), φ 0 s0 → YOk P l c xs φ Mo I →
      Run P f fn.ntmps I (Post I (φ xs.length) (fun _ => dTop) (Mo xs.length) (Rs ++ F0)) (start 0 (dVal (.func (.yield l) #[] #[]) :: caps)) (Mo 0 s0 ++ (Rs ++ F0)) [.code cd]) :
    ∀ (I : Imm) (lb : List Value), relL caps I lb → IterOk P f lb c xs Rs I := by
  intro J0 lb hlb l σ φ Mo F0 s0 I w hle h0 hi hy
  have := goes_enter (vs := .func (.yield l) #[] #[] :: lb) (ds := dVal (.func (.yield l) #[] #[]) :: caps) rfl rfl hf hb (by have := relL_length hlb; have := Nat.le_of_ble_eq_true hN; simp; omega) ⟨rfl, relL_mono hle hlb⟩ hi (h l σ φ Mo F0 s0 I h0 hy)
  have e : (Value.func (.yield l) #[] #[] :: lb).toArray = #[.func (.yield l) #[] #[]] ++ lb.toArray := by simp
  rw [e] at this
  exact this

variable {ty : TypeId} {pos : String} {after : Array Edge} {ops : Array Oper} {rest : List Oper}

/-- A call of yield. -/
theorem run_yieldOp {l : Nat} {α : Type} {c : α → List D} {xs : List α} {σ : Type} {φ : Nat → σ → Prop} {Mo : Nat → σ → List Res} (hy : YOk P l c xs φ Mo I0) {i : Nat} {x : α} {s : σ} {F : List Res} {y : Operand} {args : List Operand} {ats : Array TypeId} {Ds : List D} {dst : Tmp}
    (hyv : opd g y = some (dVal (.func (.yield l) #[] #[]))) (ha : opds g args = some Ds) (hN : Nat.blt dst N = true) (hx : xs[i]? = some x) (hφ : φ i s) (hM : M = Mo i s ++ F) (hD : ∀ I us, relL Ds I us → relL (c x) I us)
    (h : ∀ s', φ (i + 1) s' → RunL P f N I0 R ((dst, dB True) :: g) (Mo (i + 1) s' ++ F) ops rest k) :
    RunL P f N I0 R g M ops (⟨some dst, .call ⟨.value y, args.toArray, ats⟩, ty, pos, after, none⟩ :: rest) k := by
  subst hM
  constructor
  intro I a w b cs hb hk hl hs hi
  refine wpListIn_plain rfl fun K hK => ?_
  obtain ⟨fn, tmps, assign, body, h1, h2⟩ := hy F i x s I w (args.map a.eval) hx hφ hl (hD _ _ (opds_sound hs ha)) hi
  refine ⟨fun _ _ => trivial, ?_⟩
  rw [Oper.semAt_eq _ _ _ (by intro c hc; cases hc)]
  have hev : ∀ z, (R.act a).eval z = a.eval z := fun z => by cases z <;> rfl
  have he : (execOp (R.act a).eval ⟨some dst, .call ⟨.value y, args.toArray, ats⟩, ty, pos, after, none⟩).run P w = .ok (.round l fn tmps assign body) w := by
    have hfun : (R.act a).eval = a.eval := funext hev
    rw [hfun]
    have hyy : a.eval y = .func (.yield l) #[] #[] := opd_sound hs hyv
    have ht : List.take args.length (args.map a.eval) = args.map a.eval := List.take_of_length_le (by simp)
    simp [execOp, resolve, invoke, hyy, ht, Deferred.ofValue]
    simpa using h1
  rw [he]
  refine ⟨fun hd => Bool.noConfusion hd, ?_⟩
  refine RoundIn.mono (F := FR R.round) (n := 0) h2 ?_
  rintro e w' ⟨rfl, s', I2, h3, h4, h5⟩
  refine hK _ _ ?_
  have hput : (R.act a).put (some dst) (.bool true) = R.act (a.put (some dst) (.bool true)) := rfl
  rw [hput]
  exact (h s' h3).go I2 _ w' b cs hb hk (hl.trans h4) ((hs.mono h4).put ⟨true, rfl, by simp⟩ (by simpa [Nat.blt_eq] using hN)) h5

/-- A closure asL an iterator. -/
theorem clo_seq {fn : FuncId} {caps : List D} {α : Type} {c : α → List D} {xs : List α} {Rs : List Res} [hf : TyFn P fn] (h : ∀ (I : Imm) (lb : List Value), relL caps I lb → IterOk P fn lb c xs Rs I) : ∀ I v, (dClo fn caps).rel I v → (dSeqR P c xs Rs).rel I v := by
  rintro I v ⟨cap, rfl, hr⟩
  exact ⟨fn, cap.toList, by simp, hf, h I _ hr⟩

/-! ### Rounds -/

/-- The goal of a round: its body ends, and the loop goes on. -/
def roundG (l : Nat) (post : World → Prop) : Goal := { round := some l, post := fun e w => e = .returned (.bool true) ∧ post w }

theorem run_beginR {l : Nat} {r : Loop} {post : World → Prop} {C : Res → List Res} {F : List Res} (hs : Sel (rReady l r) M C F) (h : Run P f N I0 (roundG l post) g (C (rBusy l r)) k) : Run P f N I0 (roundG l post) g M (.beginRound :: k) := by
  constructor
  intro I a w b cs hb hk hl hsl hi
  have h2 := hi.perm hs.perm.1
  have hw := own_obj h2 (List.mem_cons_self ..)
  have hr := Go.run_beginRound (P := P) hw rfl
  refine .step (.one (stepR_beginRound hk.2 hr)) (h.go I a _ b cs hb hk hl hsl ?_)
  exact (inv_putObj (r' := rBusy l r) h2 rfl rfl rfl).perm (hs.perm.2 _)

theorem run_roundEnd {l : Nat} {r : Loop} {σ : Type} {φ : σ → Prop} {Mo : σ → List Res} {F1 : List Res} {C : Res → List Res} {F : List Res} (s' : σ) (hφ : φ s') (hs : Sel (rBusy l r) M C F) (hM : C (rReady l r) = rReady l r :: (Mo s' ++ F1)) :
    Run P f N I0 (roundG l fun w => ∃ s' I2, φ s' ∧ I0.le I2 ∧ Inv I2 (rReady l r :: (Mo s' ++ F1)) w) g M [] := by
  constructor
  intro I a w b cs hb hk hl hsl hi
  have h2 := hi.perm hs.perm.1
  have hw := own_obj h2 (List.mem_cons_self ..)
  have hr := run_endRound (P := P) none hw
  show ∀ c cs0, cs = c :: cs0 → _
  rintro c cs0 rfl
  refine ⟨.bool true, _, ⟨rfl, s', I, hφ, hl, ?_⟩, .one (stepR_round_end hk.2 hk.1 hr)⟩
  rw [← hM]
  exact (inv_putObj (r' := rReady l r) h2 rfl rfl rfl).perm (hs.perm.2 _)

@[reducible] def Goal.mark (R : Goal) (D : Nat) : Goal := { R with marks := { target := .collected D, args := #[] } :: R.marks }

@[reducible] def setP : List Tmp → List D → G → G
  | [], _, g => g
  | _, [], g => g
  | p :: ps, d :: ds, g => setP ps ds ((p, d) :: g)

theorem slots_setP {I : Imm} : ∀ {ps : List Tmp} {ds : List D} {us : List Value} {g : G} {tmps : Array Value}, (∀ p ∈ ps, p < N) → ps.length = us.length → relL ds I us → Slots g N I { tmps := tmps, defers := [] } →
    Slots (setP ps ds g) N I { tmps := (ps.zip us).foldl (fun t (p, u) => t.setIfInBounds p u) tmps, defers := [] }
  | [], ds, [], g, tmps, _, _, _, hs => by cases ds <;> exact hs
  | p :: ps, [], u :: us, g, tmps, _, _, hr, _ => by cases hr
  | p :: ps, d :: ds, u :: us, g, tmps, hp, hl, hr, hs => by
    have h1 := hs.put (k := p) (d := d) (v := u) hr.1 (hp p (List.mem_cons_self ..))
    exact slots_setP (ps := ps) (ds := ds) (us := us) (fun q hq => hp q (List.mem_cons_of_mem _ hq)) (by simpa using hl) hr.2 h1

/-- A range over a function, of which no round leaves the loop. -/
theorem run_rangeFunc {gx : Operand} {ps : List Tmp} {assign body : Code} {α : Type} {c : α → List D} {xs : List α} {σ : Type} (φ : Nat → σ → Prop) (Mo : Nat → σ → List Res) {F Rs : List Res} (s0 : σ)
    (hro : R.round = none) (hms : R.marks = []) (hg : opd g gx = some (dSeqR P c xs Rs)) (hps : ∀ x, (c x).length = ps.length) (hpN : ps.all (fun p => Nat.blt p N) = true) (h0 : φ 0 s0) (hM : M = Mo 0 s0 ++ (Rs ++ F))
    (hround : ∀ (i : Nat) (x : α) (s : σ) (l : Nat) (r : Loop) (F1 : List Res) (J : Imm), xs[i]? = some x → φ i s →
      Run P f N J (roundG l fun w => ∃ s' I2, φ (i + 1) s' ∧ J.le I2 ∧ Inv I2 (rReady l r :: (Mo (i + 1) s' ++ F1)) w) (setP ps (c x) g) (rReady l r :: (Mo i s ++ F1)) [.code assign, .beginRound, .code body])
    (hdone : ∀ (D : Nat) (s : σ), φ xs.length s → Run P f N I0 (R.mark D) g (rDef D :: (Mo xs.length s ++ (Rs ++ F))) k) :
    Run P f N I0 R g M (.code (.rangeFunc gx ps.toArray assign body) :: k) := by
  subst hM
  constructor
  intro I a w b cs hb hk hl hs hi
  obtain ⟨gf, lb, hgv, hfn, hit⟩ := opd_sound hs hg
  let r : Loop := { state := .ready, pending := none, fn := f, tmps := a.tmps, params := ps.toArray, assign, body, defers := w.heap.size }
  let w1 := (w.alloc (.deferred (some []))).alloc (.loop r)
  have he : (Instr.enterLoop b.fn (R.act a).tmps ps.toArray assign body b.roundOf).run P w = .ok (w.heap.size + 1, [{ target := .collected w.heap.size, args := #[] }]) w1 := by
    rw [hk.2, hro, hb]
    exact run_enterLoop_outer _ _ _ _ _
  have hev : (R.act a).eval gx = .func (.func gf) #[] lb.toArray := by
    have : (R.act a).eval gx = a.eval gx := by cases gx <;> rfl
    rw [this]; exact hgv
  have hres : (resolve (R.act a).eval (rangeCall gx (w.heap.size + 1)) 0).run P w1 = .ok { target := .fn (.func gf) lb.toArray, args := #[.func (.yield (w.heap.size + 1)) #[] #[]] } w1 := by
    simp only [resolve, hev]
    simp [go_sem]
  have hinv : (invoke (Target.fn (.func gf) lb.toArray) #[.func (.yield (w.heap.size + 1)) #[] #[]]).run P w1 = .ok (.enter gf (#[.func (.yield (w.heap.size + 1)) #[] #[]] ++ lb.toArray)) w1 := by
    simp [invoke, go_sem, run_callFunc hfn]
  have hstep := stepR_rangeFunc (P := P) (b := b) (a := R.act a) (k := k) (cs := cs) (w := w) he hres hinv
  have hi1 : Inv I (rReady (w.heap.size + 1) r :: (Mo 0 s0 ++ (Rs ++ (rDef w.heap.size :: F)))) w1 := by
    have h1 := hi.allocOwn (.deferred (some [])) (rDef w.heap.size) rfl rfl
    have h2 := h1.allocOwn (.loop r) (rReady (w.alloc (.deferred (some []))).heap.size r) rfl rfl
    rw [World.size_alloc] at h2
    exact h2.perm (.cons _ ((List.perm_middle.symm).trans ((List.perm_middle.symm).append_left _)))
  have hcalls := hit (w.heap.size + 1) σ φ (fun i s => rReady (w.heap.size + 1) r :: Mo i s) (rDef w.heap.size :: F) s0 I w1 I.le_refl h0 hi1 ?_
  · obtain ⟨e, w2, fr, hpost, hsteps, hfr, hleave⟩ := hcalls (b.atR { R.act a with defers := [{ target := .collected w.heap.size, args := #[] }] ++ (R.act a).defers } (.inRangeFunc (w.heap.size + 1) :: k) :: cs)
    obtain ⟨v, rfl, s', hφ', I', hle', _, hi'⟩ := hpost
    have hw2 := own_obj hi' (List.mem_cons_self ..)
    have hend := run_endLoop (P := P) hw2 (by simp)
    have sback := step_leave_returned (c := b.atR { R.act a with defers := [{ target := .collected w.heap.size, args := #[] }] ++ (R.act a).defers } (.inRangeFunc (w.heap.size + 1) :: k)) (cs := cs) hleave
    rw [finish_atR_inRangeFunc] at sback
    have send := stepR_endRangeFunc (P := P) (b := b) (a := { R.act a with defers := [{ target := .collected w.heap.size, args := #[] }] ++ (R.act a).defers }) (k := k) (cs := cs) hend
    refine .step (Steps.trans (.one hstep) (Steps.trans hsteps (Steps.trans (.one sback) (.one send)))) ?_
    have hi2 : Inv I' (rDef w.heap.size :: (Mo xs.length s' ++ (Rs ++ F))) (w2.putObj (w.heap.size + 1) (.loop { r with state := .exhausted, pending := none })) := by
      have h1 := inv_putObj (r' := ⟨some (w.heap.size + 1), fun _ o => o = some (.loop { r with state := .exhausted, pending := none }), fun _ h => h⟩) hi' rfl rfl rfl
      exact (inv_tail h1).perm ((List.perm_middle.append_left _).trans List.perm_middle)
    have := (hdone w.heap.size s' hφ').go I' a _ b cs hb ⟨hk.1, hk.2⟩ (hl.trans hle') (hs.mono hle') hi2
    exact this
  · intro F1 i x s I1 w1 us hx hφ hle hus hi1
    have hw1 := own_obj hi1 (List.mem_cons_self ..)
    have hlen : us.length = ps.length := by rw [← relL_length hus, hps]
    have hy := Go.run_yield (P := P) (args := us.toArray) hw1 (by show us.toArray.size = ps.toArray.size; simpa using hlen)
    refine ⟨f, _, assign, body, hy, trivial, fun c0 cs0 _ => ?_⟩
    let b0 : Frame := { (default : Frame) with fn := f, kind := .normal, roundOf := some (w.heap.size + 1) }
    have hpN' : ∀ p ∈ ps, p < N := fun p hp => by
      have := List.all_eq_true.1 hpN p hp
      simpa [Nat.blt_eq] using this
    have hs1 : Slots g N I1 { tmps := a.tmps, defers := [] } := by
      have := hs.mono hle
      exact ⟨this.size, rfl, fun k d hk => this.slot k d hk⟩
    have hsl := slots_setP (ps := ps) (ds := c x) (us := us) hpN' hlen.symm hus hs1
    have hgo := (hround i x s (w.heap.size + 1) r F1 I1 hx hφ).go I1 _ w1 b0 (c0 :: cs0) rfl ⟨rfl, rfl⟩ I1.le_refl hsl hi1
    obtain ⟨v, w3, ⟨rfl', s', I2, h1, h2, h3⟩, hst⟩ := hgo c0 cs0 rfl
    injection rfl' with hv
    subst hv
    refine ⟨.returned (.bool true), w3, ⟨rfl, s', I2, h1, h2, h3⟩, ?_⟩
    have hfr : Frame.round (w.heap.size + 1) f ((ps.toArray.zip us.toArray).foldl (fun tmps (t, u) => tmps.setIfInBounds t u) a.tmps) assign body .normal = b0.atR ((roundG (w.heap.size + 1) fun w_1 => ∃ s' I2, φ (i + 1) s' ∧ I1.le I2 ∧ Inv I2 (rReady (w.heap.size + 1) r :: (Mo (i + 1) s' ++ F1)) w_1).act { tmps := (ps.zip us).foldl (fun t (p, u) => t.setIfInBounds p u) a.tmps, defers := [] }) [.code assign, .beginRound, .code body] := by
      simp [Frame.round, Frame.atR, b0, roundG, Goal.act]
    rw [hfr]
    exact stepsIn_wide.2 hst

/-! ### The way out with a mark -/

theorem goes_retMk {fn : Func} {a : Act} {b : Frame} {cs : List Frame} {w : World} {v : Value} {D : Nat} (hf : P.funcs[f]? = some fn) (hb : b.fn = f) (hk : b.kind = .normal ∧ b.roundOf = R.round) (hw : w.heap[D]? = some (.deferred (some [])))
    (hr : (results fn a.tmps).run P (w.putObj D (.deferred none)) = .ok v (w.putObj D (.deferred none)))
    (hR : R.post (.returned v) (w.putObj D (.deferred none))) (hro : R.round = none := by rfl) (hms : R.marks = [{ target := .collected D, args := #[] }] := by rfl) : Goes P f R (b.atR (R.act a) (.code .ret :: k)) cs w := by
  have s1 := stepR_ret (P := P) (b := b) (a := R.act a) (k := k) (cs := cs) (w := w) (hk.2.trans hro)
  have s2 := step_collected (P := P) (cs := cs) (fr := { b.atR (R.act a) (.code .ret :: k) with mode := .returning }) (by simp) (d := { target := .collected D, args := #[] }) (ds := []) hms rfl (run_takeDeferred hw)
  unfold Goes
  rw [hro]
  exact ⟨.returned v, _, { { b.atR (R.act a) (.code .ret :: k) with mode := .returning } with defers := [] ++ [] }, hR, Steps.trans (.one s1) (.one s2), hb, rfl, rfl, hk.1, fn, by simpa [Frame.atR, hb] using hf, hr⟩

theorem inv_unmark {I : Imm} {D : Nat} {F : List Res} {w : World} (h : Inv I (rDef D :: F) w) : w.heap[D]? = some (.deferred (some [])) ∧ Inv I F (w.putObj D (.deferred none)) :=
  ⟨own_obj h (List.mem_cons_self ..), inv_tail (inv_putObj (r' := ⟨some D, fun _ o => o = some (.deferred none), fun _ h => h⟩) h rfl rfl rfl)⟩

theorem run_retMk {fn : Func} {rs : List ResultVar} {ds : List D} {σ : Type} {φ : σ → Prop} {d : σ → D} {Mout : σ → List Res} {F0 F : List Res} {C : Res → List Res} {D : Nat} (s : σ) (hsel : Sel (rDef D) M C F) (hf : P.funcs[f]? = some fn) (hr : fn.results = rs.toArray) (h : ResOk P g F rs ds)
    (hle : ∀ I v, (retD ds).rel I v → (d s).rel I v) (hφ : φ s) (hM : ∀ I w, Inv I F w → Inv I (Mout s ++ F0) w) : Run P f N I0 ((Post I0 φ d Mout F0).mark D) g M (.code .ret :: k) :=
  ⟨fun _ a w _ _ hb hk hl hs hi => by
    obtain ⟨h1, h2⟩ := inv_unmark (hi.perm hsel.perm.1)
    obtain ⟨_, h3, h4⟩ := results_ok hr h hs h2
    exact goes_retMk hf hb hk h1 h3 ⟨_, rfl, s, hφ, _, hl, hle _ _ h4, hM _ _ h2⟩⟩

theorem run_retPMk {fn : Func} {rs : List ResultVar} {ds : List D} {d : D} {M0 F : List Res} {C : Res → List Res} {D : Nat} (hsel : Sel (rDef D) M C F) (hf : P.funcs[f]? = some fn) (hr : fn.results = rs.toArray) (h : ResOk P g F rs ds)
    (hle : ∀ I v, (retD ds).rel I v → d.rel I v) (hM : ∀ I w, Inv I F w → Inv I M0 w) : Run P f N I0 ((PostP I0 d M0).mark D) g M (.code .ret :: k) :=
  ⟨fun _ a w _ _ hb hk hl hs hi => by
    obtain ⟨h1, h2⟩ := inv_unmark (hi.perm hsel.perm.1)
    obtain ⟨_, h3, h4⟩ := results_ok hr h hs h2
    exact goes_retMk hf hb hk h1 h3 ⟨_, rfl, _, hl, hle _ _ h4, hM _ _ h2⟩⟩

/-! ### Functions without results -/

theorem run_ret0End {fn : Func} {σ : Type} {φ : σ → Prop} {d : σ → D} {Mout : σ → List Res} {F : List Res} (s : σ) (hf : P.funcs[f]? = some fn) (hr : fn.results = #[]) (hle : ∀ I v, (dTup []).rel I v → (d s).rel I v) (hφ : φ s) (hM : ∀ I w, Inv I M w → Inv I (Mout s ++ F) w) : Run P f N I0 (Post I0 φ d Mout F) g M [] :=
  ⟨fun _ a w _ _ hb hk hl hs hi => let ⟨_, h1, h2⟩ := results_ok (rs := []) (ds := []) hr .nil hs hi; goes_end hf hb hk h1 ⟨_, rfl, s, hφ, _, hl, hle _ _ h2, hM _ _ hi⟩⟩
theorem run_ret0 {fn : Func} {σ : Type} {φ : σ → Prop} {d : σ → D} {Mout : σ → List Res} {F : List Res} (s : σ) (hf : P.funcs[f]? = some fn) (hr : fn.results = #[]) (hle : ∀ I v, (dTup []).rel I v → (d s).rel I v) (hφ : φ s) (hM : ∀ I w, Inv I M w → Inv I (Mout s ++ F) w) : Run P f N I0 (Post I0 φ d Mout F) g M (.code .ret :: k) :=
  ⟨fun _ a w _ _ hb hk hl hs hi => let ⟨_, h1, h2⟩ := results_ok (rs := []) (ds := []) hr .nil hs hi; goes_ret hf hb hk h1 ⟨_, rfl, s, hφ, _, hl, hle _ _ h2, hM _ _ hi⟩⟩

end Go.Q

namespace Go.Q
variable {P : Program} {N : Nat} {g : G} {M : List Res}
variable {dst : Option Tmp} {ty : TypeId} {pos : String} {after : Array Edge} {gd : Option (Nat × Bool)} {x y : Operand} {t t' : TypeId} {m n : Int}

theorem loc_and1 (hx : opd g x = some (dInt .i64 m)) (hy : opd g y = some (dInt .i64 1)) (h : 0 ≤ m ∧ m < 9223372036854775808) : LocP P ⟨dst, .binOp .and t x y t', ty, pos, after, gd⟩ g N M (dInt .i64 (m % 2)) :=
  locP_of_run fun I a w hs _ => by
    refine ⟨_, run_binOp_int (opd_sound hs hx) (opd_sound hs hy) (by simp [binOp, Op.intBits]; rfl), ?_⟩
    obtain ⟨c, rfl⟩ := Int.eq_ofNat_of_zero_le h.1
    have e1 : (BitVec.ofInt 64 (c : Int)).toNat = c := by rw [BitVec.toNat_ofInt]; omega
    have e2 : (BitVec.ofInt 64 (1 : Int)).toNat = 1 := by decide
    show Value.int .i64 (IntKind.i64.wrap ((BitVec.ofInt 64 (c : Int) &&& BitVec.ofInt 64 1).toNat : Nat)) = _
    rw [BitVec.toNat_and, e1, e2, Nat.and_one_is_mod, IntWalk.i64_in _ (by omega)]
    congr 1
theorem loc_min (hx : opd g x = some (dInt .i64 m)) (hy : opd g y = some (dInt .i64 n)) : LocP P ⟨dst, .call ⟨.builtin .min, #[x, y], #[t, t']⟩, ty, pos, after, gd⟩ g N M (dInt .i64 (min m n)) :=
  locP_of_run fun I a w hs _ => by
    have h1 := opd_sound hs hx
    have h2 := opd_sound hs hy
    refine ⟨.int .i64 (min m n), ?_, rfl⟩
    simp [execOp, resolve, invoke, builtin, show a.eval x = .int .i64 m from h1, show a.eval y = .int .i64 n from h2, run_min_int2]
    rw [Int.min_def]
    split <;> split <;> first | rfl | omega | (congr 1; omega)
theorem loc_max (hx : opd g x = some (dInt .i64 m)) (hy : opd g y = some (dInt .i64 n)) : LocP P ⟨dst, .call ⟨.builtin .max, #[x, y], #[t, t']⟩, ty, pos, after, gd⟩ g N M (dInt .i64 (max m n)) :=
  locP_of_run fun I a w hs _ => by
    have h1 := opd_sound hs hx
    have h2 := opd_sound hs hy
    refine ⟨.int .i64 (max m n), ?_, rfl⟩
    simp [execOp, resolve, invoke, builtin, show a.eval x = .int .i64 m from h1, show a.eval y = .int .i64 n from h2, run_max_int2]
    rw [Int.max_def]
    split <;> split <;> first | rfl | omega | (congr 1; omega)
section
variable {dst : Option Tmp}
theorem loc_buildOwn {t e : TypeId} [ht : TySl P t e] {bytes n : Nat} {z : Value} {agg : Bool} [hz : TyZ P e bytes z] [hv : TyV P e agg n] {len : Nat} {α : Type} {f' : α → List D} {xs : List α} {ps : List (Nat × Operand)} {lls : List (List D)}
    (hps : ps = ((ps.map (·.2)).zipIdx 0).map fun p => (p.2, p.1)) (hlen : ps.length = len) (hp : Parts g (ps.map (·.2)) lls) (hx : lls = xs.map f') (hn : (lls.all fun l => Nat.beq l.length n) = true) (hbig : (Nat.ble (len * n) 16777216 && Nat.ble len 16777216) = true) :
    LocM P ⟨dst, .buildSlice t len ps.toArray, ty, pos, after, gd⟩ g N [] (fun _ : Nat => True) (fun b => dVal (.slice (some ⟨b, 0, none⟩) len len)) (fun b => [rRow (.slice (some ⟨b, 0, none⟩) len len) e n f' xs]) := by
    constructor
    intro F I a w K Q hs hi hK
    obtain ⟨css, h1, h2, h3⟩ := hp.vals hs
    obtain ⟨i, hin, hiz, his, hib⟩ := info_of_z hz hv
    simp only [Bool.and_eq_true] at hbig
    have hlm := Nat.le_of_ble_eq_true hbig.2
    have hlls : ∀ l ∈ lls, l.length = n := fun l hl => Nat.eq_of_beq_eq_true (List.all_eq_true.1 hn l hl)
    have hcs : ∀ cs ∈ css, cs.length = n := by
      intro cs hcs
      obtain ⟨j, hj⟩ := List.getElem?_of_mem hcs
      have hjl : j < lls.length := by rw [← h1]; exact (List.getElem?_eq_some_iff.1 hj).1
      obtain ⟨cs', h4, h5⟩ := h3 j lls[j] (by simp [hjl])
      rw [hj] at h4
      injection h4 with h4
      subst h4
      rw [← relL_length h5]
      exact hlls _ (List.getElem_mem ..)
    have hcl : css.length = len := by rw [← h2]; simp [hlen]
    let vs := (ps.map (·.2)).map a.eval
    have hvs : ∀ v ∈ vs, v.cells.size = n := by
      intro v hv
      obtain ⟨x, hx, rfl⟩ := List.mem_map.1 hv
      have := hcs ((a.eval x).cells.toList) (by rw [← h2]; exact List.mem_map.2 ⟨x, hx, rfl⟩)
      simpa using this
    let ar : Array Value := (Array.range (len * n)).map ((if len * n = 0 then #[] else z.cells)[· % (if len * n = 0 then #[] else z.cells).size]!)
    have hars : ar.size = len * n := by simp [ar]
    obtain ⟨ar', hf, hr⟩ := run_fill vs 0 ar hvs (by rw [hars]; simp [vs, hlen])
    have hal : ar'.toList = css.flatten := by
      rw [hr]
      simp only [Nat.zero_mul, List.take_zero, List.nil_append, Nat.zero_add]
      have hvl : vs.length = len := by simp [vs, hlen]
      rw [hvl, List.drop_eq_nil_of_le (by simp [hars]), List.append_nil, ← h2]
      simp [vs, List.flatMap, List.map_map, Function.comp_def]
    have hrun : (execOp a.eval ⟨dst, .buildSlice t len ps.toArray, ty, pos, after, gd⟩).run P w = .ok (.value (.slice (some ⟨w.heap.size, 0, none⟩) len len)) (w.alloc (.cells ar' e)) := by
      have hmap : (ps.toArray.map fun (p : Nat × Operand) => (p.1, a.eval p.2)).toList = (vs.zipIdx 0).map fun p => (p.2, p.1) := by
        rw [Array.toList_map]
        have : ∀ (xs : List Operand) (k : Nat), ((xs.zipIdx k).map fun p => (p.2, p.1)).map (fun (p : Nat × Operand) => (p.1, a.eval p.2)) = ((xs.map a.eval).zipIdx k).map fun p => (p.2, p.1) := by
          intro xs
          induction xs with
          | nil => intro k; rfl
          | cons x xs ih => intro k; simp only [List.zipIdx_cons, List.map_cons]; rw [ih]
        rw [← this, ← hps]
      have hsz := run_sizeOf hv w
      have hsl := run_underlying ht.eq w
      have hb : ¬ (16777216 < len * n) := by have := Nat.le_of_ble_eq_true hbig.1; omega
      simp only [execOp, Instr.buildSlice, Sem.run_bind, hsl, Result.andThen_ok, hsz]
      rw [if_neg (by simpa using hb)]
      have hf2 : Instr.fill (fun i => some (i * n, n)) ar (ps.toArray.map fun (p : Nat × Operand) => (p.1, a.eval p.2)).toList = some ar' := by rw [hmap]; exact hf
      by_cases h0 : len * n = 0
      · have har : ar = (Array.range (len * n)).map ((#[] : Array Value)[· % (#[] : Array Value).size]!) := by simp only [ar, if_pos h0]
        rw [har] at hf2
        rw [if_pos h0]
        simp only [Sem.run_bind, Sem.run_pure, Result.andThen_ok, hf2]
        simp [newRow]
      · have har : ar = (Array.range (len * n)).map (z.cells[· % z.cells.size]!) := by simp only [ar, if_neg h0]
        rw [har] at hf2
        rw [if_neg h0]
        have hzv : (zeroValue e).run P w = .ok z w := by simp [zeroValue, typeInfo, hin, hiz]
        simp only [Sem.run_bind, Sem.run_pure, Result.andThen_ok, hzv, hf2]
        simp [newRow]
    have hrel := relL_flat h1 h3
    rw [← hal] at hrel
    have hlle : lls.length = len := by rw [← h1, hcl]
    have hfl : relL (lls.flatMap fun l => l) I ar'.toList := by simpa [List.flatMap] using hrel
    have hxl : xs.length = len := by rw [← hlle, hx]; simp
    have hfl2 : relL (xs.flatMap f') I ar'.toList := by rw [hx] at hfl; simpa [List.flatMap, List.map_map, Function.comp_def] using hfl
    have hxn : ∀ x ∈ xs, (f' x).length = n := fun x hxm => hlls _ (by rw [hx]; exact List.mem_map_of_mem hxm)
    have hsz2 : ar'.size = len * n := by
      have e1 := relL_length hfl2
      rw [flatMap_length hxn, hxl] at e1
      simpa using e1.symm
    unfold Oper.wp
    rw [hrun]
    refine hK w.heap.size _ _ I trivial I.le_refl rfl (hi.allocOwn _ _ rfl ⟨w.heap.size, len, ar', by rw [hxl], rfl, hsz2, by omega, by simp only [maxLen]; omega, by unfold lenMax; omega, hxn, ?_⟩)
    rw [hxl, ← hsz2, List.take_of_length_le (by simp)]
    exact hfl2

end

theorem LocP.imp {o : Oper} {d d' : D} (h : LocP P o g N M d) (hd : ∀ I v, d.rel I v → d'.rel I v) : LocP P o g N M d' :=
  ⟨fun I a w K Q hs hi hK => h.go I a w K Q hs hi fun v w' J h1 h2 h3 => hK v w' J h1 (hd _ _ h2) h3⟩
theorem relL3 {a b c : D} {I : Imm} {vs : List Value} (h : relL [a, b, c] I vs) : ∃ u v x, vs = [u, v, x] ∧ a.rel I u ∧ b.rel I v ∧ c.rel I x := by
  match vs, h with
  | [u, v, x], ⟨h1, h2, h3, _⟩ => exact ⟨u, v, x, rfl, h1, h2, h3⟩
theorem d_tup3 {a a' b b' c c' : D} (h1 : ∀ I v, a.rel I v → a'.rel I v) (h2 : ∀ I v, b.rel I v → b'.rel I v) (h3 : ∀ I v, c.rel I v → c'.rel I v) : ∀ I v, (dTup [a, b, c]).rel I v → (dTup [a', b', c']).rel I v := by
  rintro I v ⟨cs, e, r⟩
  obtain ⟨u, w, x, e2, r1, r2, r3⟩ := relL3 r
  exact ⟨cs, e, by rw [e2]; exact ⟨h1 _ _ r1, h2 _ _ r2, h3 _ _ r3, trivial⟩⟩
theorem d_toTape {d : D} {t t' : Tape} (e : t = t') (h : ∀ I v, d.rel I v → (dTape t').rel I v) : ∀ I v, d.rel I v → (dTape t).rel I v := e ▸ h
theorem d_toInts {d : D} {t t' : List Int} (e : t = t') (h : ∀ I v, d.rel I v → (dInts t').rel I v) : ∀ I v, d.rel I v → (dInts t).rel I v := e ▸ h
theorem d_toRows {d : D} {t t' : List (List Int)} (e : t = t') (h : ∀ I v, d.rel I v → (dRows t').rel I v) : ∀ I v, d.rel I v → (dRows t).rel I v := e ▸ h
end Go.Q

namespace Go.Q
variable {P : Program} {g : G} {N : Nat} {M : List Res} {dst : Option Tmp} {ty : TypeId} {pos : String} {after : Array Edge} {gd : Option (Nat × Bool)}

abbrev fU8 : Int → List D := fun x => [dInt .u8 x]
/-- A slice of bytes, of any length that memory bears. -/
def dBy (xs : List Int) : D :=
  ⟨fun I v => ∃ a cap, v = .slice a xs.length cap ∧ xs.length ≤ cap ∧ cap ≤ maxLen ∧ xs.length ≤ 140737488355328 ∧ (∀ i x, xs[i]? = some x → ∃ p, a = some p ∧ p.spot = none ∧ I.at (p.add (i * 1)) [dInt .u8 x]),
   fun h ⟨a, cap, e, h1, h2, h3, h4⟩ => ⟨a, cap, e, h1, h2, h3, fun i x hx => let ⟨p, h6, h7, h8⟩ := h4 i x hx; ⟨p, h6, h7, Imm.at_mono h h8⟩⟩⟩


theorem dBy_sl {xs : List Int} (h : xs.length ≤ 17592186044416) : ∀ I v, (dBy xs).rel I v → (dSl 1 fU8 xs).rel I v := by
  rintro I v ⟨a, cap, e, h1, h2, h3, h4⟩
  exact ⟨a, cap, e, h1, h2, h, fun i x hx => let ⟨p, h5, h6, h7⟩ := h4 i x hx; ⟨rfl, p, h5, h6, h7⟩⟩

theorem loc_lenBy {t e : TypeId} [ht : TySl P t e] {x : Operand} {xs : List Int} (hx : opd g x = some (dBy xs)) : LocP P ⟨dst, .call ⟨.builtin .len, #[x], #[t]⟩, ty, pos, after, gd⟩ g N M (dInt .i64 (xs.length : Nat)) :=
  locP_of_run fun I a w hs hi => by
    obtain ⟨b, cap, hp, _⟩ := opd_sound hs hx
    exact ⟨.int .i64 xs.length, by simp [execOp, resolve, invoke, builtin, Builtin.len_, hp, run_underlying ht.eq, goInt], rfl⟩

theorem loc_sliceToBy {t e : TypeId} {agg : Bool} {n : Nat} [ht : TySl P t e] [hv : TyV P e agg n] {x hi : Operand} {xs : List Int} {kd : IntKind} {j : Int} (hx : opd g x = some (dBy xs)) (hy : opd g hi = some (dInt kd j)) (h : 0 ≤ j ∧ j ≤ xs.length ∧ j ≤ 17592186044416) :
    LocP P ⟨dst, .slice t x none (some hi) none, ty, pos, after, gd⟩ g N M (dSl 1 fU8 (xs.take j.toNat)) :=
  locP_of_run fun I a w hs hinv => by
    obtain ⟨b, cap, hp, h1, h2, h3, h4⟩ := opd_sound hs hx
    have hyv : a.eval hi = .int kd j := opd_sound hs hy
    have hc : (0 ≤ j ∧ j ≤ (cap : Int)) := by omega
    refine ⟨.slice (if cap = 0 then b else b.map (·.add 0)) j.toNat cap, ?_, b, cap, ?_, by rw [List.length_take]; omega, h2, by rw [List.length_take]; unfold lenMax; omega, fun i x hx => ?_⟩
    · simp [execOp, Instr.sliceAt, Instr.slice, hp, hyv, run_underlying ht.eq, Instr.sliceBounds, Instr.sliceBound, asIntOf, hc, run_sizeOf hv]
    · have : (if cap = 0 then b else b.map (·.add 0)) = b := by
        split
        · rfl
        · cases b with
          | none => rfl
          | some p => simp [Addr.add_zero']
      rw [this, List.length_take]
      congr 1
      omega
    · rw [List.getElem?_take] at hx
      split at hx
      · obtain ⟨p, h5, h6, h7⟩ := h4 i x hx
        exact ⟨rfl, p, h5, h6, h7⟩
      · cases hx

/-! ### A guard that is entered again -/

theorem loc_andH {c0 : Prop} (hg : c0) {c b : Operand} {p q : Prop} (hc : opd g c = some (dIf c0 (dB p))) (hb : opd g b = some (dIf (c0 ∧ p) (dB q))) : LocP P ⟨dst, .pick c b (.const (.bool false)), ty, pos, after, gd⟩ g N M (dB (p ∧ q)) :=
  locP_of_run fun I a w hs _ => by
    obtain ⟨t, ht, hp⟩ := (opd_sound hs hc).1 hg
    have hq := opd_sound hs hb
    cases t with
    | false =>
      have hnp : ¬ p := fun h => by simpa using hp.2 h
      exact ⟨.bool false, by simp [execOp, ht, asBool, show a.eval (.const (.bool false)) = .bool false from rfl], false, rfl, by simp [hnp]⟩
    | true =>
      obtain ⟨u, hu, hq⟩ := hq.1 ⟨hg, hp.1 rfl⟩
      exact ⟨.bool u, by simp [execOp, ht, asBool, hu], u, rfl, by simp [hq, hp.1 rfl]⟩
theorem loc_orH {c0 : Prop} (hg : c0) {c b : Operand} {p q : Prop} (hc : opd g c = some (dIf c0 (dB p))) (hb : opd g b = some (dIf (c0 ∧ ¬ p) (dB q))) : LocP P ⟨dst, .pick c (.const (.bool true)) b, ty, pos, after, gd⟩ g N M (dB (p ∨ q)) :=
  locP_of_run fun I a w hs _ => by
    obtain ⟨t, ht, hp⟩ := (opd_sound hs hc).1 hg
    have hq := opd_sound hs hb
    cases t with
    | true => exact ⟨.bool true, by simp [execOp, ht, asBool, show a.eval (.const (.bool true)) = .bool true from rfl], true, rfl, by simp [hp.1 rfl]⟩
    | false =>
      have hnp : ¬ p := fun h => by simpa using hp.2 h
      obtain ⟨u, hu, hq⟩ := hq.1 ⟨hg, hnp⟩
      exact ⟨.bool u, by simp [execOp, ht, asBool, hu], u, rfl, by simp [hq, hnp]⟩

end Go.Q

namespace Go.Q
open Go.Proofs

open Classical
theorem has_spec (p x : Int) : SpecP Try.prog 95 [dInt .i64 p, dInt .i64 x] (dB (hasP p x)) := by
  refine specP_of_body Try.func95 rfl rfl (fun I M => ?_)
  refine run_seq ?_
  refine run_region ?_
  refine run_op (loc_assign rfl) rfl ?_
  refine run_nil ?_
  refine run_seq ?_
  refine run_region ?_
  refine run_op (loc_move rfl) rfl ?_
  refine run_op (loc_geq rfl rfl) rfl ?_
  refine run_op (loc_move rfl) rfl ?_
  refine run_gfirst rfl rfl (by first | exact guard_true _ | exact guard_false _ | exact guard_if (guard_true _) | exact guard_if (guard_false _)) (fun hg => loc_move rfl) rfl ?_
  refine run_gop rfl rfl (by first | exact guard_true _ | exact guard_false _ | exact guard_if (guard_true _) | exact guard_if (guard_false _)) (fun hg => loc_move rfl) rfl ?_
  refine run_gop rfl rfl (by first | exact guard_true _ | exact guard_false _ | exact guard_if (guard_true _) | exact guard_if (guard_false _)) (fun hg => loc_lss rfl rfl) rfl ?_
  refine run_gleave ?_
  refine run_op (loc_and rfl rfl) rfl ?_
  refine run_op (loc_assign rfl) rfl ?_
  refine run_nil ?_
  refine run_retP Try.func95 rfl rfl ?_
  exact fun _ _ h => h

theorem all1_spec (p x : Int) : SpecP Try.prog 94 [dInt .i64 x, dBox [dInt .i64 p]] (dB (¬ hasP p x)) := by
  refine specP_of_body Try.func94 rfl rfl (fun I M => ?_)
  refine run_seq ?_
  refine run_region ?_
  refine run_op (loc_assign rfl) rfl ?_
  refine run_nil ?_
  refine run_seq ?_
  refine run_region ?_
  refine run_op (loc_load1 rfl) rfl ?_
  refine run_op (loc_move rfl) rfl ?_
  refine run_op (loc_call (has_spec _ _) rfl) rfl ?_
  refine run_op (loc_not rfl) rfl ?_
  refine run_op (loc_assign rfl) rfl ?_
  refine run_nil ?_
  refine run_retP Try.func94 rfl rfl ?_
  exact fun _ _ h => h

theorem all_spec (p : Int) (xs : List Int) : SpecP Try.prog 80 [dInt .i64 p, dInts xs] (dB (∀ x ∈ xs, hasP p x)) := by
  refine specP_of_body Try.func80 rfl rfl (fun I M => ?_)
  refine run_seq ?_
  refine run_region ?_
  refine run_op (loc_box1 rfl) rfl ?_
  refine run_op (loc_assign rfl) rfl ?_
  refine run_nil ?_
  refine run_seq ?_
  refine run_region ?_
  refine run_op (loc_move rfl) rfl ?_
  refine run_op (loc_makeFunc rfl) rfl ?_
  refine runL_recast (s := 6) rfl (clo_fun (Ds := fun x : Int => [dInt .i64 x]) (d := fun x => dB (¬ hasP p x)) (fun x => all1_spec p x)) ?_
  refine run_op (loc_call (containsFuncI_spec (fun x => ¬ hasP p x) _) rfl) rfl ?_
  refine run_op (loc_not rfl) rfl ?_
  refine run_op (loc_assign rfl) rfl ?_
  refine run_nil ?_
  refine run_retP Try.func80 rfl rfl ?_
  exact d_B (by simp)

theorem of_spec (p : Int) : SpecP Try.prog 65 [dAgg [dInt .i64 p]] (dTup [dInt .i64 (ofP p), dB (okP p)]) := by
  refine specP_of_body Try.func65 rfl rfl (fun I M => ?_)
  refine run_seq ?_
  refine run_region ?_
  refine run_op (loc_boxN rfl) rfl ?_
  refine run_op (loc_assign rfl) rfl ?_
  refine run_op (loc_assign rfl) rfl ?_
  refine run_nil ?_
  refine run_seq ?_
  refine run_seq ?_
  refine run_region ?_
  refine run_op (loc_fieldAddr rfl) rfl ?_
  refine run_op (loc_load1 rfl) rfl ?_
  refine run_op (loc_lss rfl rfl) rfl ?_
  refine run_op (loc_move rfl) rfl ?_
  refine run_gfirst rfl rfl (by first | exact guard_true _ | exact guard_false _ | exact guard_if (guard_true _) | exact guard_if (guard_false _)) (fun hg => loc_fieldAddr rfl) rfl ?_
  refine run_gop rfl rfl (by first | exact guard_true _ | exact guard_false _ | exact guard_if (guard_true _) | exact guard_if (guard_false _)) (fun hg => loc_load1 rfl) rfl ?_
  refine run_gop rfl rfl (by first | exact guard_true _ | exact guard_false _ | exact guard_if (guard_true _) | exact guard_if (guard_false _)) (fun hg => loc_gtr rfl rfl) rfl ?_
  refine run_gleave ?_
  refine run_op (loc_or rfl rfl) rfl ?_
  refine run_nil ?_
  refine run_cond rfl (fun h1 => ?_) (fun h1 => ?_)
  ·
    refine run_seq ?_
    refine run_region ?_
    refine run_op (loc_assign rfl) rfl ?_
    refine run_op (loc_assign rfl) rfl ?_
    refine run_nil ?_
    refine run_ret2P Try.func65 rfl rfl rfl ?_
    exact d_tup2 (d_int (by unfold ofP; rw [if_neg (by unfold okP; omega)])) (d_B (by unfold okP; simp; omega))
  ·
    refine run_skip ?_
    refine run_seq ?_
    refine run_seq ?_
    refine run_region ?_
    refine run_op (loc_assign rfl) rfl ?_
    refine run_nil ?_
    refine run_block ?_
    refine run_loopC (σ := Int) (ks := [1]) (.cons rfl (.nil)) (fun d => [(4, dInt .i64 d)]) (fun d => 2 ≤ d ∧ d ≤ 256 ∧ ∀ e : Int, 2 ≤ e → e < d → p % e ≠ 0) (fun d => (p + 2 - d).toNat) (2) (⟨by omega, by omega, fun e h1 h2 => by omega⟩) (.cons rfl (by first | exact fun _ _ h => h | exact d_int (by omega) | exact d_int (by simp) | exact d_intN (by omega) | exact d_any) .nil) ?_
    rintro d ⟨hd1, hd2, hb⟩ ih2
    have hm := mul_bd (a := d) (b := d) (A := 256) (B := 256) (by omega) hd2 (by omega) hd2
    refine run_seq ?_
    refine run_seq ?_
    refine run_region ?_
    refine run_op (loc_move rfl) rfl ?_
    refine run_op (loc_move rfl) rfl ?_
    first | refine run_op (loc_mul rfl rfl (by first | omega | assumption)) rfl ?_ | refine run_op (loc_mulW rfl rfl) rfl ?_
    refine run_op (loc_fieldAddr rfl) rfl ?_
    refine run_op (loc_load1 rfl) rfl ?_
    refine run_op (loc_leq rfl rfl) rfl ?_
    refine run_nil ?_
    refine run_cond rfl (fun h3 => ?_) (fun h3 => ?_)
    ·
      refine run_skip ?_
      refine run_seq ?_
      refine run_block ?_
      refine run_seq ?_
      refine run_region ?_
      refine run_op (loc_fieldAddr rfl) rfl ?_
      refine run_op (loc_load1 rfl) rfl ?_
      refine run_op (loc_move rfl) rfl ?_
      first | refine run_op (loc_rem rfl rfl (by first | omega | assumption)) rfl ?_ | refine run_op (loc_remW rfl rfl (by first | omega | assumption)) rfl ?_
      refine run_op (loc_eql rfl rfl) rfl ?_
      refine run_nil ?_
      refine run_cond rfl (fun h4 => ?_) (fun h4 => ?_)
      ·
        refine run_seq ?_
        refine run_region ?_
        refine run_op (loc_assign rfl) rfl ?_
        refine run_op (loc_assign rfl) rfl ?_
        refine run_nil ?_
        refine run_ret2P Try.func65 rfl rfl rfl ?_
        exact d_tup2 (d_int (by unfold ofP; rw [if_neg (fun h => h.2.2 d hd1 (by assumption) (by assumption))])) (d_B ⟨False.elim, fun h => h.2.2 d hd1 (by assumption) (by assumption)⟩)
      ·
        refine run_skip ?_
        refine run_inBlock ?_
        refine run_region ?_
        refine run_op (loc_move rfl) rfl ?_
        first | refine run_op (loc_add rfl rfl (by first | omega | assumption)) rfl ?_ | refine run_op (loc_addW rfl rfl) rfl ?_
        refine run_op (loc_assign rfl) rfl ?_
        refine run_nil ?_
        exact run_againC ih2 (d + 1) (⟨by omega, by by_cases e : d = 256; (· subst e; omega); (· omega), fun e h1 h2 => by by_cases e2 : e = d; (· subst e2; assumption); (· exact hb e h1 (by omega))⟩) (by have := Int.mul_le_mul_of_nonneg_left hd1 (show 0 ≤ d by omega); omega) (.cons rfl (by first | exact fun _ _ h => h | exact d_int (by omega) | exact d_int (by simp) | exact d_intN (by omega) | exact d_any) .nil) (.cons rfl (fun _ _ x => x) (.nil))
    ·
      refine run_exit rfl ?_
      refine run_seq ?_
      refine run_region ?_
      refine run_op (loc_fieldAddr rfl) rfl ?_
      refine run_op (loc_load1 rfl) rfl ?_
      refine run_op (loc_assign rfl) rfl ?_
      refine run_op (loc_assign rfl) rfl ?_
      refine run_nil ?_
      refine run_ret2P Try.func65 rfl rfl rfl ?_
      have hok : okP p := ⟨by omega, by omega, fun e h1 h2 => hb e h1 (by by_cases e3 : e < d; (· exact e3); (· exfalso; have := mul_bd (a := d) (b := d) (A := e) (B := e) (by omega) (by omega) (by omega) (by omega); omega))⟩
      exact d_tup2 (d_int (by unfold ofP; rw [if_pos hok])) (d_B (by simp [hok]))

theorem rcheck3_spec (p : Int) : SpecP Try.prog 47 [dAgg [dInt .i64 p]] (dInt .i64 (errP p)) := by
  refine specP_of_body Try.func47 rfl rfl (fun I M => ?_)
  refine run_seq ?_
  refine run_region ?_
  refine run_op (loc_boxN rfl) rfl ?_
  refine run_op (loc_assign rfl) rfl ?_
  refine run_nil ?_
  refine run_seq ?_
  refine run_seq ?_
  refine run_region ?_
  refine run_op (loc_fieldAddr rfl) rfl ?_
  refine run_op (loc_load1 rfl) rfl ?_
  refine run_op (loc_lss rfl rfl) rfl ?_
  refine run_op (loc_move rfl) rfl ?_
  refine run_gfirst rfl rfl (by first | exact guard_true _ | exact guard_false _ | exact guard_if (guard_true _) | exact guard_if (guard_false _)) (fun hg => loc_fieldAddr rfl) rfl ?_
  refine run_gop rfl rfl (by first | exact guard_true _ | exact guard_false _ | exact guard_if (guard_true _) | exact guard_if (guard_false _)) (fun hg => loc_load1 rfl) rfl ?_
  refine run_gop rfl rfl (by first | exact guard_true _ | exact guard_false _ | exact guard_if (guard_true _) | exact guard_if (guard_false _)) (fun hg => loc_gtr rfl rfl) rfl ?_
  refine run_gleave ?_
  refine run_op (loc_or rfl rfl) rfl ?_
  refine run_nil ?_
  refine run_cond rfl (fun h1 => ?_) (fun h1 => ?_)
  ·
    refine run_seq ?_
    refine run_region ?_
    refine run_op (loc_assign rfl) rfl ?_
    refine run_nil ?_
    refine run_retP Try.func47 rfl rfl ?_
    exact d_int (by unfold errP; rw [if_neg (by unfold okP; omega)])
  ·
    refine run_skip ?_
    refine run_seq ?_
    refine run_seq ?_
    refine run_region ?_
    refine run_op (loc_assign rfl) rfl ?_
    refine run_nil ?_
    refine run_block ?_
    refine run_loopC (σ := Int) (ks := [1]) (.cons rfl (.nil)) (fun d => [(3, dInt .i64 d)]) (fun d => 2 ≤ d ∧ d ≤ 256 ∧ ∀ e : Int, 2 ≤ e → e < d → p % e ≠ 0) (fun d => (p + 2 - d).toNat) (2) (⟨by omega, by omega, fun e h1 h2 => by omega⟩) (.cons rfl (by first | exact fun _ _ h => h | exact d_int (by omega) | exact d_int (by simp) | exact d_intN (by omega) | exact d_any) .nil) ?_
    rintro d ⟨hd1, hd2, hb⟩ ih2
    have hm := mul_bd (a := d) (b := d) (A := 256) (B := 256) (by omega) hd2 (by omega) hd2
    refine run_seq ?_
    refine run_seq ?_
    refine run_region ?_
    refine run_op (loc_move rfl) rfl ?_
    refine run_op (loc_move rfl) rfl ?_
    first | refine run_op (loc_mul rfl rfl (by first | omega | assumption)) rfl ?_ | refine run_op (loc_mulW rfl rfl) rfl ?_
    refine run_op (loc_fieldAddr rfl) rfl ?_
    refine run_op (loc_load1 rfl) rfl ?_
    refine run_op (loc_leq rfl rfl) rfl ?_
    refine run_nil ?_
    refine run_cond rfl (fun h3 => ?_) (fun h3 => ?_)
    ·
      refine run_skip ?_
      refine run_seq ?_
      refine run_block ?_
      refine run_seq ?_
      refine run_region ?_
      refine run_op (loc_fieldAddr rfl) rfl ?_
      refine run_op (loc_load1 rfl) rfl ?_
      refine run_op (loc_move rfl) rfl ?_
      first | refine run_op (loc_rem rfl rfl (by first | omega | assumption)) rfl ?_ | refine run_op (loc_remW rfl rfl (by first | omega | assumption)) rfl ?_
      refine run_op (loc_eql rfl rfl) rfl ?_
      refine run_nil ?_
      refine run_cond rfl (fun h4 => ?_) (fun h4 => ?_)
      ·
        refine run_seq ?_
        refine run_region ?_
        refine run_op (loc_assign rfl) rfl ?_
        refine run_nil ?_
        refine run_retP Try.func47 rfl rfl ?_
        exact d_int (by unfold errP; rw [if_neg (fun h => h.2.2 d hd1 (by assumption) (by assumption))])
      ·
        refine run_skip ?_
        refine run_inBlock ?_
        refine run_region ?_
        refine run_op (loc_move rfl) rfl ?_
        first | refine run_op (loc_add rfl rfl (by first | omega | assumption)) rfl ?_ | refine run_op (loc_addW rfl rfl) rfl ?_
        refine run_op (loc_assign rfl) rfl ?_
        refine run_nil ?_
        exact run_againC ih2 (d + 1) (⟨by omega, by by_cases e : d = 256; (· subst e; omega); (· omega), fun e h1 h2 => by by_cases e2 : e = d; (· subst e2; assumption); (· exact hb e h1 (by omega))⟩) (by have := Int.mul_le_mul_of_nonneg_left hd1 (show 0 ≤ d by omega); omega) (.cons rfl (by first | exact fun _ _ h => h | exact d_int (by omega) | exact d_int (by simp) | exact d_intN (by omega) | exact d_any) .nil) (.cons rfl (fun _ _ x => x) (.nil))
    ·
      refine run_exit rfl ?_
      refine run_seq ?_
      refine run_region ?_
      refine run_op (loc_assign rfl) rfl ?_
      refine run_nil ?_
      refine run_retP Try.func47 rfl rfl ?_
      have hok : okP p := ⟨by omega, by omega, fun e h1 h2 => hb e h1 (by by_cases e3 : e < d; (· exact e3); (· exfalso; have := mul_bd (a := d) (b := d) (A := e) (B := e) (by omega) (by omega) (by omega) (by omega); omega))⟩
      exact d_int (by unfold errP; rw [if_pos hok])

theorem errP_zero {p : Int} : errP p = 0 ↔ okP p := by unfold errP; split <;> simp [*]
theorem fcheck_spec (p : Int) : SpecP Try.prog 46 [dAgg [dInt .i64 p]] (dInt .i64 (errP p)) := by
  refine specP_of_body Try.func46 rfl rfl (fun I M => ?_)
  refine run_seq ?_
  refine run_region ?_
  refine run_op (loc_boxN rfl) rfl ?_
  refine run_op (loc_assign rfl) rfl ?_
  refine run_nil ?_
  refine run_seq ?_
  refine run_seq ?_
  refine run_region ?_
  refine run_op (loc_loadN rfl rfl) rfl ?_
  refine run_op (loc_call (of_spec _) rfl) rfl ?_
  refine run_op (loc_move rfl) rfl ?_
  refine run_op (loc_extract rfl rfl) rfl ?_
  refine run_op (loc_extract rfl rfl) rfl ?_
  refine run_op (loc_assign rfl) rfl ?_
  refine run_op (loc_assign rfl) rfl ?_
  refine run_nil ?_
  refine run_seq ?_
  refine run_region ?_
  refine run_op (loc_move rfl) rfl ?_
  refine run_op (loc_not rfl) rfl ?_
  refine run_nil ?_
  refine run_cond rfl (fun h1 => ?_) (fun h1 => ?_)
  ·
    refine run_seq ?_
    refine run_region ?_
    refine run_op (loc_assign rfl) rfl ?_
    refine run_nil ?_
    refine run_retP Try.func46 rfl rfl ?_
    exact d_int (by unfold errP; rw [if_neg (by assumption)])
  ·
    refine run_skip ?_
    refine run_seq ?_
    refine run_region ?_
    refine run_op (loc_assign rfl) rfl ?_
    refine run_nil ?_
    refine run_retP Try.func46 rfl rfl ?_
    exact d_int (by unfold errP; rw [if_pos (Classical.not_not.1 (by assumption))])

theorem fadd_spec (p a b : Int) (h : 2 ≤ p ∧ p ≤ 65521) (ha : 0 ≤ a ∧ a ≤ 65521) (hb : 0 ≤ b ∧ b ≤ 65521) : SpecP Try.prog 97 [dInt .i64 p, dInt .i64 a, dInt .i64 b] (dInt .i64 ((a + b) % p)) := by
  refine specP_of_body Try.func97 rfl rfl (fun I M => ?_)
  refine run_seq ?_
  refine run_region ?_
  refine run_op (loc_assign rfl) rfl ?_
  refine run_nil ?_
  refine run_seq ?_
  refine run_region ?_
  refine run_op (loc_move rfl) rfl ?_
  refine run_op (loc_move rfl) rfl ?_
  first | refine run_op (loc_add rfl rfl (by first | omega | assumption)) rfl ?_ | refine run_op (loc_addW rfl rfl) rfl ?_
  refine run_op (loc_move rfl) rfl ?_
  first | refine run_op (loc_rem rfl rfl (by first | omega | assumption)) rfl ?_ | refine run_op (loc_remW rfl rfl (by first | omega | assumption)) rfl ?_
  refine run_op (loc_assign rfl) rfl ?_
  refine run_nil ?_
  refine run_retP Try.func97 rfl rfl ?_
  exact fun _ _ h => h

theorem fmul_spec (p a b : Int) (h : 2 ≤ p ∧ p ≤ 65521) (ha : 0 ≤ a ∧ a ≤ 65521) (hb : 0 ≤ b ∧ b ≤ 65521) : SpecP Try.prog 98 [dInt .i64 p, dInt .i64 a, dInt .i64 b] (dInt .i64 (a * b % p)) := by
  have hm := mul_bd ha.1 ha.2 hb.1 hb.2
  refine specP_of_body Try.func98 rfl rfl (fun I M => ?_)
  refine run_seq ?_
  refine run_region ?_
  refine run_op (loc_assign rfl) rfl ?_
  refine run_nil ?_
  refine run_seq ?_
  refine run_region ?_
  refine run_op (loc_move rfl) rfl ?_
  refine run_op (loc_move rfl) rfl ?_
  first | refine run_op (loc_mul rfl rfl (by first | omega | assumption)) rfl ?_ | refine run_op (loc_mulW rfl rfl) rfl ?_
  refine run_op (loc_move rfl) rfl ?_
  first | refine run_op (loc_rem rfl rfl (by first | omega | assumption)) rfl ?_ | refine run_op (loc_remW rfl rfl (by first | omega | assumption)) rfl ?_
  refine run_op (loc_assign rfl) rfl ?_
  refine run_nil ?_
  refine run_retP Try.func98 rfl rfl ?_
  exact fun _ _ h => h

theorem power_spec (p a : Int) (n : Nat) (h : 2 ≤ p ∧ p ≤ 65521) (ha : 0 ≤ a ∧ a ≤ 65521) (hn : n ≤ 65521) : SpecP Try.prog 85 [dInt .i64 p, dInt .i64 a, dInt .i64 (n : Nat)] (dInt .i64 (powM p a n)) := by
  refine specP_of_body Try.func85 rfl rfl (fun I M => ?_)
  refine run_seq ?_
  refine run_region ?_
  refine run_op (loc_assign rfl) rfl ?_
  refine run_nil ?_
  refine run_seq ?_
  refine run_region ?_
  refine run_op (loc_assign rfl) rfl ?_
  refine run_nil ?_
  refine run_seq ?_
  refine run_block ?_
  refine run_loopC (σ := Int × Int × Nat) (ks := [0]) (.cons rfl (.nil)) (fun s => [(1, dInt .i64 s.2.1), (2, dInt .i64 (s.2.2 : Nat)), (7, dInt .i64 s.1)]) (fun s => (0 ≤ s.1 ∧ s.1 < p) ∧ (0 ≤ s.2.1 ∧ s.2.1 ≤ 65521) ∧ s.2.2 ≤ 65521 ∧ s.1 * s.2.1 ^ s.2.2 % p = powM p a n) (fun s => s.2.2) ((1, a, n)) (⟨⟨by omega, by simp only; omega⟩, ha, hn, by rw [Int.one_mul]; rfl⟩) (.cons rfl (by first | exact fun _ _ h => h | exact d_int (by omega) | exact d_int (by simp) | exact d_intN (by omega) | exact d_any) (.cons rfl (by first | exact fun _ _ h => h | exact d_int (by omega) | exact d_int (by simp) | exact d_intN (by omega) | exact d_any) (.cons rfl (by first | exact fun _ _ h => h | exact d_int (by omega) | exact d_int (by simp) | exact d_intN (by omega) | exact d_any) .nil))) ?_
  rintro s ⟨hx, hb, hm, he⟩ ih1
  have hbb := mod_bd (s.2.1 * s.2.1) (show 0 < p by omega)
  have hxb := mod_bd (s.1 * s.2.1) (show 0 < p by omega)
  refine run_seq ?_
  refine run_seq ?_
  refine run_region ?_
  refine run_op (loc_move rfl) rfl ?_
  refine run_op (loc_gtr rfl rfl) rfl ?_
  refine run_nil ?_
  refine run_cond rfl (fun h2 => ?_) (fun h2 => ?_)
  ·
    refine run_skip ?_
    refine run_seq ?_
    refine run_block ?_
    refine run_seq ?_
    refine run_seq ?_
    refine run_region ?_
    refine run_op (loc_move rfl) rfl ?_
    refine run_op (loc_and1 rfl rfl (by first | omega | assumption)) rfl ?_
    refine run_op (loc_eql rfl rfl) rfl ?_
    refine run_nil ?_
    refine run_joinC (σ := Int) (ks := [0, 1, 2]) (.cons rfl (.cons rfl (.cons rfl (.nil)))) (fun y => [(7, dInt .i64 y)]) (fun y => (0 ≤ y ∧ y < p) ∧ y * (s.2.1 * s.2.1 % p) ^ (s.2.2 / 2) % p = powM p a n) (fun j3 => ?_) ?_
    ·
      refine run_cond rfl (fun h4 => ?_) (fun h4 => ?_)
      ·
        refine run_region ?_
        refine run_op (loc_move rfl) rfl ?_
        refine run_op (loc_move rfl) rfl ?_
        refine run_op (loc_move rfl) rfl ?_
        refine run_op (loc_call (fmul_spec _ _ _ h (by omega) (by omega)) rfl) rfl ?_
        refine run_op (loc_assign rfl) rfl ?_
        refine run_nil ?_
        exact run_atC j3 (s.1 * s.2.1 % p) (⟨hxb, by rw [pow_step1 p s.1 s.2.1 s.2.2 (by omega), he]⟩) (.cons rfl (by first | exact fun _ _ h => h | exact d_int (by omega) | exact d_int (by simp) | exact d_intN (by omega) | exact d_any) .nil) (.cons rfl (fun _ _ x => x) (.cons rfl (fun _ _ x => x) (.cons rfl (fun _ _ x => x) (.nil))))
      ·
        refine run_skip ?_
        exact run_atC j3 (s.1) (⟨hx, by rw [pow_step0 p s.1 s.2.1 s.2.2 (by omega), he]⟩) (.cons rfl (by first | exact fun _ _ h => h | exact d_int (by omega) | exact d_int (by simp) | exact d_intN (by omega) | exact d_any) .nil) (.cons rfl (fun _ _ x => x) (.cons rfl (fun _ _ x => x) (.cons rfl (fun _ _ x => x) (.nil))))
    rintro y ⟨hy, hye⟩
    refine run_region ?_
    refine run_op (loc_move rfl) rfl ?_
    refine run_op (loc_move rfl) rfl ?_
    refine run_op (loc_move rfl) rfl ?_
    refine run_op (loc_call (fmul_spec _ _ _ h (by omega) (by omega)) rfl) rfl ?_
    refine run_op (loc_assign rfl) rfl ?_
    refine run_nil ?_
    refine run_inBlock ?_
    refine run_region ?_
    refine run_op (loc_move rfl) rfl ?_
    refine run_op (loc_shrN (c := 1) (q := 2) rfl rfl rfl (by decide) (by first | omega | assumption) (by decide)) rfl ?_
    refine run_op (loc_assign rfl) rfl ?_
    refine run_nil ?_
    exact run_againC ih1 ((y, s.2.1 * s.2.1 % p, s.2.2 / 2)) (⟨hy, by simp only; omega, by simp only; omega, hye⟩) (by simp only; omega) (.cons rfl (by first | exact fun _ _ h => h | exact d_int (by omega) | exact d_int (by simp) | exact d_intN (by omega) | exact d_any) (.cons rfl (by first | exact fun _ _ h => h | exact d_int (by omega) | exact d_int (by simp) | exact d_intN (by omega) | exact d_any) (.cons rfl (by first | exact fun _ _ h => h | exact d_int (by omega) | exact d_int (by simp) | exact d_intN (by omega) | exact d_any) .nil))) (.cons rfl (fun _ _ x => x) (.nil))
  ·
    refine run_exit rfl ?_
    refine run_seq ?_
    refine run_region ?_
    refine run_op (loc_move rfl) rfl ?_
    refine run_op (loc_assign rfl) rfl ?_
    refine run_nil ?_
    refine run_retP Try.func85 rfl rfl ?_
    exact d_int (by rw [← he, show s.2.2 = 0 by omega, Int.pow_zero, Int.mul_one, Int.emod_eq_of_lt hx.1 hx.2])

theorem addTimes_spec (p x : Int) (v : Value) (to l : List Int) (h : 2 ≤ p ∧ p ≤ 65521) (hx : 0 ≤ x ∧ x ≤ 65521) (ht : ∀ t ∈ to, hasP p t) (hl : ∀ t ∈ l, hasP p t) (hlen : l.length ≤ to.length) : Spec Try.prog 84 [dInt .i64 p, dVal v, dInt .i64 x, dInts l] [rRow v 3 1 fI to] (σ := Unit) (fun _ => True) (fun _ => dTop) (fun _ => [rRow v 3 1 fI (addT p x to l)]) := by
  refine spec_of_body Try.func84 rfl rfl (fun I F => ?_)
  refine run_seq ?_
  refine run_region ?_
  refine run_op (loc_move rfl) rfl ?_
  first | refine runL_fact (s := 10) rfl (fun _ _ h => dSl_len h) (fun hlen1 => ?_) | skip
  refine run_op (loc_len rfl) rfl ?_
  refine run_op (loc_move rfl) rfl ?_
  refine run_nil ?_
  refine run_block ?_
  have hnil : addT p x to [] = to := addT_nil p x to
  refine run_weaken (M' := rRow v 3 1 fI (addT p x to (l.take 0)) :: F) (fun _ _ _ hs hi => ⟨hs, by rw [List.take_zero, hnil]; exact hi⟩) ?_
  refine run_loopF (σ := Nat) (ks := [0, 1, 2, 10, 11]) (.cons rfl (.cons rfl (.cons rfl (.cons rfl (.cons rfl (.nil)))))) (fun k => [(12, dInt .i64 (k : Nat))]) (fun k => [rRow v 3 1 fI (addT p x to (l.take k))]) (fun k => k ≤ l.length) (fun k => l.length - k) (0) (Nat.zero_le _) (.cons rfl (by first | exact fun _ _ h => h | exact d_int (by omega) | exact d_int (by simp) | exact d_intN (by omega) | exact d_any) .nil) (rfl) ?_
  intro k hk ih2
  have hal := addT_len p x to (l.take k)
  refine run_seq ?_
  refine run_region ?_
  refine run_op (loc_lss rfl rfl) rfl ?_
  refine run_nil ?_
  refine run_seq ?_
  refine run_cond rfl (fun h3 => ?_) (fun h3 => ?_)
  ·
    refine run_skip ?_
    refine run_seq ?_
    refine run_block ?_
    refine run_seq ?_
    refine run_region ?_
    refine run_op (loc_move rfl) rfl ?_
    first | refine run_op (loc_index rfl rfl (by first | omega | assumption)) rfl ?_ | refine run_op (loc_indexI rfl rfl (by first | omega | assumption)) rfl ?_
    refine run_op (loc_load1 rfl) rfl ?_
    refine run_op (loc_assign rfl) rfl ?_
    refine run_op (loc_assign rfl) rfl ?_
    refine run_nil ?_
    have h1 := ht (to[k]?.getD default) (getD_mem (by omega))
    have h2 := hl (l[k]?.getD default) (getD_mem (by omega))
    unfold hasP at h1 h2
    have h3 := mod_bd (x * (l[k]?.getD default)) (show 0 < p by omega)
    have h4 := addT_get p x to (l.take k) k (by rw [List.length_take]; omega)
    refine run_rowForm .here (by omega) (fun b cap hv => ?_)
    subst hv
    refine dr_start _ (.none) [⟨[(1, none)], [], none⟩,
        ⟨[(8, none)], [], none⟩,
        ⟨[(0, none)], [], none⟩,
        ⟨[(1, none)], [], none⟩,
        ⟨[(8, none)], [], none⟩,
        ⟨[(20, some (3, false)), (21, some (4, false))], [3, 4], none⟩,
        ⟨[(22, some (5, false))], [3, 4, 5], some (0, 0, false)⟩,
        ⟨[(0, none)], [], none⟩,
        ⟨[(2, none)], [], none⟩,
        ⟨[(9, none)], [], none⟩,
        ⟨[(24, some (7, false)), (25, some (8, false)), (26, some (9, false))], [7, 8, 9], none⟩,
        ⟨[(19, some (2, false)), (23, some (6, false)), (27, some (10, false))], [2, 3, 4, 5, 6, 7, 8, 9, 10], none⟩,
        ⟨[(17, some (0, false)), (18, some (1, false))], [0, 1, 2, 3, 4, 5, 6, 7, 8, 9, 10, 11], none⟩,
        ⟨[(29, some (12, false)), (28, some (11, false))], [0, 1, 2, 3, 4, 5, 6, 7, 8, 9, 10, 11, 12], some (0, 0, true)⟩] [_] _ rfl rfl ?_
    refine dq_pure rfl (fun s => .g rfl (.nil)) (fun s hs _ => loc_move rfl) (by exact .nil) ?_
    refine dq_pure rfl (fun s => .g rfl (.nil)) (fun s hs _ => loc_move rfl) (by exact .nil) ?_
    refine dq_pure rfl (fun s => .g rfl (.nil)) (fun s hs _ => loc_move rfl) (by exact .nil) ?_
    refine dq_pure rfl (fun s => .g rfl (.nil)) (fun s hs _ => loc_move rfl) (by exact .nil) ?_
    refine dq_pure rfl (fun s => .g rfl (.nil)) (fun s hs _ => loc_move rfl) (by exact .nil) ?_
    first | refine dq_pure rfl (fun s => .op rfl (.op rfl (.nil))) (fun s hs _ => loc_indexRow rfl rfl (by first | omega | assumption)) (by exact .nil) ?_ | refine dq_pure rfl (fun s => .op rfl (.op rfl (.nil))) (fun s hs _ => loc_indexRowI rfl rfl (by first | omega | assumption)) (by exact .nil) ?_
    refine dq_read rfl (fun s => .op rfl (.nil)) rfl rfl (fun s hs _ hm => loc_loadRow1 rfl hm (by first | omega | assumption)) (by exact .nil) ?_
    refine dq_pure rfl (fun s => .g rfl (.nil)) (fun s hs _ => loc_move rfl) (by exact .nil) ?_
    refine dq_pure rfl (fun s => .g rfl (.nil)) (fun s hs _ => loc_move rfl) (by exact .nil) ?_
    refine dq_pure rfl (fun s => .g rfl (.nil)) (fun s hs _ => loc_move rfl) (by exact .nil) ?_
    refine dq_pure rfl (fun s => .op rfl (.op rfl (.op rfl (.nil)))) (fun s hs _ => loc_call (fmul_spec _ _ _ h (by omega) (by omega)) rfl) (by exact .nil) ?_
    refine dq_pure rfl (fun s => .op rfl (.op rfl (.op rfl (.nil)))) (fun s hs _ => loc_call (fadd_spec _ _ _ h (by omega) (by omega)) rfl) (by exact .nil) ?_
    first | refine dq_pure rfl (fun s => .op rfl (.op rfl (.nil))) (fun s hs _ => loc_indexRow rfl rfl (by first | omega | assumption)) (by exact .nil) ?_ | refine dq_pure rfl (fun s => .op rfl (.op rfl (.nil))) (fun s hs _ => loc_indexRowI rfl rfl (by first | omega | assumption)) (by exact .nil) ?_
    refine dq_write0 rfl (fun s => .op rfl (.op rfl (.nil))) rfl rfl (fun s hs => loc_storeRow1 _ rfl rfl rfl (by first | omega | assumption)) (by exact .nil) ?_
    refine dq_end (rs := [_]) () rfl (fun _ => rfl) (.nil) rfl (fun _ _ => ?_)
    dsimp only [outG, outM, List.map, List.set, id]
    refine run_inBlock ?_
    refine run_region ?_
    first | refine run_op (loc_add rfl rfl (by first | omega | assumption)) rfl ?_ | refine run_op (loc_addW rfl rfl) rfl ?_
    refine run_op (loc_move rfl) rfl ?_
    refine run_nil ?_
    exact run_againF ih2 (k + 1) (by omega) (by omega) (.cons rfl (by first | exact fun _ _ h => h | exact d_int (by omega) | exact d_int (by simp) | exact d_intN (by omega) | exact d_any) .nil) (.cons rfl (fun _ _ x => x) (.cons rfl (fun _ _ x => x) (.cons rfl (fun _ _ x => x) (.cons rfl (fun _ _ x => x) (.cons rfl (fun _ _ x => x) (.nil)))))) (by simp only [appR]; rw [addT_take p x to l k (by omega) (by omega)]; congr 4; omega)
  ·
    refine run_exit rfl ?_
    refine run_ret0End (()) Try.func84 rfl  ?_ (trivial) (fun _ _ h => by rw [List.take_of_length_le (by omega)] at h; exact h)
    exact fun _ _ _ => trivial

theorem back1_iter (cs : List Int) : ∀ (I : Imm) (lb : List Value), relL [dBox [dInts cs]] I lb → IterOk Try.prog 126 lb (α := Int × Nat) (fun q => [dInt .i64 (q.2 : Nat), dInt .i64 q.1]) (backL cs) ([]) I := by
  refine iter_of_body Try.func126 rfl rfl (fun l σ φ Mo F s0 I h0 hy => ?_)
  refine run_seq ?_
  refine run_region ?_
  refine run_op (loc_load1 rfl) rfl ?_
  first | refine runL_fact (s := 4) rfl (fun _ _ h => dSl_len h) (fun hlen1 => ?_) | skip
  refine run_op (loc_len rfl) rfl ?_
  first | refine run_op (loc_sub rfl rfl (by first | omega | assumption)) rfl ?_ | refine run_op (loc_subW rfl rfl) rfl ?_
  refine run_op (loc_assign rfl) rfl ?_
  refine run_nil ?_
  refine run_block ?_
  refine run_loopE (σ := Nat × σ) (ks := [0, 1]) (.cons rfl (.cons rfl (.nil))) (fun s => [(3, dInt .i64 ((cs.length : Int) - 1 - s.1))]) (fun s => Mo s.1 s.2 ++ F) (fun s => s.1 ≤ cs.length ∧ φ s.1 s.2) (fun s => cs.length - s.1) ((0, s0)) (⟨Nat.zero_le _, h0⟩) (.cons rfl (d_int (by simp only; omega)) .nil) (rfl) ?_
  rintro t ⟨hi, hs⟩ ih2
  refine run_seq ?_
  refine run_seq ?_
  refine run_region ?_
  refine run_op (loc_move rfl) rfl ?_
  refine run_op (loc_geq rfl rfl) rfl ?_
  refine run_nil ?_
  refine run_cond rfl (fun h3 => ?_) (fun h3 => ?_)
  ·
    refine run_skip ?_
    refine run_seq ?_
    refine run_block ?_
    refine run_seq ?_
    refine run_region ?_
    refine run_op (loc_move rfl) rfl ?_
    refine run_op (loc_move rfl) rfl ?_
    refine run_op (loc_load1 rfl) rfl ?_
    refine run_op (loc_move rfl) rfl ?_
    first | refine run_op (loc_index rfl rfl (by first | omega | assumption)) rfl ?_ | refine run_op (loc_indexI rfl rfl (by first | omega | assumption)) rfl ?_
    refine run_op (loc_load1 rfl) rfl ?_
    refine run_yieldOp hy (i := t.1) (x := (cs[cs.length - 1 - t.1]?.getD default, cs.length - 1 - t.1)) (s := t.2) rfl rfl rfl (by unfold backL; rw [List.getElem?_reverse (by simp; omega)]; simp only [List.length_zipIdx, List.getElem?_zipIdx, Nat.zero_add]; rw [List.getElem?_eq_getElem (by omega)]; simp) hs rfl (fun I us hr => by match us, hr with | [u1, u2], hr => exact ⟨d_int (by omega) _ _ hr.1, d_int (by congr 2; omega) _ _ hr.2.1, trivial⟩) (fun s9 hs9 => ?_)
    refine run_op (loc_not rfl) rfl ?_
    refine run_nil ?_
    refine run_cond rfl (fun h4 => ?_) (fun h4 => ?_)
    · exfalso; simp at h4
    ·
      refine run_skip ?_
      refine run_inBlock ?_
      refine run_region ?_
      refine run_op (loc_move rfl) rfl ?_
      first | refine run_op (loc_sub rfl rfl (by first | omega | assumption)) rfl ?_ | refine run_op (loc_subW rfl rfl) rfl ?_
      refine run_op (loc_assign rfl) rfl ?_
      refine run_nil ?_
      exact run_againE ih2 ((t.1 + 1, s9)) (⟨by simp only; omega, hs9⟩) (by simp only; omega) (.cons rfl (d_int (by simp only; omega)) .nil) (.cons rfl (fun _ _ x => x) (.cons rfl (fun _ _ x => x) (.nil))) (rfl)
  ·
    refine run_exit rfl ?_
    refine run_ret0End (t.2) Try.func126 rfl  ?_ (by rw [backL_len, show cs.length = t.1 by omega]; exact hs) (fun _ _ h => by rw [backL_len, show cs.length = t.1 by omega]; exact h)
    exact fun _ _ _ => trivial

theorem backward_spec (cs : List Int) : SpecP Try.prog 124 [dInts cs] (dSeq Try.prog (fun q : Int × Nat => [dInt .i64 (q.2 : Nat), dInt .i64 q.1]) (backL cs)) := by
  refine specP_of_body Try.func124 rfl rfl (fun I M => ?_)
  refine run_seq ?_
  refine run_region ?_
  refine run_op (loc_box1 rfl) rfl ?_
  refine run_op (loc_assign rfl) rfl ?_
  refine run_nil ?_
  refine run_seq ?_
  refine run_region ?_
  refine run_op (loc_makeFunc rfl) rfl ?_
  refine run_op (loc_assign rfl) rfl ?_
  refine run_nil ?_
  refine run_retP Try.func124 rfl rfl ?_
  exact clo_seq (back1_iter cs)

theorem value_spec (p : Int) (cs : List Int) (x : Int) (h : 2 ≤ p ∧ p ≤ 65521) (hx : 0 ≤ x ∧ x ≤ 65521) (hc : ∀ c ∈ cs, hasP p c) : SpecP Try.prog 120 [dInt .i64 p, dInts cs, dInt .i64 x] (dInt .i64 (valP p cs x)) := by
  refine specP_of_body Try.func120 rfl rfl (fun I M => ?_)
  refine run_seq ?_
  refine run_region ?_
  refine run_op (loc_box1 rfl) rfl ?_
  refine run_op (loc_box1 rfl) rfl ?_
  refine run_op (loc_assign rfl) rfl ?_
  refine run_nil ?_
  refine run_seq ?_
  refine run_region ?_
  refine run_new (loc_allocOwn (by simp)) rfl (fun b2 _ => ?_)
  refine run_store1 rfl rfl (.here) (by rfl) ?_
  refine run_nil ?_
  refine run_seq ?_
  refine run_seq ?_
  refine run_region ?_
  refine run_op (loc_move rfl) rfl ?_
  refine run_op (loc_call (backward_spec _) rfl) rfl ?_
  refine run_nil ?_
  refine run_block ?_
  refine run_weaken (M' := rCells b2 3 [dInt .i64 (valP p (cs.drop (cs.length - 0)) x)] :: M) (fun _ _ _ hs hi => ⟨hs, by rw [Nat.sub_zero, List.drop_length]; exact hi⟩) ?_
  refine run_rangeFunc (σ := Unit) (ps := [12, 13]) (fun i s => True) (fun i s => [rCells b2 3 [dInt .i64 (valP p (cs.drop (cs.length - i)) x)]]) (()) rfl rfl rfl (fun _ => rfl) rfl (trivial) rfl (fun i x1 s l1 r1 F1 J hx1 hφ => ?_) (fun D s hφ => ?_)
  ·
    dsimp only [setP]
    obtain ⟨hi, rfl⟩ := backL_get hx1
    have h2 := hc (cs[cs.length - 1 - i]?.getD default) (getD_mem (by omega))
    unfold hasP at h2
    have h3 := valP_bd (x := x) (show 0 < p by omega) (cs.drop (cs.length - i))
    have h4 := mod_bd (valP p (cs.drop (cs.length - i)) x * x) (show 0 < p by omega)
    refine run_region ?_
    refine run_op (loc_assign rfl) rfl ?_
    refine run_nil ?_
    refine run_beginR (.here) ?_
    refine run_block ?_
    refine dr_start _ (.none) [⟨[(3, none)], [], none⟩,
        ⟨[(3, none)], [], none⟩,
        ⟨[(7, none)], [], some (1, 0, false)⟩,
        ⟨[(5, none)], [], none⟩,
        ⟨[(15, some (1, false)), (16, some (2, false)), (17, some (3, false))], [1, 2, 3], none⟩,
        ⟨[(9, none)], [], none⟩,
        ⟨[(14, some (0, false)), (18, some (4, false)), (19, some (5, false))], [0, 1, 2, 3, 4, 5], none⟩,
        ⟨[(7, none), (20, some (6, false))], [0, 1, 2, 3, 4, 5, 6], some (1, 0, true)⟩] [_, _] _ rfl rfl ?_
    refine dq_pure rfl (fun s => .g rfl (.nil)) (fun s hs _ => loc_load1 rfl) (by exact .nil) ?_
    refine dq_pure rfl (fun s => .g rfl (.nil)) (fun s hs _ => loc_load1 rfl) (by exact .nil) ?_
    refine dq_read rfl (fun s => .g rfl (.nil)) rfl rfl (fun s hs _ hm => loc_loadOwn1 rfl hm (by rfl)) (by exact .nil) ?_
    refine dq_pure rfl (fun s => .g rfl (.nil)) (fun s hs _ => loc_load1 rfl) (by exact .nil) ?_
    refine dq_pure rfl (fun s => .op rfl (.op rfl (.op rfl (.nil)))) (fun s hs _ => loc_call (fmul_spec _ _ _ h (by omega) (by omega)) rfl) (by exact .nil) ?_
    refine dq_pure rfl (fun s => .g rfl (.nil)) (fun s hs _ => loc_move rfl) (by exact .nil) ?_
    refine dq_pure rfl (fun s => .op rfl (.op rfl (.op rfl (.nil)))) (fun s hs _ => loc_call (fadd_spec _ _ _ h (by omega) (by omega)) rfl) (by exact .nil) ?_
    refine dq_write0 rfl (fun s => .g rfl (.op rfl (.nil))) rfl rfl (fun s hs => loc_store1 rfl rfl rfl) (by exact .nil) ?_
    refine dq_end (rs := [_, _]) () rfl (fun _ => rfl) (.nil) rfl (fun _ _ => ?_)
    dsimp only [outG, outM, List.map, List.set, id]
    refine run_inBlock ?_
    refine run_weaken (M' := rBusy l1 r1 :: rCells b2 3 [dInt .i64 (valP p (cs.drop (cs.length - (i + 1))) x)] :: F1) (fun _ _ _ hs hq => ⟨hs, by rw [drop_back hi]; exact hq⟩) ?_
    exact run_roundEnd (()) (trivial) .here rfl
  ·
    refine run_inBlock ?_
    refine run_seq ?_
    refine run_region ?_
    refine run_op (loc_loadOwn1 rfl (.there (.here)) (by rfl)) rfl ?_
    refine run_op (loc_assign rfl) rfl ?_
    refine run_nil ?_
    refine run_retPMk (.here) Try.func120 rfl (.tmp rfl (.nil)) ?_ (fun _ _ h => h.sub (.cons _ (.refl _)))
    exact d_int (by rw [backL_len, Nat.sub_self, List.drop_zero])

end Go.Q
