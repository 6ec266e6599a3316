/- An appended row whose handle is stored at once; a row made of elements of several cells. -/
import Derived.Test.YtmapjpdgjefnoaaQOwn3
set_option linter.unusedVariables false
set_option linter.unusedSimpArgs false
namespace Go.Q
variable {P : Program} {N : Nat} {g : G} {M : List Res}
variable {dst : Option Tmp} {ty : TypeId} {pos : String} {after : Array Edge} {gd : Option (Nat × Bool)}
theorem LocM.rowV {o : Oper} {Min : List Res} {T n : Nat} {α : Type} {φ : Value → Prop} {f' : α → List D} {ys : List α} (h : LocM P o g N Min φ (fun v => dVal v) (fun v => [rRow v T n f' ys])) :
    LocM P o g N Min φ (fun v => dSlV v) (fun v => [rRow v T n f' ys]) := by
  constructor
  intro F I a w K Q hs hi hK
  refine h.go F I a w K Q hs hi fun v u w' J h0 h1 h2 h3 => hK v u w' J h0 h1 ⟨h2, ?_⟩ h3
  rw [show u = v from h2]
  exact row_slice h3

theorem cyc_list {zs : List Value} {n : Nat} (hn : zs.length = n) (h0 : 0 < n) : ∀ m, (List.range (m * n)).map (fun i => zs.toArray[i % n]!) = (List.replicate m zs).flatten
  | 0 => by simp
  | m + 1 => by
    rw [Nat.add_mul, Nat.one_mul, List.range_add, List.map_append, cyc_list hn h0 m, List.replicate_succ', List.flatten_append]
    congr 1
    simp only [List.map_map, List.flatten_cons, List.flatten_nil, List.append_nil]
    apply List.ext_getElem
    · simp [hn]
    · intro i h1 h2
      simp only [List.getElem_map, List.getElem_range, Function.comp]
      rw [show (m * n + i) % n = i by rw [Nat.mul_comm, Nat.mul_add_mod]; exact Nat.mod_eq_of_lt (by omega)]
      simp [h2]

theorem relL_rep {I : Imm} {ds : List D} {vs : List Value} (h : relL ds I vs) : ∀ m, relL (List.replicate m ds).flatten I (List.replicate m vs).flatten
  | 0 => trivial
  | m + 1 => by
    rw [List.replicate_succ, List.replicate_succ, List.flatten_cons, List.flatten_cons]
    exact relL_append h (relL_rep h m)

theorem loc_makeSliceN {t e n : Nat} {ag : Bool} [ht : TySl P t e] {bytes : Nat} {z : Value} [hz : TyZ P e bytes z] [hv : TyV P e ag n] {x y : Operand} {m : Nat} (hx : opd g x = some (dInt .i64 (m : Nat))) (hy : opd g y = some (dInt .i64 (m : Nat))) (hm : 0 < m ∧ m ≤ 17592186044416) (hb : (m : Int) * bytes ≤ 281474976710656)
    (hl : Nat.beq (zeroDs z).length n = true) (h0 : 0 < n) (hzt : ∀ vs, z ≠ .tuple vs) :
    LocM P ⟨dst, .makeSlice t x y, ty, pos, after, gd⟩ g N [] (fun _ : Nat => True) (fun b => dVal (sl b n 0 m m)) (fun b => [rBuf b e n (List.replicate m (zeroDs z))]) := by
  constructor
  intro F I a w K Q hs hi hK
  have hxv : a.eval x = .int .i64 m := opd_sound hs hx
  have hyv : a.eval y = .int .i64 m := opd_sound hs hy
  obtain ⟨i, hin, hiz, his, hib⟩ := info_of_z hz hv
  have hzr := zeroDs_rel I z hzt
  have hln := Nat.eq_of_beq_eq_true hl
  have hzl : z.cells.toList.length = n := by rw [← relL_length hzr, hln]
  have hw : IntKind.i64.wrap (m : Int) = m := IntWalk.i64_in _ (by omega)
  have hmn : m * n ≠ 0 := by have := Nat.mul_pos hm.1 h0; omega
  let ar : Array Value := (Array.range (m * n)).map ((if m * n = 0 then #[] else z.cells)[· % (if m * n = 0 then #[] else z.cells).size]!)
  have har : ar.toList = (List.replicate m z.cells.toList).flatten := by
    rw [← cyc_list hzl h0 m]
    have hsz : z.cells.size = n := by simpa using hzl
    simp only [ar, if_neg hmn, hsz, Array.toList_map, Array.toList_range, Array.toArray_toList]
  have hrun : (execOp a.eval ⟨dst, .makeSlice t x y, ty, pos, after, gd⟩).run P w = .ok (.value (.slice (some ⟨w.heap.size, 0, none⟩) m m)) (w.alloc (.cells ar e)) := by
    have hb' : ¬ (281474976710656 < (bytes : Int) * m) := by rw [Int.mul_comm]; omega
    have hm0 : ¬ ((m : Int) < 0) := by omega
    have hask : ∀ n, (askRoom n).run P w = .ok () w := by intro n; unfold askRoom; split <;> rfl
    have hml : ¬ (m = 0) := by omega
    simp [execOp, Instr.makeSlice, hxv, hyv, asInt, asIntOf, run_underlying ht.eq, typeInfo, zeroValue, hin, hiz, hib, hw, hb', hm0, hask, run_sizeOf hv, hmn, hml, newRow, ar]
  unfold Oper.wp
  rw [hrun]
  refine hK w.heap.size _ _ I trivial I.le_refl (by show _ = sl _ _ _ _ _; unfold sl; rw [Nat.zero_mul]) (hi.allocOwn _ _ rfl ⟨ar, rfl, fun q hq => by rw [List.eq_of_mem_replicate hq]; exact hln, ?_⟩)
  rw [har]
  exact relL_rep hzr m

theorem relL_repUp {ds ds' : List D} (h : ∀ J vs, relL ds J vs → relL ds' J vs) (hl : ds.length = ds'.length) : ∀ (m : Nat) (J : Imm) (vs : List Value), relL (List.replicate m ds).flatten J vs → relL (List.replicate m ds').flatten J vs
  | 0, _, _, hv => hv
  | m + 1, J, vs, hv => by
    rw [List.replicate_succ, List.flatten_cons] at hv ⊢
    have hlen := relL_length hv
    rw [List.length_append] at hlen
    have h1 := relL_take ds.length hv
    have h2 := relL_drop ds.length hv
    rw [List.take_left' rfl] at h1
    rw [List.drop_left' rfl] at h2
    rw [← List.take_append_drop ds.length vs]
    exact relL_append (h J _ h1) (relL_repUp h hl m J _ h2)

theorem map_get {α : Type} [Inhabited α] {f' : α → List D} {xs : List α} {q i : Nat} (hi : i < xs.length) (hq : q = i) : (xs.map f')[q]? = some (f' (xs[i]?.getD default)) := by
  subst hq
  rw [List.getElem?_map, List.getElem?_eq_getElem hi]
  rfl

variable {f : FuncId} {I0 : Imm} {R : Ending → World → Prop} {k : List Item}
/-- A block whose elements are told more weakly. -/
theorem run_bufUp {b T n : Nat} {els els' : List (List D)} {C : Res → List Res} {F : List Res} (hs : Sel (rBuf b T n els) M C F) (hl : ∀ e ∈ els', e.length = n) (hup : ∀ J vs, relL els.flatten J vs → relL els'.flatten J vs)
    (h : Run P f N I0 R g (C (rBuf b T n els')) k) : Run P f N I0 R g M k := by
  refine run_turn (fun I a w hsl hi => ?_) h
  refine ⟨I, I.le_refl, hsl, ?_⟩
  have h2 := hi.perm hs.perm.1
  refine Inv.perm ?_ (hs.perm.2 _)
  refine ⟨h2.os, h2.tape, h2.output, h2.imm, fun r hr => ?_, h2.apart⟩
  rcases List.mem_cons.1 hr with rfl | hr
  · obtain ⟨hb, o, h3, cs, h4, h5, h6⟩ := h2.own _ (List.mem_cons_self ..)
    exact ⟨hb, o, h3, cs, h4, hl, hup _ _ h6⟩
  · exact h2.own r (List.mem_cons_of_mem _ hr)

end Go.Q
