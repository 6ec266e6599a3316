/- One cell of an element of a block of the call's own; arrays of the call's own. -/
import Derived.Test.YtmapjpdgjefnoaaQOwn4
set_option linter.unusedVariables false
set_option linter.unusedSimpArgs false
namespace Go.Q
variable {P : Program} {N : Nat} {g : G} {M : List Res}
variable {dst : Option Tmp} {ty : TypeId} {pos : String} {after : Array Edge} {gd : Option (Nat × Bool)}

theorem loc_indexArrOwn {t e : TypeId} {len : Nat} (hu : P.underlying t = some (.array len e)) [hv : TyV P e false 1] {x y : Operand} {b k : Nat} {kd : IntKind} {i : Int} (hx : opd g x = some (dVal (ptr b k))) (hy : opd g y = some (dInt kd i)) (hi : 0 ≤ i ∧ i < len) :
    LocP P ⟨dst, .indexAddr t x y, ty, pos, after, gd⟩ g N M (dVal (ptr b (k + i.toNat))) :=
  locP_of_run fun I a w hs hinv => by
    have hp : a.eval x = .pointer (some ⟨b, k, none⟩) := opd_sound hs hx
    have hyv : a.eval y = .int kd i := opd_sound hs hy
    refine ⟨.pointer (some ⟨b, k + i.toNat, none⟩), ?_, rfl⟩
    simp [execOp, Instr.indexAt, hp, hyv, asIntOf, run_underlying hu, Instr.sureAddr, hi, run_sizeOf hv, Addr.add_lit]

theorem single_flat : ∀ ds : List D, (ds.map fun d => [d]).flatten = ds
  | [] => rfl
  | d :: ds => by rw [List.map_cons, List.flatten_cons, single_flat ds]; rfl

theorem inv_flat {I : Imm} {b T n : Nat} {els : List (List D)} {F : List Res} {w : World} (h : Inv I (rBuf b T n els :: F) w) : Inv I (rBuf b T 1 (els.flatten.map fun d => [d]) :: F) w := by
  refine ⟨h.os, h.tape, h.output, h.imm, fun r hr => ?_, h.apart⟩
  rcases List.mem_cons.1 hr with rfl | hr
  · obtain ⟨hb, o, h3, cs, h4, h5, h6⟩ := h.own _ (List.mem_cons_self ..)
    exact ⟨hb, o, h3, cs, h4, fun e he => by obtain ⟨d, _, rfl⟩ := List.mem_map.1 he; rfl, by rw [single_flat]; exact h6⟩
  · exact h.own r (List.mem_cons_of_mem _ hr)
theorem inv_unflat {I : Imm} {b T n : Nat} {els : List (List D)} {fl : List D} {F : List Res} {w : World} (hl : ∀ e ∈ els, e.length = n) (hf : els.flatten = fl) (h : Inv I (rBuf b T 1 (fl.map fun d => [d]) :: F) w) : Inv I (rBuf b T n els :: F) w := by
  subst hf
  refine ⟨h.os, h.tape, h.output, h.imm, fun r hr => ?_, h.apart⟩
  rcases List.mem_cons.1 hr with rfl | hr
  · obtain ⟨hb, o, h3, cs, h4, h5, h6⟩ := h.own _ (List.mem_cons_self ..)
    rw [single_flat] at h6
    exact ⟨hb, o, h3, cs, h4, hl, h6⟩
  · exact h.own r (List.mem_cons_of_mem _ hr)

theorem flatten_get {n : Nat} : ∀ {els : List (List D)} {q o : Nat} {ds : List D} {d : D}, (∀ e ∈ els, e.length = n) → els[q]? = some ds → ds[o]? = some d → els.flatten[q * n + o]? = some d
  | e :: els, 0, o, ds, d, hl, hq, ho => by
    simp at hq
    subst hq
    rw [Nat.zero_mul, Nat.zero_add, List.flatten_cons, List.getElem?_append_left (List.getElem?_eq_some_iff.1 ho).1]
    exact ho
  | e :: els, q + 1, o, ds, d, hl, hq, ho => by
    have he := hl e (List.mem_cons_self ..)
    rw [List.flatten_cons, List.getElem?_append_right (by rw [he, Nat.add_mul]; omega), he, show (q + 1) * n + o - n = q * n + o by rw [Nat.add_mul]; omega]
    exact flatten_get (fun x hx => hl x (List.mem_cons_of_mem _ hx)) (by simpa using hq) ho
theorem flatten_set {n : Nat} : ∀ {els : List (List D)} {q o : Nat} {ds : List D} {d : D}, (∀ e ∈ els, e.length = n) → els[q]? = some ds → o < n → (els.set q (ds.set o d)).flatten = els.flatten.set (q * n + o) d
  | e :: els, 0, o, ds, d, hl, hq, ho => by
    have he := hl e (List.mem_cons_self ..)
    simp at hq
    subst hq
    rw [Nat.zero_mul, Nat.zero_add, List.set_cons_zero, List.flatten_cons, List.flatten_cons, List.set_append_left _ _ (by omega)]
  | e :: els, q + 1, o, ds, d, hl, hq, ho => by
    have he := hl e (List.mem_cons_self ..)
    rw [List.set_cons_succ, List.flatten_cons, List.flatten_cons, List.set_append_right _ _ (by rw [he, Nat.add_mul]; omega), he, show (q + 1) * n + o - n = q * n + o by rw [Nat.add_mul]; omega]
    rw [flatten_set (fun x hx => hl x (List.mem_cons_of_mem _ hx)) (by simpa using hq) ho]

theorem buf_lens {I : Imm} {b T n : Nat} {els : List (List D)} {F : List Res} {w : World} (h : Inv I (rBuf b T n els :: F) w) : ∀ e ∈ els, e.length = n := by
  obtain ⟨hb, o, h3, cs, h4, h5, h6⟩ := h.own _ (List.mem_cons_self ..)
  exact h5

theorem loc_loadBufF {t T n b q o : Nat} [ht : TyV P t false 1] {x : Operand} {els : List (List D)} {ds : List D} {d : D} (hx : opd g x = some (dVal (ptr b (q * n + o)))) (hm : In (rBuf b T n els) M) (hq : els[q]? = some ds) (ho : ds[o]? = some d) :
    LocP P ⟨dst, .load t x, ty, pos, after, gd⟩ g N M d :=
  locP_of_run fun I a w hs hinv => by
    have hp : a.eval x = .pointer (some ⟨b, q * n + o, none⟩) := opd_sound hs hx
    obtain ⟨cs, hb, h5, h6⟩ := own_buf hinv hm.mem
    obtain ⟨v, hv, hd⟩ := relL_get h6 _ d (flatten_get h5 hq ho)
    refine ⟨v, ?_, hd⟩
    have hc : w.cell? ⟨b, q * n + o, none⟩ = some v := by simp [World.cell?, hb]; simpa using hv
    have hl : (load (⟨b, q * n + o, none⟩ : Addr)).run P w = .ok v w := by rw [run_load, hc]
    simp [execOp, hp, Instr.loadAt, Instr.sureAddr, loadVar, run_isAgg ht, -run_load, hl]

theorem loc_storeBufF {t T n b q o : Nat} [ht : TyV P t false 1] {x y : Operand} {els : List (List D)} {ds : List D} {d : D} [hone : One d] (hx : opd g x = some (dVal (ptr b (q * n + o)))) (hy : opd g y = some d) (hq : els[q]? = some ds) (ho : o < n) :
    LocM P ⟨none, .store t x y, ty, pos, after, gd⟩ g N [rBuf b T n els] (fun _ : Unit => True) (fun _ => dTop) (fun _ => [rBuf b T n (els.set q (ds.set o d))]) := by
  constructor
  intro F I a w K Q hs hi hK
  have hl := buf_lens hi
  have hds : ds.length = n := hl ds (List.mem_of_getElem? hq)
  have hlen : q * n + o < (els.flatten.map fun d => [d]).length := by
    have h1 : ds[o]? = some ds[o] := List.getElem?_eq_getElem (by omega)
    have := (List.getElem?_eq_some_iff.1 (flatten_get hl hq h1)).1
    rw [List.length_map]
    exact this
  refine (loc_storeBuf1 (q := q * n + o) (T := T) (els := els.flatten.map fun d => [d]) (by rw [Nat.mul_one]; exact hx) hy hlen).go F I a w K Q hs (inv_flat hi) fun u v w' J h0 h1 h2 h3 => hK u v w' J h0 h1 h2 ?_
  refine inv_unflat ?_ (flatten_set hl hq ho) (n := n) (fl := els.flatten.set (q * n + o) d) ?_
  · intro e he
    rcases List.mem_or_eq_of_mem_set he with he | rfl
    · exact hl e he
    · rw [List.length_set]; exact hds
  · rw [List.map_set]; exact h3
end Go.Q
