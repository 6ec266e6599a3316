/- Parts of rows of the call's own: copied, cut, cleared in place: what is proved here holds of every program. -/
import Derived.Test.YtmapjpdgjefnoaaQOps5
import Derived.Laws.Externs
set_option linter.unusedVariables false
set_option linter.unusedSimpArgs false
namespace Go.Q

variable {P : Program} {f : FuncId} {N : Nat} {I0 : Imm} {R : Ending → World → Prop} {g : G} {M : List Res} {k : List Item}
variable {dst : Option Tmp} {ty : TypeId} {pos : String} {after : Array Edge} {gd : Option (Nat × Bool)}

/-- A block of the call's own, element by element; each element n cells. -/
def rBuf (b T n : Nat) (els : List (List D)) : Res :=
  ⟨some b, fun I o => ∃ cs, o = some (.cells cs T (0, 0)) ∧ (∀ e ∈ els, e.length = n) ∧ relL els.flatten I cs.toList, fun h ⟨cs, e, h1, r⟩ => ⟨cs, e, h1, relL_mono h r⟩⟩

/-- A part of it, from the element k on. -/
def sl (b n k len cap : Nat) : Value := .slice (some ⟨b, k * n, none⟩) len cap

/-- Elements of which nothing is known. -/
def junk (n m : Nat) : List (List D) := List.replicate m (List.replicate n dTop)

theorem flatten_len {n : Nat} : ∀ {els : List (List D)}, (∀ e ∈ els, e.length = n) → els.flatten.length = els.length * n
  | [], _ => by simp
  | e :: els, h => by
    simp only [List.flatten_cons, List.length_append, List.length_cons, Nat.add_mul, Nat.one_mul]
    rw [flatten_len (fun x hx => h x (List.mem_cons_of_mem _ hx)), h e (List.mem_cons_self ..)]
    omega

theorem flatten_take {n : Nat} : ∀ {els : List (List D)} (i : Nat), (∀ e ∈ els, e.length = n) → (els.take i).flatten = els.flatten.take (i * n)
  | [], i, _ => by simp
  | e :: els, 0, _ => by simp
  | e :: els, i + 1, h => by
    have he := h e (List.mem_cons_self ..)
    rw [List.take_succ_cons, List.flatten_cons, flatten_take i (fun x hx => h x (List.mem_cons_of_mem _ hx)), List.flatten_cons, List.take_append]
    rw [List.take_of_length_le (l := e) (by rw [he, Nat.add_mul]; omega), he, Nat.add_mul, Nat.one_mul, Nat.add_sub_cancel]

theorem flatten_drop {n : Nat} : ∀ {els : List (List D)} (i : Nat), (∀ e ∈ els, e.length = n) → (els.drop i).flatten = els.flatten.drop (i * n)
  | [], i, _ => by simp
  | e :: els, 0, _ => by simp
  | e :: els, i + 1, h => by
    have he := h e (List.mem_cons_self ..)
    rw [List.drop_succ_cons, flatten_drop i (fun x hx => h x (List.mem_cons_of_mem _ hx)), List.flatten_cons, List.drop_append]
    rw [List.drop_eq_nil_of_le (as := e) (by rw [he, Nat.add_mul]; omega), he, Nat.add_mul, Nat.one_mul, Nat.add_sub_cancel, List.nil_append]

theorem flatten_map {α : Type} {f' : α → List D} : ∀ {xs : List α}, (xs.map f').flatten = xs.flatMap f'
  | [] => rfl
  | x :: xs => by simp only [List.map_cons, List.flatten_cons, List.flatMap_cons, flatten_map]

theorem relL_top {I : Imm} : ∀ (vs : List Value), relL (List.replicate vs.length dTop) I vs
  | [] => trivial
  | _ :: vs => ⟨trivial, relL_top vs⟩

theorem junk_flat (n m : Nat) : (junk n m).flatten = List.replicate (m * n) dTop := by
  induction m with
  | zero => simp [junk]
  | succ m ih =>
    unfold junk at ih ⊢
    rw [List.replicate_succ, List.flatten_cons, ih, List.replicate_append_replicate, Nat.add_mul]
    congr 1
    omega

theorem junk_len {n m : Nat} : ∀ e ∈ junk n m, e.length = n := by
  intro e he
  rw [List.eq_of_mem_replicate he]
  simp

/-- A row that has an array, opened. -/
theorem row_open {α : Type} {b len cap : Nat} {T n : Nat} {f' : α → List D} {xs : List α} {I : Imm} {F : List Res} {w : World} (h : Inv I (rRow (.slice (some ⟨b, 0, none⟩) len cap) T n f' xs :: F) w) :
    len = xs.length ∧ xs.length ≤ cap ∧ cap ≤ maxLen ∧ xs.length ≤ lenMax ∧ (∀ x ∈ xs, (f' x).length = n) ∧ Inv I (rBuf b T n (xs.map f' ++ junk n (cap - xs.length)) :: F) w := by
  have h1 := h.own _ (List.mem_cons_self ..)
  obtain ⟨hb, o, h3, b', cap', cs, h4, h5, h6, h7, h8, h9, h10, h11⟩ := h1
  simp only [Value.slice.injEq, Option.some.injEq, Addr.mk.injEq] at h4 h5
  obtain ⟨⟨h4, _⟩, hl, hc⟩ := h4
  subst h4 h5 hc hl
  refine ⟨rfl, h7, h8, h9, h10, ?_⟩
  have hlen : ∀ e ∈ xs.map f' ++ junk n (cap - xs.length), e.length = n := by
    intro e he
    rcases List.mem_append.1 he with he | he
    · obtain ⟨x, hx, rfl⟩ := List.mem_map.1 he
      exact h10 x hx
    · exact junk_len e he
  refine ⟨h.os, h.tape, h.output, h.imm, fun r hr => ?_, h.apart⟩
  rcases List.mem_cons.1 hr with rfl | hr
  · refine ⟨hb, _, h3, cs, rfl, hlen, ?_⟩
    rw [List.flatten_append, flatten_map, junk_flat]
    rw [← List.take_append_drop (xs.length * n) cs.toList]
    refine relL_append h11 ?_
    have : (cap - xs.length) * n = (cs.toList.drop (xs.length * n)).length := by
      rw [List.length_drop, show cs.toList.length = cap * n by simp [h6], Nat.sub_mul]
    rw [this]
    exact relL_top _
  · exact h.own r (List.mem_cons_of_mem _ hr)

/-- .. and shut again. -/
theorem row_shut {α : Type} {b len cap : Nat} {T n : Nat} {f' : α → List D} {xs : List α} {els : List (List D)} {I : Imm} {F : List Res} {w : World} (h : Inv I (rBuf b T n (xs.map f' ++ els) :: F) w)
    (hl : len = xs.length) (hc : xs.length + els.length = cap) (hm : cap ≤ maxLen) (hx : xs.length ≤ lenMax) : Inv I (rRow (.slice (some ⟨b, 0, none⟩) len cap) T n f' xs :: F) w := by
  subst hl
  obtain ⟨hb, o, h3, cs, h4, h5, h6⟩ := h.own _ (List.mem_cons_self ..)
  injection h4 with h4
  subst h4
  refine ⟨h.os, h.tape, h.output, h.imm, fun r hr => ?_, h.apart⟩
  rcases List.mem_cons.1 hr with rfl | hr
  · have h7 : ∀ x ∈ xs, (f' x).length = n := fun x hx => h5 _ (List.mem_append_left _ (List.mem_map_of_mem hx))
    have h8 := relL_length h6
    rw [flatten_len h5, List.length_append, List.length_map, hc] at h8
    refine ⟨hb, _, h3, b, cap, cs, rfl, rfl, by simpa using h8.symm, by omega, hm, hx, h7, ?_⟩
    have h9 := relL_take (xs.length * n) h6
    rw [← flatten_take _ h5, List.take_left' (by simp)] at h9
    rwa [flatten_map] at h9
  · exact h.own r (List.mem_cons_of_mem _ hr)

theorem own_buf {I : Imm} {b T n : Nat} {els : List (List D)} {M : List Res} {w : World} (h : Inv I M w) (hm : rBuf b T n els ∈ M) :
    ∃ cs, w.heap[b]? = some (.cells cs T (0, 0)) ∧ (∀ e ∈ els, e.length = n) ∧ relL els.flatten I cs.toList := by
  obtain ⟨_, o, h3, cs, h4, h5, h6⟩ := h.own _ hm
  injection h4 with h4
  subst h4
  exact ⟨cs, h3, h5, h6⟩

/-- The cells of some elements of it. -/
theorem buf_cells {I : Imm} {b T n : Nat} {els : List (List D)} {w : World} {cs : Array Value} (h3 : w.heap[b]? = some (.cells cs T (0, 0))) (h5 : ∀ e ∈ els, e.length = n) (h6 : relL els.flatten I cs.toList) (kk m : Nat) (hk : m ≠ 0 → kk + m ≤ els.length) :
    ((cs.toList.drop (kk * n)).take (m * n)).length = m * n ∧ relL ((els.drop kk).take m).flatten I ((cs.toList.drop (kk * n)).take (m * n)) ∧
    ∀ j u, ((cs.toList.drop (kk * n)).take (m * n))[j]? = some u → w.cell? ((⟨b, kk * n, none⟩ : Addr).add j) = some u := by
  have hl := relL_length h6
  rw [flatten_len h5] at hl
  refine ⟨?_, ?_, fun j u hj => ?_⟩
  · rw [List.length_take, List.length_drop, ← hl]
    by_cases h0 : m = 0
    · subst h0; simp
    · have := Nat.mul_le_mul_right n (hk h0)
      rw [Nat.add_mul] at this
      omega
  · rw [flatten_take _ (fun e he => h5 e (List.mem_of_mem_drop he)), flatten_drop _ h5]
    exact relL_take _ (relL_drop _ h6)
  · rw [List.getElem?_take] at hj
    split at hj
    · rw [List.getElem?_drop, Array.getElem?_toList] at hj
      rw [Addr.add_lit]
      simp [World.cell?, h3, hj]
    · cases hj

def put (els : List (List D)) (kk : Nat) (new : List (List D)) : List (List D) := els.take kk ++ new ++ els.drop (kk + new.length)

/-- Known cells written over some elements. -/
theorem buf_write {I : Imm} {b T n : Nat} {els new : List (List D)} {F : List Res} {w : World} (h : Inv I (rBuf b T n els :: F) w) {cs : Array Value} (h3 : w.heap[b]? = some (.cells cs T (0, 0)))
    {vs : List Value} (hn : ∀ e ∈ new, e.length = n) (hv : relL new.flatten I vs) (kk : Nat) (hk : kk + new.length ≤ els.length) :
    kk * n + vs.length ≤ cs.size ∧ Inv I (rBuf b T n (put els kk new) :: F) (w.setRow b (cs.toList.take (kk * n) ++ vs ++ cs.toList.drop (kk * n + vs.length)).toArray) := by
  obtain ⟨cs', h3', h5, h6⟩ := own_buf h (List.mem_cons_self ..)
  rw [h3] at h3'
  injection h3' with h3'
  injection h3' with h3'
  subst h3'
  have hl := relL_length h6
  rw [flatten_len h5] at hl
  have hvl := relL_length hv
  rw [flatten_len hn] at hvl
  have hle := Nat.mul_le_mul_right n hk
  rw [Nat.add_mul] at hle
  refine ⟨by rw [← hvl]; simp at hl; omega, ?_⟩
  refine h.write (b := b) rfl rfl rfl rfl rfl (fun c hc _ => setRow_other w b c _ hc) (setRow_heap w b cs _ T _ h3) ⟨_, rfl, fun e he => ?_, ?_⟩
  · unfold put at he
    rcases List.mem_append.1 he with he | he
    · rcases List.mem_append.1 he with he | he
      · exact h5 e (List.mem_of_mem_take he)
      · exact hn e he
    · exact h5 e (List.mem_of_mem_drop he)
  · unfold put
    rw [List.flatten_append, List.flatten_append, flatten_take _ h5, flatten_drop _ h5]
    refine relL_append (relL_append (relL_take _ h6) hv) ?_
    rw [← hvl, Nat.add_mul]
    exact relL_drop _ h6

/-! ### Parts -/

section
variable {x y z lo hi mx : Operand} {t e : TypeId} {agg : Bool} {n : Nat} {b kk len cap : Nat} {kd kd' kd2 : IntKind} {i j m : Int}

theorem loc_sliceOwnFrom [ht : TySl P t e] [hv : TyV P e agg n] (hx : opd g x = some (dVal (sl b n kk len cap))) (hy : opd g lo = some (dInt kd i)) (h : 0 ≤ i ∧ i ≤ len ∧ len ≤ cap) :
    LocP P ⟨dst, .slice t x (some lo) none none, ty, pos, after, gd⟩ g N M (dVal (sl b n (if cap = i.toNat then kk else kk + i.toNat) (len - i.toNat) (cap - i.toNat))) :=
  locP_of_run fun I a w hs hinv => by
    have hp : a.eval x = .slice (some ⟨b, kk * n, none⟩) len cap := opd_sound hs hx
    have hlo : a.eval lo = .int kd i := opd_sound hs hy
    have hb1 : (0 ≤ i ∧ i ≤ (len : Int)) := by omega
    refine ⟨sl b n (if cap = i.toNat then kk else kk + i.toNat) (len - i.toNat) (cap - i.toNat), ?_, rfl⟩
    by_cases hc : cap = i.toNat
    · simp [execOp, Instr.sliceAt, Instr.slice, hp, hlo, run_underlying ht.eq, Instr.sliceBounds, Instr.sliceBound, asIntOf, hb1, run_sizeOf hv, hc, sl]
    · simp [execOp, Instr.sliceAt, Instr.slice, hp, hlo, run_underlying ht.eq, Instr.sliceBounds, Instr.sliceBound, asIntOf, hb1, run_sizeOf hv, hc, sl, Addr.add_lit, Nat.add_mul]

theorem loc_sliceOwnTo [ht : TySl P t e] [hv : TyV P e agg n] (hx : opd g x = some (dVal (sl b n kk len cap))) (hy : opd g hi = some (dInt kd j)) (h : 0 ≤ j ∧ j ≤ cap) :
    LocP P ⟨dst, .slice t x none (some hi) none, ty, pos, after, gd⟩ g N M (dVal (sl b n kk j.toNat cap)) :=
  locP_of_run fun I a w hs hinv => by
    have hp : a.eval x = .slice (some ⟨b, kk * n, none⟩) len cap := opd_sound hs hx
    have hlo : a.eval hi = .int kd j := opd_sound hs hy
    have hb1 : (0 ≤ j ∧ j ≤ (cap : Int)) := by omega
    have hadd : (⟨b, kk * n, none⟩ : Addr).add 0 = ⟨b, kk * n, none⟩ := by rw [Addr.add_lit]; rfl
    refine ⟨sl b n kk j.toNat cap, ?_, rfl⟩
    simp [execOp, Instr.sliceAt, Instr.slice, hp, hlo, run_underlying ht.eq, Instr.sliceBounds, Instr.sliceBound, asIntOf, hb1, run_sizeOf hv, sl, hadd]

theorem loc_sliceOwn [ht : TySl P t e] [hv : TyV P e agg n] (hx : opd g x = some (dVal (sl b n kk len cap))) (hy : opd g lo = some (dInt kd i)) (hz : opd g hi = some (dInt kd' j)) (h : 0 ≤ i ∧ i ≤ j ∧ j ≤ cap) :
    LocP P ⟨dst, .slice t x (some lo) (some hi) none, ty, pos, after, gd⟩ g N M (dVal (sl b n (if cap = i.toNat then kk else kk + i.toNat) (j.toNat - i.toNat) (cap - i.toNat))) :=
  locP_of_run fun I a w hs hinv => by
    have hp : a.eval x = .slice (some ⟨b, kk * n, none⟩) len cap := opd_sound hs hx
    have hlo : a.eval lo = .int kd i := opd_sound hs hy
    have hhi : a.eval hi = .int kd' j := opd_sound hs hz
    have hb1 : (0 ≤ j ∧ j ≤ (cap : Int)) := by omega
    have hb2 : (0 ≤ i ∧ i ≤ max j 0) := by omega
    refine ⟨sl b n (if cap = i.toNat then kk else kk + i.toNat) (j.toNat - i.toNat) (cap - i.toNat), ?_, rfl⟩
    by_cases hc : cap = i.toNat
    · simp [execOp, Instr.sliceAt, Instr.slice, hp, hlo, hhi, run_underlying ht.eq, Instr.sliceBounds, Instr.sliceBound, asIntOf, hb1, hb2, run_sizeOf hv, eq_true hc, sl]
    · simp [execOp, Instr.sliceAt, Instr.slice, hp, hlo, hhi, run_underlying ht.eq, Instr.sliceBounds, Instr.sliceBound, asIntOf, hb1, hb2, run_sizeOf hv, hc, sl, Addr.add_lit, Nat.add_mul]

/-- Bounds that are looked at, of which the answer is not used. -/
theorem loc_sliceOwn3 [ht : TySl P t e] [hv : TyV P e agg n] (hx : opd g x = some (dVal (sl b n kk len cap))) (hy : opd g lo = some (dInt kd i)) (hz : opd g hi = some (dInt kd' j)) (hm : opd g mx = some (dInt kd2 m)) (h : 0 ≤ i ∧ i ≤ j ∧ j ≤ m ∧ m ≤ cap) :
    LocP P ⟨dst, .slice t x (some lo) (some hi) (some mx), ty, pos, after, gd⟩ g N M dTop :=
  locP_of_run fun I a w hs hinv => by
    have hp : a.eval x = .slice (some ⟨b, kk * n, none⟩) len cap := opd_sound hs hx
    have hlo : a.eval lo = .int kd i := opd_sound hs hy
    have hhi : a.eval hi = .int kd' j := opd_sound hs hz
    have hmx : a.eval mx = .int kd2 m := opd_sound hs hm
    have hb1 : (0 ≤ m ∧ m ≤ (cap : Int)) := by omega
    have hb2 : (0 ≤ j ∧ j ≤ max m 0) := by omega
    have hb3 : (0 ≤ i ∧ i ≤ max j 0) := by omega
    exact ⟨_, by simp [execOp, Instr.sliceAt, Instr.slice, hp, hlo, hhi, hmx, run_underlying ht.eq, Instr.sliceBounds, Instr.sliceBound, asIntOf, hb1, hb2, hb3, run_sizeOf hv]; rfl, trivial⟩

theorem loc_lenOwn [ht : TySl P t e] (hx : opd g x = some (dVal (sl b n kk len cap))) : LocP P ⟨dst, .call ⟨.builtin .len, #[x], #[t]⟩, ty, pos, after, gd⟩ g N M (dInt .i64 (len : Nat)) :=
  locP_of_run fun I a w hs hi => by
    have hp : a.eval x = .slice (some ⟨b, kk * n, none⟩) len cap := opd_sound hs hx
    exact ⟨.int .i64 len, by simp [execOp, resolve, invoke, builtin, Builtin.len_, hp, run_underlying ht.eq, goInt], rfl⟩

theorem loc_capOwn [ht : TySl P t e] (hx : opd g x = some (dVal (sl b n kk len cap))) : LocP P ⟨dst, .call ⟨.builtin .cap, #[x], #[t]⟩, ty, pos, after, gd⟩ g N M (dInt .i64 (cap : Nat)) :=
  locP_of_run fun I a w hs hi => by
    have hp : a.eval x = .slice (some ⟨b, kk * n, none⟩) len cap := opd_sound hs hx
    exact ⟨.int .i64 cap, by simp [execOp, resolve, invoke, builtin, Builtin.cap_, hp, run_underlying ht.eq, goInt], rfl⟩

/-! ### Elements -/

theorem loc_indexOwn [ht : TySl P t e] [hv : TyV P e agg n] (hx : opd g x = some (dVal (sl b n kk len cap))) (hy : opd g y = some (dInt kd i)) (hi : 0 ≤ i ∧ i < len) :
    LocP P ⟨dst, .indexAddr t x y, ty, pos, after, gd⟩ g N M (dVal (ptr b ((kk + i.toNat) * n))) :=
  locP_of_run fun I a w hs hinv => by
    have hp : a.eval x = .slice (some ⟨b, kk * n, none⟩) len cap := opd_sound hs hx
    have hlo : a.eval y = .int kd i := opd_sound hs hy
    refine ⟨ptr b ((kk + i.toNat) * n), ?_, rfl⟩
    simp [execOp, Instr.indexAt, hp, hlo, asIntOf, run_underlying ht.eq, hi, run_sizeOf hv, ptr, Addr.add_lit, Nat.add_mul]

theorem loc_loadBuf1 [ht : TyV P t false 1] {T : TypeId} {els : List (List D)} {d : D} {q : Nat} (hx : opd g x = some (dVal (ptr b (q * 1)))) (hm : In (rBuf b T 1 els) M) (hd : els[q]? = some [d]) :
    LocP P ⟨dst, .load t x, ty, pos, after, gd⟩ g N M d :=
  locP_of_run fun I a w hs hi => by
    have hp : a.eval x = .pointer (some ⟨b, q * 1, none⟩) := opd_sound hs hx
    obtain ⟨cs, h3, h5, h6⟩ := own_buf hi hm.mem
    have hq := (List.getElem?_eq_some_iff.1 hd).1
    obtain ⟨e1, e2, e3⟩ := buf_cells h3 h5 h6 q 1 (by omega)
    have e4 : (els.drop q).take 1 = [[d]] := by
      rw [List.drop_eq_getElem_cons hq]
      rw [List.getElem?_eq_getElem hq] at hd
      injection hd with hd
      rw [hd]; rfl
    rw [e4] at e2
    match hc : (cs.toList.drop (q * 1)).take (1 * 1), e2 with
    | [v], e2 =>
      have h8 := e3 0 v (by rw [hc]; rfl)
      rw [Addr.add_zero'] at h8
      simp only [Nat.mul_one] at h8 hp
      exact ⟨v, by simp [execOp, hp, Instr.loadAt, Instr.sureAddr, loadVar, run_isAgg ht, h8], e2.1⟩

theorem loc_loadBufN [ht : TyV P t true n] {T : TypeId} {els : List (List D)} {ds : List D} {q : Nat} (hx : opd g x = some (dVal (ptr b (q * n)))) (hm : In (rBuf b T n els) M) (hd : els[q]? = some ds) :
    LocP P ⟨dst, .load t x, ty, pos, after, gd⟩ g N M (dAgg ds) :=
  locP_of_run fun I a w hs hi => by
    have hp : a.eval x = .pointer (some ⟨b, q * n, none⟩) := opd_sound hs hx
    obtain ⟨cs, h3, h5, h6⟩ := own_buf hi hm.mem
    have hq := (List.getElem?_eq_some_iff.1 hd).1
    obtain ⟨e1, e2, e3⟩ := buf_cells h3 h5 h6 q 1 (by omega)
    have e4 : (els.drop q).take 1 = [ds] := by
      rw [List.drop_eq_getElem_cons hq]
      rw [List.getElem?_eq_getElem hq] at hd
      injection hd with hd
      rw [hd]; rfl
    rw [e4, List.flatten_singleton] at e2
    have h8 := run_loadCells_list (P := P) w _ _ e3
    rw [e1, Nat.one_mul] at h8
    rw [Nat.one_mul] at e2
    exact ⟨.agg ((cs.toList.drop (q * n)).take n).toArray, by simp [execOp, hp, Instr.loadAt, Instr.sureAddr, loadVar, run_isAgg ht, run_sizeOf ht, h8], _, rfl, by simpa using e2⟩

theorem put_one {els : List (List D)} {q : Nat} {ds : List D} (h : q < els.length) : put els q [ds] = els.set q ds := by
  unfold put
  rw [List.set_eq_take_append_cons_drop, if_pos h]
  simp

theorem loc_storeBuf1 [ht : TyV P t false 1] {T : TypeId} {els : List (List D)} {d : D} [ho : One d] {q : Nat} (hx : opd g x = some (dVal (ptr b (q * 1)))) (hy : opd g y = some d) (hq : q < els.length) :
    LocM P ⟨none, .store t x y, ty, pos, after, gd⟩ g N [rBuf b T 1 els] (fun _ : Unit => True) (fun _ => dTop) (fun _ => [rBuf b T 1 (els.set q [d])]) := by
  constructor
  intro F I a w K Q hs hi hK
  have hp : a.eval x = .pointer (some ⟨b, q * 1, none⟩) := opd_sound hs hx
  have hd := opd_sound hs hy
  have h1 := ho.one hd
  obtain ⟨cs, h3, h5, h6⟩ := own_buf hi (List.mem_cons_self ..)
  have hnew : ∀ e ∈ ([[d]] : List (List D)), e.length = 1 := by intro e he; rw [List.mem_singleton.1 he]; rfl
  obtain ⟨w1, w2⟩ := buf_write hi h3 (vs := [a.eval y]) hnew ⟨hd, trivial⟩ q (by simp; omega)
  have hst := run_storeCells_at P b (q * 1) T [a.eval y] 0 cs w h3 (by simpa using w1) (by simpa using h1.2)
  simp only [Nat.add_zero] at hst
  unfold Oper.wp
  have hrun : (execOp a.eval ⟨none, .store t x y, ty, pos, after, gd⟩).run P w = .ok .skip (w.setRow b (cs.toList.take (q * 1) ++ [a.eval y] ++ cs.toList.drop (q * 1 + [a.eval y].length)).toArray) := by
    simp only [execOp, hp, Instr.storeAt, Instr.sureAddr, storeVar, Sem.run_bind, Sem.run_pure, Result.andThen_ok, run_sizeOf ht, h1.1, List.size_toArray, List.length_singleton, ne_eq, not_true_eq_false, if_false, hst]
  rw [hrun]
  refine hK () undef _ I trivial I.le_refl trivial ?_
  rw [put_one hq] at w2
  exact w2

theorem loc_storeBufN [ht : TyV P t true n] {T : TypeId} {els : List (List D)} {ds : List D} [ho : OneAll ds] {q : Nat} (hx : opd g x = some (dVal (ptr b (q * n)))) (hy : opd g y = some (dAgg ds)) (hq : q < els.length) (hn : Nat.beq ds.length n = true) :
    LocM P ⟨none, .store t x y, ty, pos, after, gd⟩ g N [rBuf b T n els] (fun _ : Unit => True) (fun _ => dTop) (fun _ => [rBuf b T n (els.set q ds)]) := by
  constructor
  intro F I a w K Q hs hi hK
  have hp : a.eval x = .pointer (some ⟨b, q * n, none⟩) := opd_sound hs hx
  obtain ⟨us, hyv, hd⟩ := opd_sound hs hy
  obtain ⟨cs, h3, h5, h6⟩ := own_buf hi (List.mem_cons_self ..)
  have hdn := Nat.eq_of_beq_eq_true hn
  have hnew : ∀ e ∈ ([ds] : List (List D)), e.length = n := by intro e he; rw [List.mem_singleton.1 he]; exact hdn
  obtain ⟨w1, w2⟩ := buf_write hi h3 (vs := us.toList) hnew (by simpa using hd) q (by simp; omega)
  have hst := run_storeCells_at P b (q * n) T us.toList 0 cs w h3 (by simpa using w1) (ho.all hd)
  simp only [Nat.add_zero] at hst
  have hsz : us.size = n := by have := relL_length hd; simp at this; omega
  have hcc : (Value.agg us).cells = us := rfl
  unfold Oper.wp
  have hrun : (execOp a.eval ⟨none, .store t x y, ty, pos, after, gd⟩).run P w = .ok .skip (w.setRow b (cs.toList.take (q * n) ++ us.toList ++ cs.toList.drop (q * n + us.toList.length)).toArray) := by
    simp only [execOp, hp, hyv, Instr.storeAt, Instr.sureAddr, storeVar, Sem.run_bind, Sem.run_pure, Result.andThen_ok, run_sizeOf ht, hcc, hsz, ne_eq, not_true_eq_false, if_false, hst]
  rw [hrun]
  refine hK () undef _ I trivial I.le_refl trivial ?_
  rw [put_one hq] at w2
  exact w2

end

/-! ### copy, append, clear -/

theorem exec_copy {a : Act} {x y : Operand} {t t' : TypeId} {u v r : Value} {w w' : World} (hp : a.eval x = u) (hq : a.eval y = v) (hr : (Builtin.copy_ #[t, t'] ty #[u, v]).run P w = .ok r w') :
    (execOp a.eval ⟨dst, .call ⟨.builtin .copy, #[x, y], #[t, t']⟩, ty, pos, after, gd⟩).run P w = .ok (.value r) w' := by
  simp only [execOp, resolve, invoke, builtin, Sem.run_bind, Sem.run_pure, Result.andThen_ok, List.map_toArray, List.map_cons, List.map_nil, hp, hq, hr]
theorem exec_append {a : Act} {x y : Operand} {t t' : TypeId} {u v r : Value} {w w' : World} (hp : a.eval x = u) (hq : a.eval y = v) (hr : (Builtin.append_ #[t, t'] ty #[u, v]).run P w = .ok r w') :
    (execOp a.eval ⟨dst, .call ⟨.builtin .append, #[x, y], #[t, t']⟩, ty, pos, after, gd⟩).run P w = .ok (.value r) w' := by
  simp only [execOp, resolve, invoke, builtin, Sem.run_bind, Sem.run_pure, Result.andThen_ok, List.map_toArray, List.map_cons, List.map_nil, hp, hq, hr]
theorem exec_clear {a : Act} {x : Operand} {t : TypeId} {u r : Value} {w w' : World} (hp : a.eval x = u) (hr : (Builtin.clear_ #[t] ty #[u]).run P w = .ok r w') :
    (execOp a.eval ⟨dst, .call ⟨.builtin .clear, #[x], #[t]⟩, ty, pos, after, gd⟩).run P w = .ok (.value r) w' := by
  simp only [execOp, resolve, invoke, builtin, Sem.run_bind, Sem.run_pure, Result.andThen_ok, List.map_toArray, List.map_cons, List.map_nil, hp, hr]

theorem one_flat {I : Imm} : ∀ {ls : List (List D)} {vs : List Value}, (∀ e ∈ ls, OneAll e) → relL ls.flatten I vs → ∀ u ∈ vs, u.oneCell' = true
  | [], [], _, _, u, hu => by cases hu
  | [], _ :: _, _, h, _, _ => by cases h
  | e :: ls, vs, ho, hr, u, hu => by
    rw [List.flatten_cons] at hr
    have g1 := relL_take e.length hr
    have g2 := relL_drop e.length hr
    rw [List.take_left] at g1
    rw [List.drop_left] at g2
    rcases List.mem_append.1 (show u ∈ vs.take e.length ++ vs.drop e.length by rw [List.take_append_drop]; exact hu) with hu | hu
    · exact (ho e (List.mem_cons_self ..)).all g1 u hu
    · exact one_flat (fun e he => ho e (List.mem_cons_of_mem _ he)) g2 u hu

section
variable {x y : Operand} {t t' e : TypeId} {agg : Bool} {n : Nat} {b b' kk kk' len len' cap cap' : Nat} {T : TypeId} {els els' : List (List D)}

theorem run_copyTo {w : World} {cs : Array Value} {sz : Nat} (ht : P.underlying t = some (.slice e)) (hsz : ∀ w, (sizeOf e).run P w = .ok sz w) (h3 : w.heap[b]? = some (.cells cs T (0, 0)))
    {p : Addr} {ls cp o ld : Nat} {vs : List Value} (hl : vs.length = (min ls ld) * sz) (hv : ∀ j u, vs[j]? = some u → w.cell? (p.add j) = some u) (h1 : ∀ u ∈ vs, u.oneCell' = true) (hfit : o + vs.length ≤ cs.size) :
    (Builtin.copy_ #[t, t'] ty #[.slice (some ⟨b, o, none⟩) ld cap, .slice (some p) ls cp]).run P w = .ok (goInt (min ls ld : Nat)) (w.setRow b (cs.toList.take o ++ vs ++ cs.toList.drop (o + vs.length)).toArray) := by
  have hf := run_firstCells_some (P := P) w sz (min ls ld) p ls cp vs hl hv
  have hst := run_storeCells_at P b o T vs 0 cs w h3 (by simpa using hfit) h1
  simp only [Nat.add_zero] at hst
  have hf' : (Builtin.firstCells sz (Nat.min ls ld) (.slice (some p) ls cp)).run P w = .ok vs.toArray w := hf
  simp only [Builtin.copy_, Sem.run_bind, Sem.run_pure, Result.andThen_ok, List.getElem?_toArray, List.getElem?_cons_zero, List.getElem?_cons_succ, run_underlying ht, Builtin.lenOf, hsz, hf', hst]

theorem min_zero_copy {w : World} {sz : Nat} (ht : P.underlying t = some (.slice e)) (hsz : ∀ w, (sizeOf e).run P w = .ok sz w) {d s : Option Addr} {ld ls cd cp : Nat} (h0 : min ls ld = 0) :
    (Builtin.copy_ #[t, t'] ty #[.slice d ld cd, .slice s ls cp]).run P w = .ok (goInt (0 : Nat)) w := by
  have hl : ∀ a, (loadCells a 0).run P w = .ok #[] w := fun a => by simpa using run_loadCells_list (P := P) w a [] (by simp)
  have h0' : Nat.min ls ld = 0 := h0
  cases d <;> cases s <;> simp [Builtin.copy_, run_underlying ht, Builtin.lenOf, hsz, h0', Builtin.firstCells, hl, storeCells]

/-- copy within a block. -/
theorem loc_copyOwn [ht : TySl P t e] [hv : TyV P e agg n] (hx : opd g x = some (dVal (sl b n kk len cap))) (hy : opd g y = some (dVal (sl b n kk' len' cap')))
    (h1 : min len' len ≠ 0 → kk + min len' len ≤ els.length ∧ kk' + min len' len ≤ els.length) (ho : ∀ e ∈ (els.drop kk').take (min len' len), OneAll e) :
    LocM P ⟨dst, .call ⟨.builtin .copy, #[x, y], #[t, t']⟩, ty, pos, after, gd⟩ g N [rBuf b T n els] (fun _ : Unit => True) (fun _ => dInt .i64 (min len' len : Nat)) (fun _ => [rBuf b T n (put els kk ((els.drop kk').take (min len' len)))]) := by
  constructor
  intro F I a w K Q hs hi hK
  have hp : a.eval x = .slice (some ⟨b, kk * n, none⟩) len cap := opd_sound hs hx
  have hq : a.eval y = .slice (some ⟨b, kk' * n, none⟩) len' cap' := opd_sound hs hy
  obtain ⟨cs, h3, h5, h6⟩ := own_buf hi (List.mem_cons_self ..)
  unfold Oper.wp
  by_cases h0 : min len' len = 0
  · rw [exec_copy hp hq (min_zero_copy (P := P) (w := w) ht.eq (run_sizeOf hv) h0)]
    refine hK () _ _ I trivial I.le_refl (by rw [h0]; rfl) ?_
    rw [h0]
    simpa [put] using hi
  · obtain ⟨e1, e2, e3⟩ := buf_cells h3 h5 h6 kk' (min len' len) (fun h => (h1 h).2)
    have hlen : ((els.drop kk').take (min len' len)).length = min len' len := by rw [List.length_take, List.length_drop]; have := (h1 h0).2; omega
    obtain ⟨w1, w2⟩ := buf_write hi h3 (new := (els.drop kk').take (min len' len)) (fun e he => h5 e (List.mem_of_mem_drop (List.mem_of_mem_take he))) e2 kk (by rw [hlen]; exact (h1 h0).1)
    rw [exec_copy hp hq (run_copyTo (P := P) ht.eq (run_sizeOf hv) h3 e1 e3 (one_flat ho e2) w1)]
    exact hK () _ _ I trivial I.le_refl rfl w2

/-- copy from another block of the call's own. -/
theorem loc_copyOther [ht : TySl P t e] [hv : TyV P e agg n] (hx : opd g x = some (dVal (sl b n kk len cap))) (hy : opd g y = some (dVal (sl b' n kk' len' cap')))
    (h1 : min len' len ≠ 0 → kk + min len' len ≤ els.length ∧ kk' + min len' len ≤ els'.length) (ho : ∀ e ∈ (els'.drop kk').take (min len' len), OneAll e) {T' : TypeId} :
    LocM P ⟨dst, .call ⟨.builtin .copy, #[x, y], #[t, t']⟩, ty, pos, after, gd⟩ g N [rBuf b T n els, rBuf b' T' n els'] (fun _ : Unit => True) (fun _ => dInt .i64 (min len' len : Nat)) (fun _ => [rBuf b T n (put els kk ((els'.drop kk').take (min len' len))), rBuf b' T' n els']) := by
  constructor
  intro F I a w K Q hs hi hK
  have hp : a.eval x = .slice (some ⟨b, kk * n, none⟩) len cap := opd_sound hs hx
  have hq : a.eval y = .slice (some ⟨b', kk' * n, none⟩) len' cap' := opd_sound hs hy
  obtain ⟨cs, h3, h5, h6⟩ := own_buf hi (List.mem_cons_self ..)
  obtain ⟨cs', h3', h5', h6'⟩ := own_buf hi (List.mem_cons_of_mem _ (List.mem_cons_self ..))
  unfold Oper.wp
  by_cases h0 : min len' len = 0
  · rw [exec_copy hp hq (min_zero_copy (P := P) (w := w) ht.eq (run_sizeOf hv) h0)]
    refine hK () _ _ I trivial I.le_refl (by rw [h0]; rfl) ?_
    rw [h0]
    simpa [put] using hi
  · obtain ⟨e1, e2, e3⟩ := buf_cells h3' h5' h6' kk' (min len' len) (fun h => (h1 h).2)
    have hlen : ((els'.drop kk').take (min len' len)).length = min len' len := by rw [List.length_take, List.length_drop]; have := (h1 h0).2; omega
    obtain ⟨w1, w2⟩ := buf_write hi h3 (new := (els'.drop kk').take (min len' len)) (fun e he => h5' e (List.mem_of_mem_drop (List.mem_of_mem_take he))) e2 kk (by rw [hlen]; exact (h1 h0).1)
    rw [exec_copy hp hq (run_copyTo (P := P) ht.eq (run_sizeOf hv) h3 e1 e3 (one_flat ho e2) w1)]
    exact hK () _ _ I trivial I.le_refl rfl w2

/-- copy from a row that no longer changes. -/
theorem loc_copyImm [ht : TySl P t e] [hv : TyV P e agg n] {α : Type} {f' : α → List D} {ys : List α} [h1 : ∀ x, OneAll (f' x)] (hx : opd g x = some (dVal (sl b n kk len cap))) (hy : opd g y = some (dSl n f' ys))
    (h2 : min ys.length len ≠ 0 → kk + min ys.length len ≤ els.length) :
    LocM P ⟨dst, .call ⟨.builtin .copy, #[x, y], #[t, t']⟩, ty, pos, after, gd⟩ g N [rBuf b T n els] (fun _ : Unit => True) (fun _ => dInt .i64 (min ys.length len : Nat)) (fun _ => [rBuf b T n (put els kk ((ys.take (min ys.length len)).map f'))]) := by
  constructor
  intro F I a w K Q hs hi hK
  have hp : a.eval x = .slice (some ⟨b, kk * n, none⟩) len cap := opd_sound hs hx
  obtain ⟨ad, cp, hq, q1, q2, q3, q4⟩ := opd_sound hs hy
  obtain ⟨cs, h3, h5, h6⟩ := own_buf hi (List.mem_cons_self ..)
  unfold Oper.wp
  by_cases h0 : min ys.length len = 0
  · rw [exec_copy hp hq (min_zero_copy (P := P) (w := w) ht.eq (run_sizeOf hv) h0)]
    refine hK () _ _ I trivial I.le_refl (by rw [h0]; rfl) ?_
    rw [h0]
    simpa [put] using hi
  · have hel : ∀ i x, (ys.take (min ys.length len))[i]? = some x → (f' x).length = n ∧ ∃ p, ad = some p ∧ p.spot = none ∧ I.at (p.add (i * n)) (f' x) := by
      intro i x hx
      rw [List.getElem?_take] at hx
      split at hx
      · exact q4 i x hx
      · cases hx
    have hi0 : Inv I (rBuf b T n els :: F) w := hi
    obtain ⟨vs, v1, v2, v3⟩ := dSl_cells hi0 (a := ad) (xs := ys.take (min ys.length len)) 0 (by simpa using hel)
    have hlen : (ys.take (min ys.length len)).length = min ys.length len := by rw [List.length_take]; omega
    rw [hlen] at v1
    obtain ⟨x0, hx0⟩ : ∃ x0, (ys.take (min ys.length len))[0]? = some x0 := ⟨_, List.getElem?_eq_getElem (by rw [hlen]; omega)⟩
    obtain ⟨_, p, hap, _⟩ := hel 0 x0 hx0
    subst hap
    have v4 : ∀ j u, vs[j]? = some u → w.cell? (p.add j) = some u := by simpa using v3 p rfl
    obtain ⟨w1, w2⟩ := buf_write hi h3 (new := (ys.take (min ys.length len)).map f') (fun e he => by
      obtain ⟨x, hx, rfl⟩ := List.mem_map.1 he
      obtain ⟨i, hi⟩ := List.getElem?_of_mem hx
      exact (hel i x hi).1) (by rw [flatten_map]; exact v2) kk (by rw [List.length_map, hlen]; exact h2 h0)
    rw [exec_copy hp hq (run_copyTo (P := P) ht.eq (run_sizeOf hv) h3 v1 v4 (oneAll_flat h1 v2) w1)]
    exact hK () _ _ I trivial I.le_refl rfl w2

/-- append in place, from the same block. -/
theorem loc_appendOwn [ht : TySl P t e] [hv : TyV P e agg n] (hx : opd g x = some (dVal (sl b n 0 len cap))) (hy : opd g y = some (dVal (sl b n kk' len' cap')))
    (h1 : len + len' ≤ cap ∧ cap ≤ els.length) (h2 : len' ≠ 0 → kk' + len' ≤ els.length) (hT : T = e) (ho : ∀ e ∈ (els.drop kk').take len', OneAll e) :
    LocM P ⟨dst, .call ⟨.builtin .append, #[x, y], #[t, t]⟩, ty, pos, after, gd⟩ g N [rBuf b T n els] (fun _ : Unit => True) (fun _ => dVal (sl b n 0 (len + len') cap)) (fun _ => [rBuf b T n (put els len ((els.drop kk').take len'))]) := by
  subst hT
  constructor
  intro F I a w K Q hs hi hK
  have hp : a.eval x = .slice (some ⟨b, 0, none⟩) len cap := by have : a.eval x = .slice (some ⟨b, 0 * n, none⟩) len cap := opd_sound hs hx; simpa using this
  have hq : a.eval y = .slice (some ⟨b, kk' * n, none⟩) len' cap' := opd_sound hs hy
  obtain ⟨cs, h3, h5, h6⟩ := own_buf hi (List.mem_cons_self ..)
  unfold Oper.wp
  have hsz := hv.size_eq
  cases hin : P.info? T with
  | none => simp [hin] at hsz
  | some i =>
    simp only [hin, Option.map_some, Option.some.injEq] at hsz
    subst hsz
    obtain ⟨e1, e2, e3⟩ := buf_cells h3 h5 h6 kk' len' h2
    have hlen : ((els.drop kk').take len').length = len' := by
      rw [List.length_take, List.length_drop]
      by_cases h0 : len' = 0
      · omega
      · have := h2 h0; omega
    obtain ⟨w1, w2⟩ := buf_write hi h3 (new := (els.drop kk').take len') (fun e he => h5 e (List.mem_of_mem_drop (List.mem_of_mem_take he))) e2 len (by rw [hlen]; omega)
    rw [exec_append hp hq (run_append_room (P := P) w t ty T i ht.eq hin b len cap cs h3 _ len' cap' _ e1 e3 (one_flat ho e2) h1.1 w1)]
    refine hK () _ _ I trivial I.le_refl (by simp [sl, dVal]) w2

theorem size_zeroCells' (z : Array Value) (m : Nat) : (Builtin.zeroCells z m).size = m * z.size := by simp [Builtin.zeroCells]

/-- clear -/
theorem loc_clearOwn [ht : TySl P t e] {bytes : Nat} {z : Value} [hz : TyZ P e bytes z] [hv : TyV P e agg n] (hx : opd g x = some (dVal (sl b n kk len cap))) (h1 : len ≠ 0 → kk + len ≤ els.length) (hzn : z.cells.size = n) (hzo : ∀ u ∈ z.cells.toList, u.oneCell' = true) :
    LocM P ⟨dst, .call ⟨.builtin .clear, #[x], #[t]⟩, ty, pos, after, gd⟩ g N [rBuf b T n els] (fun _ : Unit => True) (fun _ => dTop) (fun _ => [rBuf b T n (if len = 0 then els else put els kk (junk n len))]) := by
  constructor
  intro F I a w K Q hs hi hK
  have hp : a.eval x = .slice (some ⟨b, kk * n, none⟩) len cap := opd_sound hs hx
  obtain ⟨cs, h3, h5, h6⟩ := own_buf hi (List.mem_cons_self ..)
  obtain ⟨i, hin, hiz, his, hib⟩ := info_of_z hz hv
  unfold Oper.wp
  by_cases h0 : len = 0
  · subst h0
    rw [exec_clear (r := .tuple #[]) (w' := w) hp (by simp [Builtin.clear_, run_underlying ht.eq])]
    exact hK () _ _ I trivial I.le_refl trivial (by simpa using hi)
  · obtain ⟨m, rfl⟩ := Nat.exists_eq_succ_of_ne_zero h0
    have hvl : (Builtin.zeroCells z.cells (m + 1)).toList.length = (m + 1) * n := by rw [Array.length_toList, size_zeroCells', hzn]
    have hjl : (junk n (m + 1)).length = m + 1 := by simp [junk]
    have hrel : relL (junk n (m + 1)).flatten I (Builtin.zeroCells z.cells (m + 1)).toList := by
      rw [junk_flat, ← hvl]
      exact relL_top _
    obtain ⟨w1, w2⟩ := buf_write hi h3 (new := junk n (m + 1)) junk_len hrel kk (by rw [hjl]; exact h1 h0)
    have hone : ∀ u ∈ (Builtin.zeroCells z.cells (m + 1)).toList, u.oneCell' = true := by
      intro u hu
      simp only [Builtin.zeroCells, Array.toList_map, Array.toList_range, List.mem_map, List.mem_range] at hu
      obtain ⟨j, hj, rfl⟩ := hu
      by_cases hzc : z.cells.size = 0
      · rw [hzc] at hj; omega
      · have hlt : j % z.cells.size < z.cells.size := Nat.mod_lt _ (by omega)
        rw [getElem!_pos z.cells _ hlt]
        exact hzo _ (by simp)
    have hst := run_storeCells_at P b (kk * n) T _ 0 cs w h3 (by simpa using w1) hone
    simp only [Nat.add_zero] at hst
    have hzv : (zeroValue e).run P w = .ok z w := by simp [zeroValue, typeInfo, hin, hiz]
    rw [exec_clear (r := .tuple #[]) (w' := w.setRow b (cs.toList.take (kk * n) ++ (Builtin.zeroCells z.cells (m + 1)).toList ++ cs.toList.drop (kk * n + (Builtin.zeroCells z.cells (m + 1)).toList.length)).toArray) hp (by
      simp only [Builtin.clear_, Sem.run_bind, Sem.run_pure, Result.andThen_ok, List.getElem?_toArray, List.getElem?_cons_zero, run_underlying ht.eq, hzv, hst])]
    rw [if_neg h0] at hK
    exact hK () _ _ I trivial I.le_refl trivial w2

end

/-! ### Growing by zeros; overlaps -/

section
variable {x y : Operand} {t t' e : TypeId} {agg : Bool} {n : Nat} {b kk len cap : Nat} {T : TypeId} {els : List (List D)}

/-- append(s[:i], make(S, m)...), where there is no room. -/
theorem loc_appendZeros [ht : TySl P t e] {bytes : Nat} {z : Value} [hz : TyZ P e bytes z] [hv : TyV P e agg n] [hi64 : TyInt P t' .i64] {m : Nat} (hx : opd g x = some (dVal (sl b n kk len cap))) (hy : opd g y = some (dInt .i64 (m : Nat)))
    (h1 : cap < len + m ∧ 0 < m ∧ 0 < n) (h2 : kk + len ≤ els.length) (hzn : z.cells.size = n) (hb : (len + m) * bytes ≤ 140737488355328) (hl : len + m ≤ lenMax) :
    LocM P ⟨dst, .call ⟨.builtin .append, #[x, y], #[t, t']⟩, ty, pos, after, gd⟩ g N [rBuf b T n els] (fun s : Nat × Nat => len + m ≤ s.2 ∧ s.2 ≤ maxLen) (fun s => dVal (sl s.1 n 0 (len + m) s.2)) (fun s => [rBuf s.1 e n ((els.drop kk).take len ++ junk n (s.2 - len)), rBuf b T n els]) := by
  constructor
  intro F I a w K Q hs hi hK
  have hp : a.eval x = .slice (some ⟨b, kk * n, none⟩) len cap := opd_sound hs hx
  have hq : a.eval y = .int .i64 m := opd_sound hs hy
  obtain ⟨cs, h3, h5, h6⟩ := own_buf hi (List.mem_cons_self ..)
  obtain ⟨i, hin, hiz, his, hib⟩ := info_of_z hz hv
  subst his hib
  obtain ⟨e1, e2, e3⟩ := buf_cells h3 h5 h6 kk len (fun _ => h2)
  have hge := grownCap_ge w (len + m) cap e
  have hcm := grownCap_le_maxLen w (len + m) cap e (by unfold lenMax at hl; simp only [maxLen]; omega)
  have hfit : Builtin.nextslicecap (len + m) cap * i.bytes ≤ 281474976710656 := growslice_fits (by omega) hb
  have hrun : (Builtin.append_ #[t, t'] ty #[.slice (some ⟨b, kk * i.size, none⟩) len cap, .int .i64 m]).run P w =
      .ok (.slice (some ⟨w.heap.size, 0, none⟩) (len + m) (grownCap w (len + m) cap e))
        (w.drew.alloc (.cells (((cs.toList.drop (kk * i.size)).take (len * i.size)).toArray ++ Builtin.zeroCells z.cells m ++ Builtin.zeroCells z.cells (grownCap w (len + m) cap e - (len + m))) e)) := by
    have hn : ¬ (len + m ≤ cap) := by omega
    have hw : IntKind.i64.wrap (m : Int) = m := by rw [IntWalk.i64_in _ (by unfold lenMax at hl; omega)]
    have h63' : ¬ (9223372036854775807 < ((len : Int) + (m : Int))) := by unfold lenMax at hl; omega
    have h48' : ¬ (281474976710656 < Builtin.nextslicecap (len + m) cap * i.bytes) := by omega
    have hmb : m * i.bytes ≤ 140737488355328 := Nat.le_trans (Nat.mul_le_mul_right _ (by omega)) hb
    have h48i : ¬ (281474976710656 < (m : Int) * (i.bytes : Int)) := by rw [← Int.natCast_mul]; omega
    have hneg : ¬ ((m : Int) < 0) := by omega
    have hns : ¬ (m * i.size = 0) := Nat.mul_ne_zero (by omega) (by omega)
    have hfo := run_firstCells_some (P := P) w.drew i.size len ⟨b, kk * i.size, none⟩ len cap _ e1 (by simpa using e3)
    simp [Builtin.append_, run_underlying ht.eq, run_underlying hi64.eq, sizeOf, typeInfo, zeroValue, hin, hiz, asInt, asIntOf, hw, hn, hneg, hns, h63', h48', h48i, Question.forced, hfo, newRow, grownCap]
  unfold Oper.wp
  rw [exec_append hp hq hrun]
  have hd : Inv I (rBuf b T i.size els :: F) w.drew := Inv.of_eq hi rfl rfl rfl rfl
  refine hK (w.heap.size, grownCap w (len + m) cap e) _ _ I ⟨by simpa using hge, hcm⟩ I.le_refl (by simp [sl, dVal]) ?_
  have hlen : ((els.drop kk).take len).length = len := by rw [List.length_take, List.length_drop]; omega
  refine hd.allocOwn _ _ rfl ⟨_, rfl, fun e he => ?_, ?_⟩
  · rcases List.mem_append.1 he with he | he
    · exact h5 e (List.mem_of_mem_drop (List.mem_of_mem_take he))
    · exact junk_len e he
  · rw [List.flatten_append, junk_flat]
    simp only [Array.toList_append, List.append_assoc]
    refine relL_append e2 ?_
    have : (grownCap w (len + m) cap e - len) * i.size = ((Builtin.zeroCells z.cells m).toList ++ (Builtin.zeroCells z.cells (grownCap w (len + m) cap e - (len + m))).toList).length := by
      rw [List.length_append, Array.length_toList, Array.length_toList, size_zeroCells', size_zeroCells', hzn, ← Nat.add_mul]
      congr 1
      omega
    rw [this]
    exact relL_top _

/-- The library's 'overlaps', which the model answers itself. -/
class TyOver (P : Program) (f : FuncId) (t : outParam TypeId) : Prop where
  is : ∃ fn tR, P.funcs[f]? = some fn ∧ (fn.name == "runtime.NumGoroutine") = false ∧ fn.body.isNone = true ∧ Extern.findNext fn = none ∧ Extern.find fn = some (Extern.SlicesOverlaps.overlaps #[t, t] #[tR])

/-- A row that no longer changes lies apart from what the call owns. -/
theorem loc_overlaps {f : FuncId} [hf : TyOver P f t] [ht : TySl P t e] [hv : TyV P e agg n] {α : Type} {f' : α → List D} {ys : List α} {ats : Array TypeId} (hx : opd g x = some (dSl n f' ys)) (hy : opd g y = some (dVal (sl b n kk len cap))) (hm : In (rBuf b T n els) M) (hl : len ≠ 0 → kk + len ≤ els.length) :
    LocP P ⟨dst, .call ⟨.value (.func f), #[x, y], ats⟩, ty, pos, after, gd⟩ g N M (dB False) :=
  locP_of_run fun I a w hs hi => by
    obtain ⟨fn, tR, e1, e2, e3, e4, e5⟩ := hf.is
    obtain ⟨ad, cp, hp, q1, q2, q3, q4⟩ := opd_sound hs hx
    have hq : a.eval y = .slice (some ⟨b, kk * n, none⟩) len cap := opd_sound hs hy
    obtain ⟨cs, h3, h5, h6⟩ := own_buf hi hm.mem
    have hown := hi.own _ hm.mem
    have hbn : I.blk b = none := hown.1
    have hans : (Extern.SlicesOverlaps.overlaps #[t, t] #[tR] #[.slice ad ys.length cp, .slice (some ⟨b, kk * n, none⟩) len cap]).run P w = .ok (.bool false) w := by
      change Sem.run P (α := Value) (do
        let some t := (#[t, t] : Array TypeId)[0]? | stuck "slices.overlaps: no parameter types"
        let .slice elem ← underlying t | stuck "slices.overlaps: slice type expected"
        let size ← sizeOf elem
        match ad, (some ⟨b, kk * n, none⟩ : Option Addr) with
        | some a, some b =>
          if ys.length = 0 ∨ len = 0 ∨ size = 0 then pure (Value.bool false)
          else if a.block != b.block && (← frozen a) && (← frozen b) then unsupported .addressObserved
          else do
            if a.block != b.block then do
              noView a; noView b
              if ← mayBeOne a b then return Value.bool ((← choose (.extern "sameAddr.stringBytes" 2)) == 1)
            pure (Value.bool (a.block == b.block && a.off < b.off + len * size && b.off < a.off + ys.length * size))
        | _, _ => pure (Value.bool false)) w = _
      cases ad with
      | none => simp [run_underlying ht.eq, run_sizeOf hv]
      | some p =>
        by_cases h0 : ys.length = 0 ∨ len = 0 ∨ n = 0
        · simp only [List.length_eq_zero_iff] at h0
          simp [run_underlying ht.eq, run_sizeOf hv]
          intro g1 g2 g3
          rcases h0 with h0 | h0 | h0 <;> contradiction
        · obtain ⟨y0, hy0⟩ : ∃ y0, ys[0]? = some y0 := ⟨_, List.getElem?_eq_getElem (by omega)⟩
          obtain ⟨g1, p', g2, g3, g4, cs', T', fz, g5, g6⟩ := q4 0 y0 hy0
          injection g2 with g2
          subst g2
          rw [Nat.zero_mul, Addr.add_zero'] at g5 g6
          have hne : p.block ≠ b := by intro e; rw [e, hbn] at g5; cases g5
          have hw := hi.imm _ _ g5
          have hnb : (p.block != b) = true := by simpa using hne
          have hl0 := relL_length g6
          have hcs' : cs'.size ≠ 0 := by
            intro hz
            have : cs'.toList = [] := by simpa using hz
            rw [this] at hl0
            simp [g1] at hl0
            omega
          have hl2 := relL_length h6
          rw [flatten_len h5] at hl2
          have hcs : cs.size ≠ 0 := by
            have := hl (by omega)
            have : 0 < els.length * n := Nat.mul_pos (by omega) (by omega)
            simp at hl2
            omega
          have hsa : w.shape? p.block = some (T', cs'.size) := by simp [World.shape?, hw]
          have hsb : w.shape? b = some (T, cs.size) := by simp [World.shape?, h3]
          have hfb : ∀ k, w.frozen? ⟨b, k, none⟩ = false := fun k => by simp [World.frozen?, h3]
          have hfr : ∀ (x : Addr), (frozen x).run P w = .ok (w.frozen? x) w := fun x => rfl
          have hsh : ∀ (x : Nat), (shape x).run P w = .ok (w.shape? x) w := fun x => rfl
          have hva : (noView p).run P w = .ok () w := by simp [noView, viewAt, hsh, hsa]
          have hvb : (noView ⟨b, kk * n, none⟩).run P w = .ok () w := by simp [noView, viewAt, hsh, hsb]
          have hsb2 : (stringish ⟨b, kk * n, none⟩).run P w = .ok false w := by simp [stringish, hfr, hfb, hsh, hsb]
          have hsa2 : ∃ s, (stringish p).run P w = .ok s w := by
            simp only [stringish, Sem.run_bind, hfr, Result.andThen_ok]
            cases w.frozen? p with
            | true => exact ⟨true, by simp⟩
            | false => exact ⟨w.frozen? { block := p.block, off := cs'.size }, by simp [hsh, hsa, hfr]⟩
          obtain ⟨s, hs2⟩ := hsa2
          have hcs2 : ∃ m, cs.size = m + 1 := Nat.exists_eq_succ_of_ne_zero hcs
          have hmb : (mayBeOne p ⟨b, kk * n, none⟩).run P w = .ok false w := by
            obtain ⟨m, hm2⟩ := hcs2
            obtain ⟨m', hm3⟩ := Nat.exists_eq_succ_of_ne_zero hcs'
            cases s <;> simp [mayBeOne, hs2, hsb2, hsh, hsa, hsb, hm2, hm3]
          simp [run_underlying ht.eq, run_sizeOf hv, h0, hnb, hfr, hfb, hva, hvb, hmb, hne]
    refine ⟨.bool false, ?_, false, rfl, by simp⟩
    have h1 := run_callFunc_extern (P := P) e1 e2 e3 e4 e5 #[.slice ad ys.length cp, .slice (some ⟨b, kk * n, none⟩) len cap] w
    have h2 := execOp_call_slot (dst := dst) (ty := ty) (pos := pos) (after := after) (gd := gd) (a := a) (c := .func f) (f := f) (xs := [x, y]) (cap := #[]) rfl ats
    rw [show (#[x, y] : Array Operand) = [x, y].toArray from rfl, h2]
    simp only [List.map_cons, List.map_nil, hp, hq, Array.append_empty]
    rw [h1, hans]
    rfl

end

end Go.Q
