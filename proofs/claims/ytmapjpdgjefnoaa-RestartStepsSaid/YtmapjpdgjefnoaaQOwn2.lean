/- Rows of the call's own, opened and shut in the middle of a walk; the lists that the library's Insert and Delete leave: what is proved here holds of every program. -/
import Derived.Test.YtmapjpdgjefnoaaQOwn
set_option linter.unusedVariables false
set_option linter.unusedSimpArgs false
namespace Go.Q

variable {P : Program} {f : FuncId} {N : Nat} {I0 : Imm} {R : Ending → World → Prop} {g : G} {M : List Res} {k : List Item}
variable {dst : Option Tmp} {ty : TypeId} {pos : String} {after : Array Edge} {gd : Option (Nat × Bool)}

theorem sl_zero (b n len cap : Nat) : Value.slice (some ⟨b, 0, none⟩) len cap = sl b n 0 len cap := by simp [sl]

/-- A row is opened. -/
theorem run_openRow {α : Type} {v : Value} {T n : Nat} {f' : α → List D} {xs : List α} {C : Res → List Res} {F : List Res} (hm : Sel (rRow v T n f' xs) M C F) (hx : xs ≠ [])
    (h : ∀ b cap, v = sl b n 0 xs.length cap → xs.length ≤ cap → cap ≤ maxLen → xs.length ≤ lenMax → (∀ x ∈ xs, (f' x).length = n) → Run P f N I0 R g (C (rBuf b T n (xs.map f' ++ junk n (cap - xs.length)))) k) : Run P f N I0 R g M k := by
  constructor
  intro I a w b cs hb hk hl hs hi
  have hi' := hi.perm hm.perm.1
  rcases row_cases hi' with ⟨_, h2⟩ | ⟨b', cap, cs', h2, _⟩
  · exact absurd h2 hx
  · subst h2
    obtain ⟨_, h4, h5, h6, h7, h8⟩ := row_open hi'
    exact (h b' cap (sl_zero ..) h4 h5 h6 h7).go I a w b cs hb hk hl hs (h8.perm (hm.perm.2 _))

theorem inv_shut {α : Type} {b len cap : Nat} {T n : Nat} {f' : α → List D} {xs : List α} {els els' : List (List D)} {I : Imm} {F : List Res} {w : World} (h : Inv I (rBuf b T n els :: F) w) (he : els = xs.map f' ++ els')
    (hl : len = xs.length) (hc : xs.length + els'.length = cap) (hm : cap ≤ maxLen) (hx : xs.length ≤ lenMax) : Inv I (rRow (sl b n 0 len cap) T n f' xs :: F) w := by
  subst he
  rw [← sl_zero]
  exact row_shut h hl hc hm hx

/-- Bounds of a row that are looked at; the answer is not used. -/
theorem loc_sliceRowTop {t e : TypeId} {agg : Bool} {n T : Nat} {α : Type} {f' : α → List D} {xs : List α} {v : Value} {x lo : Operand} {kd : IntKind} {i : Int} [ht : TySl P t e] [hv : TyV P e agg n] (hx : opd g x = some (dVal v)) (hm : In (rRow v T n f' xs) M) (hy : opd g lo = some (dInt kd i)) (h : 0 ≤ i ∧ i ≤ xs.length) :
    LocP P ⟨dst, .slice t x (some lo) none none, ty, pos, after, gd⟩ g N M dTop :=
  locP_of_run fun I a w hs hinv => by
    have hp : a.eval x = v := opd_sound hs hx
    have hlo : a.eval lo = .int kd i := opd_sound hs hy
    obtain ⟨s, t', e⟩ := List.append_of_mem hm.mem
    rw [e] at hinv
    rcases row_cases (hinv.perm List.perm_middle) with ⟨h2, h3⟩ | ⟨b', cap, cs', h2, _⟩
    · subst h2; subst h3
      have h0 : (0 ≤ i ∧ i ≤ (0 : Int)) := by simpa using h
      exact ⟨_, by simp [execOp, Instr.sliceAt, Instr.slice, hp, hlo, run_underlying ht.eq, Instr.sliceBounds, Instr.sliceBound, asIntOf, h0, run_sizeOf hv]; rfl, trivial⟩
    · subst h2
      exact ⟨_, by simp [execOp, Instr.sliceAt, Instr.slice, hp, hlo, run_underlying ht.eq, Instr.sliceBounds, Instr.sliceBound, asIntOf, h, run_sizeOf hv]; rfl, trivial⟩

section
variable {x y z lo hi mx : Operand} {t e : TypeId} {agg : Bool} {n : Nat} {b kk len cap : Nat} {kd kd' kd2 : IntKind} {i j m : Int}
theorem loc_sliceOwnFromLt [ht : TySl P t e] [hv : TyV P e agg n] (hx : opd g x = some (dVal (sl b n kk len cap))) (hy : opd g lo = some (dInt kd i)) (h : 0 ≤ i ∧ i ≤ len ∧ len ≤ cap ∧ i < cap) :
    LocP P ⟨dst, .slice t x (some lo) none none, ty, pos, after, gd⟩ g N M (dVal (sl b n (kk + i.toNat) (len - i.toNat) (cap - i.toNat))) :=
  (loc_sliceOwnFrom hx hy ⟨h.1, h.2.1, h.2.2.1⟩).conv (by rw [if_neg (by omega)])
theorem loc_sliceOwnLt [ht : TySl P t e] [hv : TyV P e agg n] (hx : opd g x = some (dVal (sl b n kk len cap))) (hy : opd g lo = some (dInt kd i)) (hz : opd g hi = some (dInt kd' j)) (h : 0 ≤ i ∧ i ≤ j ∧ j ≤ cap ∧ i < cap) :
    LocP P ⟨dst, .slice t x (some lo) (some hi) none, ty, pos, after, gd⟩ g N M (dVal (sl b n (kk + i.toNat) (j.toNat - i.toNat) (cap - i.toNat))) :=
  (loc_sliceOwn hx hy hz ⟨h.1, h.2.1, h.2.2.1⟩).conv (by rw [if_neg (by omega)])
end

/-! ### Lists -/

theorem put_len {els new : List (List D)} {kk : Nat} (h : kk + new.length ≤ els.length) : (put els kk new).length = els.length := by
  unfold put
  simp only [List.length_append, List.length_take, List.length_drop]
  omega

theorem junk_length (n m : Nat) : (junk n m).length = m := by simp [junk]

theorem put_left {A J new : List (List D)} {kk : Nat} (h : kk + new.length ≤ A.length) : put (A ++ J) kk new = put A kk new ++ J := by
  unfold put
  rw [List.take_append_of_le_length (by omega), List.drop_append_of_le_length (by omega)]
  simp

/-- What Insert leaves where there is room. -/
theorem insert_list {A J : List (List D)} {X : List (List D)} {x : List D} {i p q r m : Nat} (hi : i < A.length) (hp : p = i + 1) (hq : q = i) (hr : r = i) (hm : m = A.length - i) (hX : X = [x]) (hJ : 0 < J.length) :
    put (put (A ++ J) p (((A ++ J).drop q).take m)) r X = (A.take i ++ [x] ++ A.drop i) ++ J.drop 1 := by
  rw [hp, hq, hr, hm, hX]
  clear hp hq hr hm hX p q r m X
  generalize hqi : i = q at *
  clear hqi i
  have e1 : ((A ++ J).drop q).take (A.length - q) = A.drop q := by
    rw [List.drop_append_of_le_length (by omega), List.take_append_of_le_length (by simp), List.take_of_length_le (by simp)]
  rw [e1]
  match J, hJ with
  | j :: J, _ =>
    have e2 : put (A ++ j :: J) (q + 1) (A.drop q) = (A.take (q + 1) ++ A.drop q) ++ J := by
      unfold put
      rw [List.take_append_of_le_length (by omega), List.length_drop, List.drop_append, List.drop_eq_nil_of_le (as := A) (i := q + 1 + (A.length - q)) (by omega), show q + 1 + (A.length - q) - A.length = 1 by omega]
      simp
    rw [e2, put_left (by simp; omega)]
    congr 1
    unfold put
    rw [List.take_append_of_le_length (by simp; omega), List.take_take, show min q (q + 1) = q by omega]
    congr 1
    rw [List.length_singleton, List.drop_append, List.drop_eq_nil_of_le (by simp; omega), List.nil_append, List.length_take, show q + 1 - min (q + 1) A.length = 0 by omega]
    rfl

/-- What Insert leaves where there is none. -/
theorem insert_grow {A B J X Y : List (List D)} {x : List D} {i p q r c : Nat} (hi : i < A.length) (hp : p = i) (hq : q = i) (hr : r = i + 1) (hX : X = [x]) (hY : Y = A.drop i) (hc : A.length + 1 ≤ c) (hB : B.length = c - i) :
    put (put (((A ++ J).drop 0).take p ++ B) q X) r Y = (A.take i ++ [x] ++ A.drop i) ++ B.drop (A.length + 1 - i) := by
  rw [hp, hq, hr, hX, hY]
  clear hp hq hr hX hY p q r X Y
  generalize hqi : i = s at *
  clear hqi i
  have e2 : ((A ++ J).drop 0).take s = A.take s := by rw [List.drop_zero, List.take_append_of_le_length (by omega)]
  rw [e2]
  have e3 : put (A.take s ++ B) s [x] = A.take s ++ [x] ++ B.drop 1 := by
    unfold put
    rw [List.take_append_of_le_length (by simp; omega), List.take_take, Nat.min_self, List.length_singleton, List.drop_append, List.drop_eq_nil_of_le (by simp; omega), List.nil_append, List.length_take, show s + 1 - min s A.length = 1 by omega]
  rw [e3]
  unfold put
  rw [List.take_append_of_le_length (by simp; omega), List.take_of_length_le (by simp; omega)]
  congr 1
  rw [List.length_drop, List.drop_append, List.drop_eq_nil_of_le (by simp; omega), List.nil_append, List.drop_drop]
  congr 1
  simp
  omega

/-- What Delete leaves. -/
theorem delete_list {A J : List (List D)} {n i j p q m r d : Nat} (hi : i < j) (hj : j ≤ A.length) (hp : p = i) (hq : m ≠ 0 → q = j) (hm : m = A.length - j) (hr : r = i + (A.length - j)) (hd : d = j - i) :
    put (put (A ++ J) p (((A ++ J).drop q).take m)) r (junk n d) = (A.take i ++ A.drop j) ++ (junk n (j - i) ++ J) := by
  rw [hp, hm, hr, hd]
  rw [hm] at hq
  clear hp hm hr hd p m r d
  generalize hqi : i = p at *
  clear hqi i
  have e1 : ((A ++ J).drop q).take (A.length - j) = A.drop j := by
    by_cases h0 : A.length - j = 0
    · rw [h0, List.take_zero, List.drop_eq_nil_of_le (by omega)]
    · rw [hq h0, List.drop_append_of_le_length (by omega), List.take_append_of_le_length (by simp), List.take_of_length_le (by simp)]
  rw [e1]
  have e2 : put (A ++ J) p (A.drop j) = (A.take p ++ A.drop j) ++ (A.drop (p + (A.length - j)) ++ J) := by
    rw [put_left (by simp; omega)]
    unfold put
    simp
  rw [e2]
  unfold put
  rw [List.take_append_of_le_length (by simp; omega), List.take_of_length_le (by simp; omega)]
  rw [List.append_assoc]
  congr 1
  · rw [junk_length, List.drop_append, List.drop_eq_nil_of_le (by simp; omega), List.nil_append]
    have : p + (A.length - j) + (j - p) - (A.take p ++ A.drop j).length = j - p := by simp; omega
    rw [this, List.drop_append, List.drop_drop, List.drop_eq_nil_of_le (by omega), List.length_drop, show j - p - (A.length - (p + (A.length - j))) = 0 by omega]
    simp

/-- A row is shut. -/
theorem run_shutRow {α : Type} {b len cap T n : Nat} {f' : α → List D} {xs : List α} {els els' : List (List D)} {C : Res → List Res} {F : List Res} (hm : Sel (rBuf b T n els) M C F) (he : els = xs.map f' ++ els')
    (hl : len = xs.length) (hc : xs.length + els'.length = cap) (hcm : cap ≤ maxLen) (hx : xs.length ≤ lenMax) (h : Run P f N I0 R g (C (rRow (sl b n 0 len cap) T n f' xs)) k) : Run P f N I0 R g M k :=
  run_weaken (fun _ _ _ hs hi => ⟨hs, (inv_shut (hi.perm hm.perm.1) he hl hc hcm hx).perm (hm.perm.2 _)⟩) h

theorem opd_conv {x : Operand} {d d' : D} (h : opd g x = some d) (e : d = d') : opd g x = some d' := e ▸ h

/-! ### The rules that turn a block, with the block picked first -/

section
variable {R : Ending → World → Prop} {ops : Array Oper} {rest : List Oper} {op : Op} {r : Res} {C : Res → List Res} {F : List Res} {dst : Tmp}
theorem run_updS {σ : Type} {φ : σ → Prop} {d : σ → D} {r' : σ → Res} (hN : Nat.blt dst N = true) (hs : Sel r M C F)
    (hd : LocM P ⟨some dst, op, ty, pos, after, none⟩ g N [r] φ d (fun s => [r' s])) (h : ∀ s, φ s → RunL P f N I0 R ((dst, d s) :: g) (C (r' s)) ops rest k) :
    RunL P f N I0 R g M ops (⟨some dst, op, ty, pos, after, none⟩ :: rest) k := run_upd hd hN hs h
theorem run_updS0 {σ : Type} {φ : σ → Prop} {d : σ → D} {r' : σ → Res} (hs : Sel r M C F)
    (hd : LocM P ⟨none, op, ty, pos, after, none⟩ g N [r] φ d (fun s => [r' s])) (h : ∀ s, φ s → RunL P f N I0 R g (C (r' s)) ops rest k) :
    RunL P f N I0 R g M ops (⟨none, op, ty, pos, after, none⟩ :: rest) k := run_upd0 hd hs h
/-- Two resources at the front. -/
theorem run_upd2 {r2 : Res} {σ : Type} {φ : σ → Prop} {d : σ → D} {Mout : σ → List Res} (hN : Nat.blt dst N = true)
    (hd : LocM P ⟨some dst, op, ty, pos, after, none⟩ g N [r, r2] φ d Mout) (h : ∀ s, φ s → RunL P f N I0 R ((dst, d s) :: g) (Mout s ++ F) ops rest k) :
    RunL P f N I0 R g (r :: r2 :: F) ops (⟨some dst, op, ty, pos, after, none⟩ :: rest) k := by
  have := run_opM (F := F) hd hN h
  exact this
theorem runL_fact {l : List Oper} {s : Nat} {d : D} {p : Prop} (hs : look g s = some d) (hp : ∀ I v, d.rel I v → p) (h : p → RunL P f N I0 R g M ops l k) : RunL P f N I0 R g M ops l k := by
  constructor
  intro I a w b cs hb hk hl hsl hi
  exact (h (hp _ _ (hsl.slot s d hs))).go I a w b cs hb hk hl hsl hi
theorem run_updG {σ : Type} {φ : σ → Prop} {d : σ → D} {Mout : σ → List Res} (hN : Nat.blt dst N = true)
    (hd : LocM P ⟨some dst, op, ty, pos, after, none⟩ g N [r] φ d Mout) (h : ∀ s, φ s → RunL P f N I0 R ((dst, d s) :: g) (Mout s ++ F) ops rest k) :
    RunL P f N I0 R g (r :: F) ops (⟨some dst, op, ty, pos, after, none⟩ :: rest) k := by
  have := run_opM (F := F) hd hN h
  exact this
end

theorem one_part {α : Type} {f' : α → List D} [h1 : ∀ x, OneAll (f' x)] {xs : List α} {J : List (List D)} {q m : Nat} (h : m ≠ 0 → q + m ≤ xs.length) : ∀ e ∈ ((xs.map f' ++ J).drop q).take m, OneAll e := by
  intro e he
  have he' : e ∈ xs.map f' := by
    by_cases h0 : m = 0
    · subst h0; simp at he
    · have h2 := h h0
      obtain ⟨i, hi⟩ := List.getElem?_of_mem he
      rw [List.getElem?_take] at hi
      split at hi
      · rw [List.getElem?_drop, List.getElem?_append_left (by simp; omega)] at hi
        exact List.mem_of_getElem? hi
      · cases hi
  obtain ⟨x, -, rfl⟩ := List.mem_map.1 he'
  exact h1 x

end Go.Q
