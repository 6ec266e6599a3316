/- Rows of the call's own, opened and shut in the middle of a walk; the lists that the library's Insert and Delete leave: what is proved here holds of every program. -/
import Derived.Test.YtmihhjchmnmaiaaQOwn
import Derived.Laws.Bits64
import Derived.Laws.Shifts
import Derived.Test.YtmihhjchmnmaiaaQKit5
set_option linter.unusedVariables false
set_option linter.unusedSimpArgs false
namespace Go.Q

variable {P : Program} {f : FuncId} {N : Nat} {I0 : Imm} {R : Goal} {g : G} {M : List Res} {k : List Item}
variable {dst : Option Tmp} {ty : TypeId} {pos : String} {after : Array Edge} {gd : Option (Nat × Bool)}

theorem sl_zero (b n len cap : Nat) : Value.slice (some ⟨b, 0, none⟩) len cap = sl b n 0 len cap := by simp [sl]

/-- A row is opened. -/
theorem run_openRow {α : Type} {v : Value} {T n : Nat} {f' : α → List D} {xs : List α} {C : Res → List Res} {F : List Res} (hm : Sel (rRow v T n f' xs) M C F) (hx : xs ≠ [])
    (h : ∀ b cap, v = sl b n 0 xs.length cap → xs.length ≤ cap → cap ≤ maxLen → xs.length ≤ lenMax → (∀ x ∈ xs, (f' x).length = n) → Run P f N I0 R g (C (rBuf b T n (xs.map f' ++ junk n (cap - xs.length)))) k) : Run P f N I0 R g M k := by
  constructor
  intro I a w b cs hb hk hl hs hi
  have hi' := hi.perm hm.perm.1
  rcases row_cases hi' with ⟨_, h2⟩ | ⟨b', cap, cs', h2, _⟩
  · exact absurd h2 hx
  · subst h2
    obtain ⟨_, h4, h5, h6, h7, h8⟩ := row_open hi'
    exact (h b' cap (sl_zero ..) h4 h5 h6 h7).go I a w b cs hb hk hl hs (h8.perm (hm.perm.2 _))

theorem inv_shut {α : Type} {b len cap : Nat} {T n : Nat} {f' : α → List D} {xs : List α} {els els' : List (List D)} {I : Imm} {F : List Res} {w : World} (h : Inv I (rBuf b T n els :: F) w) (he : els = xs.map f' ++ els')
    (hl : len = xs.length) (hc : xs.length + els'.length = cap) (hm : cap ≤ maxLen) (hx : xs.length ≤ lenMax) : Inv I (rRow (sl b n 0 len cap) T n f' xs :: F) w := by
  subst he
  rw [← sl_zero]
  exact row_shut h hl hc hm hx

/-- Bounds of a row that are looked at; the answer is not used. -/
theorem loc_sliceRowTop {t e : TypeId} {agg : Bool} {n T : Nat} {α : Type} {f' : α → List D} {xs : List α} {v : Value} {x lo : Operand} {kd : IntKind} {i : Int} [ht : TySl P t e] [hv : TyV P e agg n] (hx : opd g x = some (dVal v)) (hm : In (rRow v T n f' xs) M) (hy : opd g lo = some (dInt kd i)) (h : 0 ≤ i ∧ i ≤ xs.length) :
    LocP P ⟨dst, .slice t x (some lo) none none, ty, pos, after, gd⟩ g N M dTop :=
  locP_of_run fun I a w hs hinv => by
    have hp : a.eval x = v := opd_sound hs hx
    have hlo : a.eval lo = .int kd i := opd_sound hs hy
    obtain ⟨s, t', e⟩ := List.append_of_mem hm.mem
    rw [e] at hinv
    rcases row_cases (hinv.perm List.perm_middle) with ⟨h2, h3⟩ | ⟨b', cap, cs', h2, _⟩
    · subst h2; subst h3
      have h0 : (0 ≤ i ∧ i ≤ (0 : Int)) := by simpa using h
      exact ⟨_, by simp [execOp, Instr.sliceAt, Instr.slice, hp, hlo, run_underlying ht.eq, Instr.sliceBounds, Instr.sliceBound, asIntOf, h0, run_sizeOf hv]; rfl, trivial⟩
    · subst h2
      exact ⟨_, by simp [execOp, Instr.sliceAt, Instr.slice, hp, hlo, run_underlying ht.eq, Instr.sliceBounds, Instr.sliceBound, asIntOf, h, run_sizeOf hv]; rfl, trivial⟩

section
variable {x y z lo hi mx : Operand} {t e : TypeId} {agg : Bool} {n : Nat} {b kk len cap : Nat} {kd kd' kd2 : IntKind} {i j m : Int}
theorem loc_sliceOwnFromLt [ht : TySl P t e] [hv : TyV P e agg n] (hx : opd g x = some (dVal (sl b n kk len cap))) (hy : opd g lo = some (dInt kd i)) (h : 0 ≤ i ∧ i ≤ len ∧ len ≤ cap ∧ i < cap) :
    LocP P ⟨dst, .slice t x (some lo) none none, ty, pos, after, gd⟩ g N M (dVal (sl b n (kk + i.toNat) (len - i.toNat) (cap - i.toNat))) :=
  (loc_sliceOwnFrom hx hy ⟨h.1, h.2.1, h.2.2.1⟩).conv (by rw [if_neg (by omega)])
theorem loc_sliceOwnLt [ht : TySl P t e] [hv : TyV P e agg n] (hx : opd g x = some (dVal (sl b n kk len cap))) (hy : opd g lo = some (dInt kd i)) (hz : opd g hi = some (dInt kd' j)) (h : 0 ≤ i ∧ i ≤ j ∧ j ≤ cap ∧ i < cap) :
    LocP P ⟨dst, .slice t x (some lo) (some hi) none, ty, pos, after, gd⟩ g N M (dVal (sl b n (kk + i.toNat) (j.toNat - i.toNat) (cap - i.toNat))) :=
  (loc_sliceOwn hx hy hz ⟨h.1, h.2.1, h.2.2.1⟩).conv (by rw [if_neg (by omega)])
end

/-! ### Lists -/

theorem put_len {els new : List (List D)} {kk : Nat} (h : kk + new.length ≤ els.length) : (put els kk new).length = els.length := by
  unfold put
  simp only [List.length_append, List.length_take, List.length_drop]
  omega

theorem junk_length (n m : Nat) : (junk n m).length = m := by simp [junk]

theorem put_left {A J new : List (List D)} {kk : Nat} (h : kk + new.length ≤ A.length) : put (A ++ J) kk new = put A kk new ++ J := by
  unfold put
  rw [List.take_append_of_le_length (by omega), List.drop_append_of_le_length (by omega)]
  simp

/-- What Insert leaves where there is room. -/
theorem insert_list {A J : List (List D)} {X : List (List D)} {x : List D} {i p q r m : Nat} (hi : i < A.length) (hp : p = i + 1) (hq : q = i) (hr : r = i) (hm : m = A.length - i) (hX : X = [x]) (hJ : 0 < J.length) :
    put (put (A ++ J) p (((A ++ J).drop q).take m)) r X = (A.take i ++ [x] ++ A.drop i) ++ J.drop 1 := by
  rw [hp, hq, hr, hm, hX]
  clear hp hq hr hm hX p q r m X
  generalize hqi : i = q at *
  clear hqi i
  have e1 : ((A ++ J).drop q).take (A.length - q) = A.drop q := by
    rw [List.drop_append_of_le_length (by omega), List.take_append_of_le_length (by simp), List.take_of_length_le (by simp)]
  rw [e1]
  match J, hJ with
  | j :: J, _ =>
    have e2 : put (A ++ j :: J) (q + 1) (A.drop q) = (A.take (q + 1) ++ A.drop q) ++ J := by
      unfold put
      rw [List.take_append_of_le_length (by omega), List.length_drop, List.drop_append, @List.drop_eq_nil_of_le _ A (q + 1 + (A.length - q)) (by omega), show q + 1 + (A.length - q) - A.length = 1 by omega]
      simp
    rw [e2, put_left (by simp; omega)]
    congr 1
    unfold put
    rw [List.take_append_of_le_length (by simp; omega), List.take_take, show min q (q + 1) = q by omega]
    congr 1
    rw [List.length_singleton, List.drop_append, List.drop_eq_nil_of_le (by simp; omega), List.nil_append, List.length_take, show q + 1 - min (q + 1) A.length = 0 by omega]
    rfl

/-- What Insert leaves where there is none. -/
theorem insert_grow {A B J X Y : List (List D)} {x : List D} {i p q r c : Nat} (hi : i < A.length) (hp : p = i) (hq : q = i) (hr : r = i + 1) (hX : X = [x]) (hY : Y = A.drop i) (hc : A.length + 1 ≤ c) (hB : B.length = c - i) :
    put (put (((A ++ J).drop 0).take p ++ B) q X) r Y = (A.take i ++ [x] ++ A.drop i) ++ B.drop (A.length + 1 - i) := by
  rw [hp, hq, hr, hX, hY]
  clear hp hq hr hX hY p q r X Y
  generalize hqi : i = s at *
  clear hqi i
  have e2 : ((A ++ J).drop 0).take s = A.take s := by rw [List.drop_zero, List.take_append_of_le_length (by omega)]
  rw [e2]
  have e3 : put (A.take s ++ B) s [x] = A.take s ++ [x] ++ B.drop 1 := by
    unfold put
    rw [List.take_append_of_le_length (by simp; omega), List.take_take, Nat.min_self, List.length_singleton, List.drop_append, List.drop_eq_nil_of_le (by simp; omega), List.nil_append, List.length_take, show s + 1 - min s A.length = 1 by omega]
  rw [e3]
  unfold put
  rw [List.take_append_of_le_length (by simp; omega), List.take_of_length_le (by simp; omega)]
  congr 1
  rw [List.length_drop, List.drop_append, List.drop_eq_nil_of_le (by simp; omega), List.nil_append, List.drop_drop]
  congr 1
  simp
  omega

/-- What Delete leaves. -/
theorem delete_list {A J : List (List D)} {n i j p q m r d : Nat} (hi : i < j) (hj : j ≤ A.length) (hp : p = i) (hq : m ≠ 0 → q = j) (hm : m = A.length - j) (hr : r = i + (A.length - j)) (hd : d = j - i) :
    put (put (A ++ J) p (((A ++ J).drop q).take m)) r (junk n d) = (A.take i ++ A.drop j) ++ (junk n (j - i) ++ J) := by
  rw [hp, hm, hr, hd]
  rw [hm] at hq
  clear hp hm hr hd p m r d
  generalize hqi : i = p at *
  clear hqi i
  have e1 : ((A ++ J).drop q).take (A.length - j) = A.drop j := by
    by_cases h0 : A.length - j = 0
    · rw [h0, List.take_zero, List.drop_eq_nil_of_le (by omega)]
    · rw [hq h0, List.drop_append_of_le_length (by omega), List.take_append_of_le_length (by simp), List.take_of_length_le (by simp)]
  rw [e1]
  have e2 : put (A ++ J) p (A.drop j) = (A.take p ++ A.drop j) ++ (A.drop (p + (A.length - j)) ++ J) := by
    rw [put_left (by simp; omega)]
    unfold put
    simp
  rw [e2]
  unfold put
  rw [List.take_append_of_le_length (by simp; omega), List.take_of_length_le (by simp; omega)]
  rw [List.append_assoc]
  congr 1
  · rw [junk_length, List.drop_append, List.drop_eq_nil_of_le (by simp; omega), List.nil_append]
    have : p + (A.length - j) + (j - p) - (A.take p ++ A.drop j).length = j - p := by simp; omega
    rw [this, List.drop_append, List.drop_drop, List.drop_eq_nil_of_le (by omega), List.length_drop, show j - p - (A.length - (p + (A.length - j))) = 0 by omega]
    simp

/-- A row is shut. -/
theorem run_shutRow {α : Type} {b len cap T n : Nat} {f' : α → List D} {xs : List α} {els els' : List (List D)} {C : Res → List Res} {F : List Res} (hm : Sel (rBuf b T n els) M C F) (he : els = xs.map f' ++ els')
    (hl : len = xs.length) (hc : xs.length + els'.length = cap) (hcm : cap ≤ maxLen) (hx : xs.length ≤ lenMax) (h : Run P f N I0 R g (C (rRow (sl b n 0 len cap) T n f' xs)) k) : Run P f N I0 R g M k :=
  run_weaken (fun _ _ _ hs hi => ⟨hs, (inv_shut (hi.perm hm.perm.1) he hl hc hcm hx).perm (hm.perm.2 _)⟩) h

theorem opd_conv {x : Operand} {d d' : D} (h : opd g x = some d) (e : d = d') : opd g x = some d' := e ▸ h

/-! ### The rules that turn a block, with the block picked first -/

section
variable {R : Goal} {ops : Array Oper} {rest : List Oper} {op : Op} {r : Res} {C : Res → List Res} {F : List Res} {dst : Tmp}
theorem run_updS {σ : Type} {φ : σ → Prop} {d : σ → D} {r' : σ → Res} (hN : Nat.blt dst N = true) (hs : Sel r M C F)
    (hd : LocM P ⟨some dst, op, ty, pos, after, none⟩ g N [r] φ d (fun s => [r' s])) (h : ∀ s, φ s → RunL P f N I0 R ((dst, d s) :: g) (C (r' s)) ops rest k) :
    RunL P f N I0 R g M ops (⟨some dst, op, ty, pos, after, none⟩ :: rest) k := run_upd hd hN hs h
theorem run_updS0 {σ : Type} {φ : σ → Prop} {d : σ → D} {r' : σ → Res} (hs : Sel r M C F)
    (hd : LocM P ⟨none, op, ty, pos, after, none⟩ g N [r] φ d (fun s => [r' s])) (h : ∀ s, φ s → RunL P f N I0 R g (C (r' s)) ops rest k) :
    RunL P f N I0 R g M ops (⟨none, op, ty, pos, after, none⟩ :: rest) k := run_upd0 hd hs h
/-- Two resources at the front. -/
theorem run_upd2 {r2 : Res} {σ : Type} {φ : σ → Prop} {d : σ → D} {Mout : σ → List Res} (hN : Nat.blt dst N = true)
    (hd : LocM P ⟨some dst, op, ty, pos, after, none⟩ g N [r, r2] φ d Mout) (h : ∀ s, φ s → RunL P f N I0 R ((dst, d s) :: g) (Mout s ++ F) ops rest k) :
    RunL P f N I0 R g (r :: r2 :: F) ops (⟨some dst, op, ty, pos, after, none⟩ :: rest) k := by
  have := run_opM (F := F) hd hN h
  exact this
theorem runL_fact {l : List Oper} {s : Nat} {d : D} {p : Prop} (hs : look g s = some d) (hp : ∀ I v, d.rel I v → p) (h : p → RunL P f N I0 R g M ops l k) : RunL P f N I0 R g M ops l k := by
  constructor
  intro I a w b cs hb hk hl hsl hi
  exact (h (hp _ _ (hsl.slot s d hs))).go I a w b cs hb hk hl hsl hi
theorem run_updG {σ : Type} {φ : σ → Prop} {d : σ → D} {Mout : σ → List Res} (hN : Nat.blt dst N = true)
    (hd : LocM P ⟨some dst, op, ty, pos, after, none⟩ g N [r] φ d Mout) (h : ∀ s, φ s → RunL P f N I0 R ((dst, d s) :: g) (Mout s ++ F) ops rest k) :
    RunL P f N I0 R g (r :: F) ops (⟨some dst, op, ty, pos, after, none⟩ :: rest) k := by
  have := run_opM (F := F) hd hN h
  exact this
end

theorem one_part {α : Type} {f' : α → List D} [h1 : ∀ x, OneAll (f' x)] {xs : List α} {J : List (List D)} {q m : Nat} (h : m ≠ 0 → q + m ≤ xs.length) : ∀ e ∈ ((xs.map f' ++ J).drop q).take m, OneAll e := by
  intro e he
  have he' : e ∈ xs.map f' := by
    by_cases h0 : m = 0
    · subst h0; simp at he
    · have h2 := h h0
      obtain ⟨i, hi⟩ := List.getElem?_of_mem he
      rw [List.getElem?_take] at hi
      split at hi
      · rw [List.getElem?_drop, List.getElem?_append_left (by simp; omega)] at hi
        exact List.mem_of_getElem? hi
      · cases hi
  obtain ⟨x, -, rfl⟩ := List.mem_map.1 he'
  exact h1 x

end Go.Q

namespace Go.Q

structure Pn where
  session : Int
  version : Int
deriving Inhabited
structure Pins where
  rows : List Pn
  kept : List Int
deriving Inhabited
structure Strt where
  read : Int
  version : Int
  p : Int
  from' : Int
  draws : Int
deriving Inhabited
structure Disk where
  seed : Int
  drawn : Int
  begun : List Strt
deriving Inhabited
structure Tape where
  numbers : List Int
  at' : Int
deriving Inhabited
structure Schm where
  kind : Int
  servers : Int
  degree : Int
  group : Int
deriving Inhabited

abbrev cPn (x : Pn) : List D := [dInt .i64 x.session, dInt .i64 x.version]
abbrev cPins (x : Pins) : List D := [dSl 2 cPn x.rows, dInts x.kept]
abbrev cStrt (x : Strt) : List D := [dInt .i64 x.read, dInt .i64 x.version, dInt .i64 x.p, dInt .i64 x.from', dInt .i64 x.draws]
abbrev cDisk (x : Disk) : List D := [dInt .i64 x.seed, dInt .i64 x.drawn, dSl 5 cStrt x.begun]
abbrev cTape (x : Tape) : List D := [dInts x.numbers, dInt .i64 x.at']
abbrev cSchm (x : Schm) : List D := [dInt .i64 x.kind, dInt .i64 x.servers, dInt .i64 x.degree, dInt .i64 x.group]

abbrev dPn (x : Pn) : D := dAgg (cPn x)
abbrev dPins (x : Pins) : D := dAgg (cPins x)
abbrev dStrt (x : Strt) : D := dAgg (cStrt x)
abbrev dDisk (x : Disk) : D := dAgg (cDisk x)
abbrev dTape (x : Tape) : D := dAgg (cTape x)
abbrev dSchm (x : Schm) : D := dAgg (cSchm x)

theorem Pn.ext' {a b : Pn} (h1 : a.session = b.session) (h2 : a.version = b.version) : a = b := by cases a; cases b; simp_all
theorem Strt.ext' {a b : Strt} (h1 : a.read = b.read) (h2 : a.version = b.version) (h3 : a.p = b.p) (h4 : a.from' = b.from') (h5 : a.draws = b.draws) : a = b := by cases a; cases b; simp_all

example (x : Pn) : OneAll (cPn x) := inferInstance
example (x : Strt) : OneAll (cStrt x) := inferInstance

end Go.Q

namespace Go.Q

variable {P : Program} {f : FuncId} {N : Nat} {I0 : Imm} {R : Goal} {g : G} {M : List Res} {k : List Item}

/-- Some slots of many. -/
inductive Restr (g : G) : List Nat → G → Prop where
  | nil : Restr g [] []
  | cons {s : Nat} {d : D} {ks : List Nat} {g0 : G} : look g s = some d → Restr g ks g0 → Restr g (s :: ks) ((s, d) :: g0)

@[reducible] def app : G → G → G
  | [], h => h
  | x :: e, h => x :: app e h

theorem Restr.keep {g g0 : G} {ks : List Nat} (h : Restr g ks g0) : Keep g g0 := by
  induction h with
  | nil => exact .nil
  | cons h1 _ ih => exact .cons h1 (fun _ _ x => x) ih

theorem Keep.app {g e g0 : G} (h1 : Keep g e) (h2 : Keep g g0) : Keep g (app e g0) := by
  induction h1 with
  | nil => exact h2
  | cons a b _ ih => exact .cons a b ih

/-- A loop: 'E' says the slots that it turns, 'g0' those that stay. -/
theorem run_loopE {c : Code} {σ : Type} {ks : List Nat} {g0 : G} (hr : Restr g ks g0) (E : σ → G) (Mo : σ → List Res) (φ : σ → Prop) (μ : σ → Nat) (s0 : σ) (h0 : φ s0) (hg : Keep g (E s0)) (hM : M = Mo s0)
    (round : ∀ s, φ s → (∀ s', φ s' → μ s' < μ s → Run P f N I0 R (app (E s') g0) (Mo s') (.inLoop c :: k)) → Run P f N I0 R (app (E s) g0) (Mo s) (.code c :: .inLoop c :: k)) :
    Run P f N I0 R g M (.code (.loop c) :: k) :=
  run_loop' (fun s => app (E s) g0) Mo φ μ s0 h0 (hg.app hr.keep) hM round

/-- .. and what is owned stays, too. -/
theorem run_loopC {c : Code} {σ : Type} {ks : List Nat} {g0 : G} (hr : Restr g ks g0) (E : σ → G) (φ : σ → Prop) (μ : σ → Nat) (s0 : σ) (h0 : φ s0) (hg : Keep g (E s0))
    (round : ∀ s, φ s → (∀ s', φ s' → μ s' < μ s → Run P f N I0 R (app (E s') g0) M (.inLoop c :: k)) → Run P f N I0 R (app (E s) g0) M (.code c :: .inLoop c :: k)) :
    Run P f N I0 R g M (.code (.loop c) :: k) :=
  run_loop' (fun s => app (E s) g0) (fun _ => M) φ μ s0 h0 (hg.app hr.keep) rfl round

theorem run_againE {c : Code} {σ : Type} {E : σ → G} {g0 : G} {Mo : σ → List Res} {φ : σ → Prop} {μ : σ → Nat} {m : Nat}
    (ih : ∀ s', φ s' → μ s' < m → Run P f N I0 R (app (E s') g0) (Mo s') (.inLoop c :: k)) (s' : σ) (hφ : φ s') (hμ : μ s' < m) (hg : Keep g (E s')) (h0 : Keep g g0) (hM : M = Mo s') : Run P f N I0 R g M (.inLoop c :: k) :=
  run_keep (hg.app h0) (hM ▸ ih s' hφ hμ)

theorem run_againC {c : Code} {σ : Type} {E : σ → G} {g0 : G} {φ : σ → Prop} {μ : σ → Nat} {m : Nat}
    (ih : ∀ s', φ s' → μ s' < m → Run P f N I0 R (app (E s') g0) M (.inLoop c :: k)) (s' : σ) (hφ : φ s') (hμ : μ s' < m) (hg : Keep g (E s')) (h0 : Keep g g0) : Run P f N I0 R g M (.inLoop c :: k) :=
  run_keep (hg.app h0) (ih s' hφ hμ)

/-- Before roads part: 'E' says the slots that they turn. -/
theorem run_joinE {c : Code} {σ : Type} {ks : List Nat} {g0 : G} (hr : Restr g ks g0) (E : σ → G) (Mo : σ → List Res) (φ : σ → Prop)
    (h2 : (∀ s, φ s → Run P f N I0 R (app (E s) g0) (Mo s) k) → Run P f N I0 R g M (.code c :: k)) (h1 : ∀ s, φ s → Run P f N I0 R (app (E s) g0) (Mo s) k) : Run P f N I0 R g M (.code c :: k) := h2 h1
theorem run_joinC {c : Code} {σ : Type} {ks : List Nat} {g0 : G} (hr : Restr g ks g0) (E : σ → G) (φ : σ → Prop)
    (h2 : (∀ s, φ s → Run P f N I0 R (app (E s) g0) M k) → Run P f N I0 R g M (.code c :: k)) (h1 : ∀ s, φ s → Run P f N I0 R (app (E s) g0) M k) : Run P f N I0 R g M (.code c :: k) := h2 h1

theorem run_atE {σ : Type} {E : σ → G} {g0 : G} {Mo : σ → List Res} {φ : σ → Prop} (j : ∀ s, φ s → Run P f N I0 R (app (E s) g0) (Mo s) k) (s : σ) (hφ : φ s) (hM : M = Mo s) (hg : Keep g (E s)) (h0 : Keep g g0) : Run P f N I0 R g M k :=
  run_keep (hg.app h0) (hM ▸ j s hφ)
theorem run_atC {σ : Type} {E : σ → G} {g0 : G} {φ : σ → Prop} (j : ∀ s, φ s → Run P f N I0 R (app (E s) g0) M k) (s : σ) (hφ : φ s) (hg : Keep g (E s)) (h0 : Keep g g0) : Run P f N I0 R g M k :=
  run_keep (hg.app h0) (j s hφ)

@[reducible] def appR : List Res → List Res → List Res
  | [], F => F
  | r :: A, F => r :: appR A F

/-- A resource to the front. -/
theorem run_front {r : Res} {C : Res → List Res} {F : List Res} (hm : Sel r M C F) (h : Run P f N I0 R g (r :: F) k) : Run P f N I0 R g M k :=
  run_weaken (fun _ _ _ hs hi => ⟨hs, hi.perm hm.perm.1⟩) h
theorem runL_front {ops : Array Oper} {l : List Oper} {r : Res} {C : Res → List Res} {F : List Res} (hm : Sel r M C F) (h : RunL P f N I0 R g (r :: F) ops l k) : RunL P f N I0 R g M ops l k :=
  ⟨fun I a w b cs hb hk hl hs hi => h.go I a w b cs hb hk hl hs (hi.perm hm.perm.1)⟩

/-- A loop that turns what stands first among what is owned. -/
theorem run_loopF {c : Code} {σ : Type} {ks : List Nat} {g0 : G} {F : List Res} (hr : Restr g ks g0) (E : σ → G) (A : σ → List Res) (φ : σ → Prop) (μ : σ → Nat) (s0 : σ) (h0 : φ s0) (hg : Keep g (E s0)) (hM : M = appR (A s0) F)
    (round : ∀ s, φ s → (∀ s', φ s' → μ s' < μ s → Run P f N I0 R (app (E s') g0) (appR (A s') F) (.inLoop c :: k)) → Run P f N I0 R (app (E s) g0) (appR (A s) F) (.code c :: .inLoop c :: k)) :
    Run P f N I0 R g M (.code (.loop c) :: k) :=
  run_loop' (fun s => app (E s) g0) (fun s => appR (A s) F) φ μ s0 h0 (hg.app hr.keep) hM round
theorem run_againF {c : Code} {σ : Type} {E : σ → G} {g0 : G} {A : σ → List Res} {F : List Res} {φ : σ → Prop} {μ : σ → Nat} {m : Nat}
    (ih : ∀ s', φ s' → μ s' < m → Run P f N I0 R (app (E s') g0) (appR (A s') F) (.inLoop c :: k)) (s' : σ) (hφ : φ s') (hμ : μ s' < m) (hg : Keep g (E s')) (h0 : Keep g g0) (hM : M = appR (A s') F) : Run P f N I0 R g M (.inLoop c :: k) :=
  run_keep (hg.app h0) (hM ▸ ih s' hφ hμ)
theorem run_joinF {c : Code} {σ : Type} {ks : List Nat} {g0 : G} (F : List Res) (hr : Restr g ks g0) (E : σ → G) (A : σ → List Res) (φ : σ → Prop)
    (hF : ∃ A0, M = appR A0 F) (h2 : (∀ s, φ s → Run P f N I0 R (app (E s) g0) (appR (A s) F) k) → Run P f N I0 R g M (.code c :: k)) (h1 : ∀ s, φ s → Run P f N I0 R (app (E s) g0) (appR (A s) F) k) : Run P f N I0 R g M (.code c :: k) := h2 h1
theorem run_atF {σ : Type} {E : σ → G} {g0 : G} {A : σ → List Res} {F : List Res} {φ : σ → Prop} (j : ∀ s, φ s → Run P f N I0 R (app (E s) g0) (appR (A s) F) k) (s : σ) (hφ : φ s) (hM : M = appR (A s) F) (hg : Keep g (E s)) (h0 : Keep g g0) : Run P f N I0 R g M k :=
  run_keep (hg.app h0) (hM ▸ j s hφ)

/-- What is known of each cell, told otherwise. -/
inductive Ups : List D → List D → Prop where
  | nil : Ups [] []
  | cons {d e : D} {ds es : List D} : (∀ I v, d.rel I v → e.rel I v) → Ups ds es → Ups (d :: ds) (e :: es)

theorem Ups.rel {ds es : List D} (h : Ups ds es) : ∀ {I : Imm} {vs : List Value}, relL ds I vs → relL es I vs := by
  induction h with
  | nil => intro I vs h; exact h
  | cons h1 _ ih =>
    intro I vs h
    cases vs with
    | nil => cases h
    | cons v vs => exact ⟨h1 _ _ h.1, ih h.2⟩

theorem d_aggU {ds es : List D} (h : Ups ds es) : ∀ I v, (dAgg ds).rel I v → (dAgg es).rel I v := fun _ _ ⟨cs, e, r⟩ => ⟨cs, e, h.rel r⟩
theorem d_tupU {ds es : List D} (h : Ups ds es) : ∀ I v, (dTup ds).rel I v → (dTup es).rel I v := fun _ _ ⟨cs, e, r⟩ => ⟨cs, e, h.rel r⟩
theorem d_id {d : D} : ∀ I v, d.rel I v → d.rel I v := fun _ _ h => h

end Go.Q

namespace Go.Q
open Classical

/-- The first index at which something holds, or -1. -/
noncomputable def idxP {α : Type} (q : α → Prop) : List α → Int
  | [] => -1
  | x :: xs => if q x then 0 else (if idxP q xs < 0 then -1 else idxP q xs + 1)

theorem idxP_none {α : Type} {q : α → Prop} : ∀ {xs : List α}, (∀ x ∈ xs, ¬ q x) → idxP q xs = -1
  | [], _ => rfl
  | x :: xs, h => by
    have h1 := h x (List.mem_cons_self ..)
    have h2 := idxP_none (xs := xs) fun y hy => h y (List.mem_cons_of_mem _ hy)
    simp [idxP, h1, h2]

theorem idxP_at {α : Type} [Inhabited α] {q : α → Prop} : ∀ {xs : List α} {i : Nat}, i < xs.length → (∀ j, j < i → ¬ q (xs[j]?.getD default)) → q (xs[i]?.getD default) → idxP q xs = i
  | x :: xs, 0, _, _, h => by
    have : q x := by simpa using h
    simp [idxP, this]
  | x :: xs, i + 1, hi, hb, h => by
    have h1 : ¬ q x := by simpa using hb 0 (by omega)
    have h2 := idxP_at (xs := xs) (i := i) (by simpa using hi) (fun j hj => by simpa using hb (j + 1) (by omega)) (by simpa using h)
    simp only [idxP, if_neg h1, h2]
    rw [if_neg (by omega)]
    omega

theorem idxP_nonneg {α : Type} {q : α → Prop} : ∀ {xs : List α}, 0 ≤ idxP q xs ↔ ∃ x ∈ xs, q x
  | [] => by simp [idxP]
  | x :: xs => by
    have ih := idxP_nonneg (q := q) (xs := xs)
    by_cases h : q x
    · simp [idxP, h]
    · by_cases h2 : idxP q xs < 0
      · have : ¬ ∃ x ∈ xs, q x := fun e => by have := ih.2 e; omega
        simp only [idxP, if_neg h, if_pos h2]
        simp only [List.mem_cons, exists_eq_or_imp, h, false_or]
        exact ⟨fun h => by omega, fun h => absurd h this⟩
      · have : ∃ x ∈ xs, q x := ih.1 (by omega)
        simp only [idxP, if_neg h, if_neg h2]
        simp only [List.mem_cons, exists_eq_or_imp, h, false_or]
        exact ⟨fun _ => this, fun _ => by omega⟩

theorem idxP_lt {α : Type} {q : α → Prop} : ∀ {xs : List α}, idxP q xs < xs.length
  | [] => by simp [idxP]
  | x :: xs => by
    have ih := idxP_lt (q := q) (xs := xs)
    simp only [idxP]
    split
    · simp
    · split
      · simp; omega
      · simp; omega

/-- The binary search between i and j. -/
noncomputable def bsGo (lt : Nat → Prop) (i j : Nat) : Nat :=
  if i < j then (if lt ((i + j) / 2) then bsGo lt ((i + j) / 2 + 1) j else bsGo lt i ((i + j) / 2)) else i
termination_by j - i

theorem bsGo_le (lt : Nat → Prop) (i j : Nat) (h : i ≤ j) : i ≤ bsGo lt i j ∧ bsGo lt i j ≤ j := by
  fun_induction bsGo lt i j <;> omega

theorem bsGo_at {lt : Nat → Prop} {i j k : Nat} (hij : i ≤ j) (hi : i ≤ k) (hj : k ≤ j) (h1 : ∀ a, a < k → lt a) (h2 : ∀ a, k ≤ a → a < j → ¬ lt a) : bsGo lt i j = k := by
  fun_induction bsGo lt i j with
  | case1 i j h hl ih =>
    refine ih (by omega) ?_ hj h2
    by_cases c : k ≤ (i + j) / 2
    · exact absurd hl (h2 _ c (by omega))
    · omega
  | case2 i j h hl ih =>
    refine ih (by omega) hi ?_ (fun a ha hb => h2 a ha (by omega))
    by_cases c : (i + j) / 2 < k
    · exact absurd (h1 _ c) hl
    · omega
  | case3 i j h => omega

/-- How many, from the first on. -/
noncomputable def lead {α : Type} (q : α → Prop) : List α → Nat
  | [] => 0
  | x :: xs => if q x then lead q xs + 1 else 0

theorem lead_le {α : Type} (q : α → Prop) : ∀ xs : List α, lead q xs ≤ xs.length
  | [] => Nat.le_refl _
  | x :: xs => by have := lead_le q xs; simp only [lead]; split <;> simp <;> omega

theorem lead_at {α : Type} [Inhabited α] {q : α → Prop} : ∀ {xs : List α} {k : Nat}, k ≤ xs.length → (∀ j, j < k → q (xs[j]?.getD default)) → (k = xs.length ∨ ¬ q (xs[k]?.getD default)) → lead q xs = k
  | [], k, h, _, _ => by simp at h; subst h; rfl
  | x :: xs, 0, _, _, h3 => by
    have : ¬ q x := by rcases h3 with h3 | h3; (· simp at h3); (· simpa using h3)
    simp [lead, this]
  | x :: xs, k + 1, h1, h2, h3 => by
    have hx : q x := by simpa using h2 0 (by omega)
    have := lead_at (xs := xs) (k := k) (by simpa using h1) (fun j hj => by simpa using h2 (j + 1) (by omega)) (by simpa using h3)
    simp [lead, hx, this]

theorem lead_lt {α : Type} [Inhabited α] {q : α → Prop} : ∀ {xs : List α} (j : Nat), j < lead q xs → q (xs[j]?.getD default)
  | [], j, h => by simp [lead] at h
  | x :: xs, j, h => by
    simp only [lead] at h
    split at h
    · rename_i hq
      cases j with
      | zero => simpa using hq
      | succ j => simpa using lead_lt (xs := xs) j (by omega)
    · omega

theorem lead_end {α : Type} [Inhabited α] {q : α → Prop} : ∀ {xs : List α}, lead q xs < xs.length → ¬ q (xs[lead q xs]?.getD default)
  | [], h => by simp [lead] at h
  | x :: xs, h => by
    simp only [lead] at h ⊢
    split
    · rename_i hq
      rw [if_pos hq] at h
      simpa using lead_end (xs := xs) (by simpa using h)
    · rename_i hq; simpa using hq

/-- Counting. -/
noncomputable def cntP {α : Type} (q : α → Prop) : List α → Nat
  | [] => 0
  | x :: xs => (if q x then 1 else 0) + cntP q xs

theorem cntP_le {α : Type} (q : α → Prop) : ∀ xs : List α, cntP q xs ≤ xs.length
  | [] => Nat.le_refl _
  | x :: xs => by have := cntP_le q xs; simp only [cntP]; split <;> simp <;> omega

theorem cntP_app {α : Type} (q : α → Prop) : ∀ xs ys : List α, cntP q (xs ++ ys) = cntP q xs + cntP q ys
  | [], ys => by simp [cntP]
  | x :: xs, ys => by simp only [List.cons_append, cntP, cntP_app q xs ys]; omega

theorem cntP_take {α : Type} [Inhabited α] (q : α → Prop) {xs : List α} {k : Nat} (h : k < xs.length) : cntP q (xs.take (k + 1)) = cntP q (xs.take k) + if q (xs[k]?.getD default) then 1 else 0 := by
  rw [List.take_add_one, List.getElem?_eq_getElem h, cntP_app]
  simp [cntP]

theorem take_snoc {α : Type} [Inhabited α] {xs : List α} {k : Nat} (h : k < xs.length) : xs.take (k + 1) = xs.take k ++ [xs[k]?.getD default] := by
  rw [List.take_add_one, List.getElem?_eq_getElem h]
  simp

theorem cntP_zero {α : Type} {q : α → Prop} : ∀ {xs : List α}, cntP q xs = 0 ↔ ∀ x ∈ xs, ¬ q x
  | [] => by simp [cntP]
  | x :: xs => by
    simp only [cntP, List.mem_cons, forall_eq_or_imp]
    rw [← cntP_zero (xs := xs)]
    by_cases h : q x <;> simp [h] <;> omega

theorem forall_getD {α : Type} [Inhabited α] {p : α → Prop} {xs : List α} (h : ∀ j, j < xs.length → p (xs[j]?.getD default)) : ∀ x ∈ xs, p x := by
  intro x hx
  obtain ⟨i, hi⟩ := List.getElem?_of_mem hx
  have h1 := (List.getElem?_eq_some_iff.1 hi).1
  have h2 := h i h1
  rw [hi] at h2
  exact h2

def cmpI (x y : Int) : Int := if x < y then -1 else if y < x then 1 else 0

theorem list_extD {α : Type} [Inhabited α] {xs ys : List α} (h : xs.length = ys.length) (he : ∀ j, j < xs.length → xs[j]?.getD default = ys[j]?.getD default) : xs = ys := by
  apply List.ext_getElem h
  intro i h1 h2
  have := he i h1
  simpa [h1, h2] using this

end Go.Q

namespace Go.Q
variable {P : Program} {g : G} {N : Nat} {M : List Res} {dst : Option Tmp} {ty : TypeId} {pos : String} {after : Array Edge} {gd : Option (Nat × Bool)} {t t' : TypeId} {x y : Operand} {k kd : IntKind} {m n : Int}

theorem u64_in {m : Int} (h : 0 ≤ m ∧ m < 18446744073709551616) : IntKind.u64.wrap m = m := by rw [IntKind.wrap_u64]; omega

theorem loc_convU {s : TypeId} {k0 : IntKind} [h1 : TyInt P s k0] [h2 : TyInt P t .u64] (hx : opd g x = some (dInt kd m)) (h : 0 ≤ m ∧ m < 18446744073709551616) : LocP P ⟨dst, .convert s t x, ty, pos, after, gd⟩ g N M (dInt .u64 m) :=
  (loc_convW hx).conv (by rw [u64_in h])
theorem loc_addU (hx : opd g x = some (dInt .u64 m)) (hy : opd g y = some (dInt .u64 n)) (h : 0 ≤ m + n ∧ m + n < 18446744073709551616) : LocP P ⟨dst, .binOp .add t x y t', ty, pos, after, gd⟩ g N M (dInt .u64 (m + n)) :=
  (loc_addW hx hy).conv (by rw [u64_in h])
theorem loc_subU (hx : opd g x = some (dInt .u64 m)) (hy : opd g y = some (dInt .u64 n)) (h : 0 ≤ m - n ∧ m - n < 18446744073709551616) : LocP P ⟨dst, .binOp .sub t x y t', ty, pos, after, gd⟩ g N M (dInt .u64 (m - n)) :=
  (loc_subW hx hy).conv (by rw [u64_in h])
theorem loc_mulU (hx : opd g x = some (dInt .u64 m)) (hy : opd g y = some (dInt .u64 n)) (h : 0 ≤ m * n ∧ m * n < 18446744073709551616) : LocP P ⟨dst, .binOp .mul t x y t', ty, pos, after, gd⟩ g N M (dInt .u64 (m * n)) :=
  (loc_mulW hx hy).conv (by rw [u64_in h])

theorem loc_shr {c : Nat} (hx : opd g x = some (dInt k m)) (hy : opd g y = some (dInt kd (c : Nat))) (hc : (Nat.blt c 64 && Nat.blt c k.bits) = true) : LocP P ⟨dst, .binOp .shr t x y t', ty, pos, after, gd⟩ g N M (dInt k (m.fdiv (2 ^ c))) :=
  locP_of_run fun I a w hs _ => by
    have h1 : a.eval x = .int k m := opd_sound hs hx
    have h2 : a.eval y = .int kd c := opd_sound hs hy
    have e : eqGuard .shr t x y (.int k m) (.int kd c) = pure () := by unfold eqGuard; rfl
    simp only [Bool.and_eq_true, Nat.blt_eq] at hc
    have hn : ¬ ((c : Int) < 0) := by omega
    refine ⟨.int k (m.fdiv (2 ^ c)), ?_, rfl⟩
    have h3 : Int.toNat (c : Int) = c := by omega
    have h4 : (binOp .shr t (.int k m) (.int kd c)).run P w = .ok (.int k (m.fdiv (2 ^ c))) w := by
      simp only [binOp, Op.shift]
      rw [if_neg hn]
      simp [Nat.min_eq_left (Nat.le_of_lt hc.2)]
    simp [execOp, h1, h2, e, h4]

theorem loc_shrN {c : Nat} {q : Int} (hx : opd g x = some (dInt k m)) (hy : opd g y = some (dInt kd (c : Nat))) (hc : (Nat.blt c 64 && Nat.blt c k.bits) = true) (hq : (2 : Int) ^ c = q) (h : 0 ≤ m) (hq0 : 0 ≤ q) : LocP P ⟨dst, .binOp .shr t x y t', ty, pos, after, gd⟩ g N M (dInt k (m / q)) :=
  (loc_shr hx hy hc).conv (by rw [hq, Int.fdiv_eq_ediv_of_nonneg _ hq0])

theorem loc_mask32 (hx : opd g x = some (dInt .u64 m)) (hy : opd g y = some (dInt .u64 4294967295)) (h : 0 ≤ m ∧ m < 18446744073709551616) : LocP P ⟨dst, .binOp .and t x y t', ty, pos, after, gd⟩ g N M (dInt .u64 (m % 4294967296)) :=
  locP_of_run fun I a w hs _ => by
    refine ⟨_, run_binOp_int (opd_sound hs hx) (opd_sound hs hy) (by simp [binOp, Op.intBits]; rfl), ?_⟩
    obtain ⟨c, rfl⟩ := Int.eq_ofNat_of_zero_le h.1
    have e1 : (BitVec.ofInt 64 (c : Int)).toNat = c := by rw [BitVec.toNat_ofInt]; omega
    have e2 : (BitVec.ofInt 64 (4294967295 : Int)).toNat = 2 ^ 32 - 1 := by decide
    show Value.int .u64 (IntKind.u64.wrap ((BitVec.ofInt 64 (c : Int) &&& BitVec.ofInt 64 4294967295).toNat : Nat)) = _
    rw [BitVec.toNat_and, e1, e2, Nat.and_two_pow_sub_one_eq_mod, u64_in (by omega)]
    congr 1

end Go.Q

namespace Go.Q
open Classical

variable {P : Program} {f : FuncId} {N : Nat} {I0 : Imm} {g : G} {M : List Res} {k : List Item} {R : Goal}
variable {dst : Option Tmp} {ty : TypeId} {pos : String} {after : Array Edge} {gd : Option (Nat × Bool)}

/-- A function value: called with 'i' in the state s it answers q i and leaves a state that follows. -/
def dFunS (P : Program) {ι σ : Type} (Ds : ι → List D) (Rs : σ → List Res) (A : ι → σ → Prop) (Step : σ → ι → σ → Prop) (q : ι → Prop) : D :=
  ⟨fun I v => ∃ fn cap, v = .func (.func fn) #[] cap ∧ TyFn P fn ∧ ∀ i s (J : Imm) (M : List Res) (w : World) (vs : List Value), A i s → I.le J → relL (Ds i) J vs → Inv J (Rs s ++ M) w →
      Calls P fn (vs.toArray ++ cap) w fun e w' => ∃ v, e = .returned v ∧ ∃ J', J.le J' ∧ (dB (q i)).rel J' v ∧ ∃ s', Step s i s' ∧ Inv J' (Rs s' ++ M) w',
   fun h ⟨fn, cap, e, h1, h2⟩ => ⟨fn, cap, e, h1, fun i s J' M w vs ha hle => h2 i s J' M w vs ha (h.trans hle)⟩⟩

theorem clo_funS {fn : FuncId} {ι σ : Type} {Cs : List D} {Ds : ι → List D} {Rs : σ → List Res} {A : ι → σ → Prop} {Step : σ → ι → σ → Prop} {q : ι → Prop} [hf : TyFn P fn]
    (h : ∀ i s, A i s → Spec P fn (Ds i ++ Cs) (Rs s) (Step s i) (fun _ => dB (q i)) Rs) : ∀ I v, (dClo fn Cs).rel I v → (dFunS P Ds Rs A Step q).rel I v := by
  rintro I v ⟨cap, rfl, hr⟩
  refine ⟨fn, cap, rfl, hf, fun i s J M w vs ha hle hv hi => ?_⟩
  have := h i s ha J M w (vs ++ cap.toList) (relL_append hv (relL_mono hle hr)) hi
  rw [toArray_app] at this
  refine this.mono ?_
  rintro e w' ⟨v, rfl, s', h1, J', h2, h3, h4⟩
  exact ⟨v, rfl, J', h2, h3, s', h1, h4⟩

/-- A pure one. -/
theorem fun_funS {ι : Type} {Ds : ι → List D} {q : ι → Prop} : ∀ I v, (dFun P Ds (fun i => dB (q i))).rel I v → (dFunS P Ds (fun _ : Unit => []) (fun _ _ => True) (fun _ _ _ => True) q).rel I v := by
  rintro I v ⟨fn, cap, rfl, hf, h⟩
  refine ⟨fn, cap, rfl, hf, fun i s J M w vs _ hle hv hi => ?_⟩
  refine (h i J M w vs hle hv hi).mono ?_
  rintro e w' ⟨v, rfl, J', h1, h2, h3⟩
  exact ⟨v, rfl, J', h1, h2, (), trivial, h3⟩

theorem loc_callFunS {c : Operand} {xs : List Operand} {ats : Array TypeId} {ι σ : Type} {Ds : ι → List D} {Rs : σ → List Res} {A : ι → σ → Prop} {Step : σ → ι → σ → Prop} {q : ι → Prop} (i : ι) (s : σ) (ha : A i s) (hc : opd g c = some (dFunS P Ds Rs A Step q)) (hx : opds g xs = some (Ds i)) :
    LocM P ⟨dst, .call ⟨.value c, xs.toArray, ats⟩, ty, pos, after, gd⟩ g N (Rs s) (Step s i) (fun _ => dB (q i)) Rs := by
  constructor
  intro F I a w K Q hsl hi hK
  obtain ⟨fn, cap, hv, hf, h⟩ := opd_sound hsl hc
  unfold Oper.wp
  rw [execOp_call_slot hv, run_callFunc hf]
  refine Calls.mono (h i s I F w _ ha I.le_refl (opds_sound hsl hx) hi) ?_
  rintro e w' ⟨v, rfl, J, h1, h2, s', h3, h4⟩
  exact hK s' v w' J h3 h1 h2 h4

/-- An operation that turns what lies behind the first. -/
theorem run_opU {ops : Array Oper} {rest : List Oper} {dst : Tmp} {op : Op} {r0 : Res} {Min F : List Res} {σ : Type} {φ : σ → Prop} {d : σ → D} {Mout : σ → List Res}
    (hN : Nat.blt dst N = true) (hd : LocM P ⟨some dst, op, ty, pos, after, none⟩ g N Min φ d Mout) (h : ∀ s, φ s → RunL P f N I0 R ((dst, d s) :: g) (r0 :: (Mout s ++ F)) ops rest k) :
    RunL P f N I0 R g (r0 :: (Min ++ F)) ops (⟨some dst, op, ty, pos, after, none⟩ :: rest) k := by
  constructor
  intro I a w b cs hb hk hl hs hi
  have hp : (r0 :: (Min ++ F)).Perm (Min ++ (r0 :: F)) := List.perm_middle.symm
  refine wpl_plain hs.defers rfl fun K hK => ?_
  refine hd.go (r0 :: F) I a w K _ hs (hi.perm hp) fun s v w' J hφ hle hv hi' => hK _ _ ?_
  exact (h s hφ).go J _ w' b cs hb hk (hl.trans hle) ((hs.mono hle).put hv (by simpa [Nat.blt_eq] using hN)) (hi'.perm List.perm_middle)

/-- One state after the other. -/
def stepsL {ι σ : Type} (Step : σ → ι → σ → Prop) : σ → List ι → σ → Prop
  | s, [], s' => s' = s
  | s, x :: xs, s' => ∃ s1, Step s x s1 ∧ stepsL Step s1 xs s'

theorem stepsL_snoc {ι σ : Type} {Step : σ → ι → σ → Prop} : ∀ {xs : List ι} {s s1 s2 : σ} {x : ι}, stepsL Step s xs s1 → Step s1 x s2 → stepsL Step s (xs ++ [x]) s2
  | [], s, s1, s2, x, h1, h2 => ⟨s2, by rw [show s1 = s from h1] at h2; exact h2, rfl⟩
  | y :: ys, s, s1, s2, x, ⟨s3, h3, h4⟩, h2 => ⟨s3, h3, stepsL_snoc h4 h2⟩

theorem stepsL_app {ι σ : Type} {Step : σ → ι → σ → Prop} : ∀ {xs ys : List ι} {s s1 s2 : σ}, stepsL Step s xs s1 → stepsL Step s1 ys s2 → stepsL Step s (xs ++ ys) s2
  | [], ys, s, s1, s2, h1, h2 => by rw [show s1 = s from h1] at h2; exact h2
  | y :: xs, ys, s, s1, s2, ⟨s3, h3, h4⟩, h2 => ⟨s3, h3, stepsL_app h4 h2⟩

noncomputable def flt {α : Type} (q : α → Prop) : List α → List α
  | [] => []
  | x :: xs => if q x then x :: flt q xs else flt q xs

theorem flt_app {α : Type} (q : α → Prop) : ∀ xs ys : List α, flt q (xs ++ ys) = flt q xs ++ flt q ys
  | [], ys => rfl
  | x :: xs, ys => by simp only [List.cons_append, flt, flt_app q xs ys]; split <;> simp
theorem flt_len {α : Type} (q : α → Prop) : ∀ xs : List α, (flt q xs).length ≤ xs.length
  | [] => Nat.le_refl _
  | x :: xs => by have := flt_len q xs; simp only [flt]; split <;> simp <;> omega
theorem flt_none {α : Type} {q : α → Prop} : ∀ {xs : List α}, (∀ x ∈ xs, ¬ q x) → flt q xs = []
  | [], _ => rfl
  | x :: xs, h => by rw [flt, if_neg (h x (List.mem_cons_self ..)), flt_none (fun y hy => h y (List.mem_cons_of_mem _ hy))]
theorem flt_all {α : Type} {q : α → Prop} : ∀ {xs : List α}, (∀ x ∈ xs, q x) → flt q xs = xs
  | [], _ => rfl
  | x :: xs, h => by rw [flt, if_pos (h x (List.mem_cons_self ..)), flt_all (fun y hy => h y (List.mem_cons_of_mem _ hy))]
theorem mem_flt {α : Type} {q : α → Prop} : ∀ {xs : List α} {x : α}, x ∈ flt q xs ↔ x ∈ xs ∧ q x
  | [], x => by simp [flt]
  | y :: ys, x => by
    simp only [flt]
    split
    · rename_i h
      rw [List.mem_cons, mem_flt, List.mem_cons]
      constructor
      · rintro (rfl | ⟨h1, h2⟩)
        · exact ⟨.inl rfl, h⟩
        · exact ⟨.inr h1, h2⟩
      · rintro ⟨rfl | h1, h2⟩
        · exact .inl rfl
        · exact .inr ⟨h1, h2⟩
    · rename_i h
      rw [mem_flt, List.mem_cons]
      constructor
      · rintro ⟨h1, h2⟩
        exact ⟨.inr h1, h2⟩
      · rintro ⟨rfl | h1, h2⟩
        · exact absurd h2 h
        · exact ⟨h1, h2⟩
theorem flt_take {α : Type} [Inhabited α] (q : α → Prop) {xs : List α} {k : Nat} (h : k < xs.length) : flt q (xs.take (k + 1)) = flt q (xs.take k) ++ if q (xs[k]?.getD default) then [xs[k]?.getD default] else [] := by
  rw [List.take_add_one, List.getElem?_eq_getElem h, flt_app]
  simp [flt]

theorem run_opC {ops : Array Oper} {rest : List Oper} {dst : Tmp} {op : Op} {r0 : Res} {Min F : List Res} {σ : Type} {r1 : σ → Res} {φ : σ → Prop} {d : σ → D} {Mout : σ → List Res}
    (hN : Nat.blt dst N = true) (hd : LocM P ⟨some dst, op, ty, pos, after, none⟩ g N (r0 :: Min) φ d (fun s => r1 s :: Mout s)) (h : ∀ s, φ s → RunL P f N I0 R ((dst, d s) :: g) (r1 s :: (Mout s ++ F)) ops rest k) :
    RunL P f N I0 R g (r0 :: (Min ++ F)) ops (⟨some dst, op, ty, pos, after, none⟩ :: rest) k :=
  run_opM (Min := r0 :: Min) (Mout := fun s => r1 s :: Mout s) hd hN h

theorem buf_get {α : Type} [Inhabited α] {f' : α → List D} {xs : List α} {J : List (List D)} {q i : Nat} (hi : i < xs.length) (hq : q = i) : (xs.map f' ++ J)[q]? = some (f' (xs[i]?.getD default)) := by
  subst hq
  rw [List.getElem?_append_left (by simpa using hi), List.getElem?_map, List.getElem?_eq_getElem hi]
  rfl

/-- What DeleteFunc has made of its elements, in the middle. -/
theorem delf_get {α : Type} [Inhabited α] {f' : α → List D} {A B xs : List α} {J : List (List D)} {q j : Nat} (hj : j < xs.length) (hq : q = j) (hl : A.length + B.length = j) : ((A ++ B ++ xs.drop j).map f' ++ J)[q]? = some (f' (xs[j]?.getD default)) := by
  rw [buf_get (i := j) (by simp; omega) hq, List.getElem?_append_right (by simp; omega), List.getElem?_drop]
  simp [hl]

theorem drop_cons' {α : Type} [Inhabited α] {xs : List α} {j : Nat} (hj : j < xs.length) : xs.drop j = xs[j]?.getD default :: xs.drop (j + 1) := by
  rw [List.drop_eq_getElem_cons hj, List.getElem?_eq_getElem hj]
  rfl

theorem delf_store {α : Type} [Inhabited α] {f' : α → List D} {A B xs : List α} {J : List (List D)} {q j : Nat} (hj : j < xs.length) (hq : q = A.length) (hB : 0 < B.length) :
    ((A ++ B ++ xs.drop j).map f' ++ J).set q (f' (xs[j]?.getD default)) = ((A ++ [xs[j]?.getD default]) ++ (B.drop 1 ++ [xs[j]?.getD default]) ++ xs.drop (j + 1)).map f' ++ J := by
  subst hq
  match B, hB with
  | b :: B, _ =>
    rw [drop_cons' hj]
    simp [List.set_append]

theorem delf_skip {α : Type} [Inhabited α] {f' : α → List D} {A B xs : List α} {J : List (List D)} {j : Nat} (hj : j < xs.length) :
    (A ++ B ++ xs.drop j).map f' ++ J = (A ++ (B ++ [xs[j]?.getD default]) ++ xs.drop (j + 1)).map f' ++ J := by
  rw [drop_cons' hj]
  simp

theorem delf_start {α : Type} [Inhabited α] {f' : α → List D} {xs : List α} {q : α → Prop} {J : List (List D)} {i : Nat} (hi : i < xs.length) (hb : ∀ j, j < i → q (xs[j]?.getD default)) (h : ¬ q (xs[i]?.getD default)) :
    xs.map f' ++ J = (flt q (xs.take (i + 1)) ++ [xs[i]?.getD default] ++ xs.drop (i + 1)).map f' ++ J := by
  rw [flt_take q hi, if_neg h, flt_all (forall_getD (fun j hj => by
    simp at hj
    have := hb j (by omega)
    rwa [List.getElem?_take, if_pos (by omega)]))]
  congr 2
  rw [List.append_nil, ← take_snoc hi, List.take_append_drop]

theorem delf_end {α : Type} {f' : α → List D} {A B xs : List α} {J : List (List D)} {n q m j : Nat} (hj : xs.length ≤ j) (hq : q = A.length) (hm : m = B.length) : put ((A ++ B ++ xs.drop j).map f' ++ J) q (junk n m) = A.map f' ++ (junk n m ++ J) := by
  rw [hq, hm, List.drop_eq_nil_of_le hj, List.append_nil, List.map_append, List.append_assoc]
  unfold put
  rw [List.take_left' (by simp), junk_length, List.append_assoc]
  congr 2
  rw [← List.append_assoc, List.drop_append, List.drop_eq_nil_of_le (by simp), List.nil_append]
  simp

theorem idxP_ge {α : Type} (q : α → Prop) : ∀ xs : List α, -1 ≤ idxP q xs
  | [] => by simp [idxP]
  | x :: xs => by have := idxP_ge q xs; simp only [idxP]; split <;> (try split) <;> omega

theorem idxP_neg {α : Type} {q : α → Prop} {xs : List α} (h : idxP q xs < 0) : ∀ x ∈ xs, ¬ q x := fun x hx hq => by
  have := idxP_nonneg.2 ⟨x, hx, hq⟩
  omega

theorem idxP_get {α : Type} [Inhabited α] {q : α → Prop} : ∀ {xs : List α} (i : Nat), idxP q xs = i → i < xs.length ∧ (∀ j, j < i → ¬ q (xs[j]?.getD default)) ∧ q (xs[i]?.getD default)
  | [], i, h => by simp [idxP] at h
  | x :: xs, i, h => by
    by_cases hx : q x
    · simp only [idxP, if_pos hx] at h
      have : i = 0 := by omega
      subst this
      exact ⟨by simp, fun j hj => by omega, by simpa using hx⟩
    · by_cases hn : idxP q xs < 0
      · simp only [idxP, if_neg hx, if_pos hn] at h; omega
      · simp only [idxP, if_neg hx, if_neg hn] at h
        match i, h with
        | 0, h => omega
        | i + 1, h =>
          obtain ⟨h1, h2, h3⟩ := idxP_get (q := q) (xs := xs) i (by omega)
          refine ⟨by simpa using h1, fun j hj => ?_, by simpa using h3⟩
          cases j with
          | zero => simpa using hx
          | succ j => simpa using h2 j (by omega)

/-- A row of which the handle is written out is opened. -/
theorem run_openSl {α : Type} {b len cap : Nat} {T n : Nat} {f' : α → List D} {xs : List α} {C : Res → List Res} {F : List Res} (hm : Sel (rRow (.slice (some ⟨b, 0, none⟩) len cap) T n f' xs) M C F)
    (h : len = xs.length → xs.length ≤ cap → cap ≤ maxLen → xs.length ≤ lenMax → Run P f N I0 R g (C (rBuf b T n (xs.map f' ++ junk n (cap - xs.length)))) k) : Run P f N I0 R g M k := by
  constructor
  intro I a w b' cs hb hk hl hs hi
  obtain ⟨h3, h4, h5, h6, h7, h8⟩ := row_open (hi.perm hm.perm.1)
  exact (h h3 h4 h5 h6).go I a w b' cs hb hk hl hs (h8.perm (hm.perm.2 _))

/-- A list some times over. -/
def reps {α : Type} : Nat → List α → List α
  | 0, _ => []
  | c + 1, xs => xs ++ reps c xs

theorem reps_len {α : Type} (xs : List α) : ∀ c, (reps c xs).length = c * xs.length
  | 0 => by simp [reps]
  | c + 1 => by rw [reps, List.length_append, reps_len xs c, Nat.add_mul]; omega

theorem reps_one {α : Type} (x : α) : ∀ c, reps c [x] = List.replicate c x
  | 0 => rfl
  | c + 1 => by rw [reps, reps_one x c]; rfl

theorem reps_snoc {α : Type} (xs : List α) : ∀ c, reps (c + 1) xs = reps c xs ++ xs
  | 0 => by simp [reps]
  | c + 1 => by
    show xs ++ reps (c + 1) xs = (xs ++ reps c xs) ++ xs
    rw [reps_snoc xs c, List.append_assoc]

theorem reps_add {α : Type} (xs : List α) : ∀ a b, reps (a + b) xs = reps a xs ++ reps b xs
  | 0, b => by simp [reps]
  | a + 1, b => by rw [show a + 1 + b = (a + b) + 1 by omega, reps, reps_add xs a b, reps, List.append_assoc]

/-- Where a doubling has come to: 'n' elements, m times the list, or all of it. -/
theorem reps_step {α : Type} {xs ys : List α} {c n a m : Nat} (hl : ys.length = c * xs.length) (ht : ys.take n = (reps c xs).take n) (hn : n = a * xs.length) (hac : a ≤ c) (hm : m = min n (c * xs.length - n)) :
    (ys.take n ++ ys.take m ++ ys.drop (n + m)).take (n + m) = (reps c xs).take (n + m) := by
  have hnl : n ≤ c * xs.length := by rw [hn]; exact Nat.mul_le_mul_right _ hac
  have h1 : (ys.take n ++ ys.take m).length = n + m := by simp; omega
  rw [← h1, List.take_left, h1]
  have h2 : (reps c xs).take n = reps a xs := by
    rw [show c = a + (c - a) by omega, reps_add, hn, ← reps_len xs a, List.take_left]
  have h3 : (reps c xs).drop n = reps (c - a) xs := by
    rw [show c = a + (c - a) by omega, reps_add, hn, ← reps_len xs a, List.drop_left]
    congr 1
    omega
  rw [List.take_add, h3, ht]
  congr 1
  have h4 : ys.take m = (ys.take n).take m := by rw [List.take_take]; congr 1; omega
  rw [h4, ht, List.take_take, show min m n = m by omega]
  -- the first m of c times and of (c - a) times are alike
  have h5 : m ≤ (c - a) * xs.length := by
    rw [Nat.sub_mul, ← hn]
    omega
  rw [show c = (c - a) + a by omega, reps_add, List.take_append_of_le_length (by rw [reps_len]; exact h5), show c - a + a - a = c - a by omega]

structure RepI {α : Type} (c : Nat) (xs : List α) (T : Nat) (s : Nat × List α) : Prop where
  len : s.2.length = T
  le : s.1 ≤ T
  eq : s.2.take s.1 = (reps c xs).take s.1
  mul : s.1 < T → 0 < s.1 ∧ ∃ a, s.1 = a * xs.length ∧ a ≤ c

theorem repI_start {α : Type} {c T : Nat} {xs : List α} {x0 : α} (hT : T = c * xs.length) : RepI c xs T (min xs.length T, xs.take (min xs.length T) ++ List.replicate (T - min xs.length T) x0) := by
  subst hT
  match c with
  | 0 => exact ⟨by simp, by simp, by simp, fun h => by simp at h⟩
  | c + 1 =>
    have h1 : xs.length ≤ (c + 1) * xs.length := by rw [Nat.add_mul]; omega
    rw [Nat.min_eq_left h1]
    refine ⟨by simp; omega, h1, ?_, fun h => ⟨?_, 1, by simp, by omega⟩⟩
    · simp only [List.take_length]
      rw [List.take_left, reps, List.take_left]
    · simp only at h ⊢
      rcases Nat.eq_zero_or_pos xs.length with h0 | h0
      · rw [h0] at h; omega
      · exact h0

theorem repI_next {α : Type} {c T : Nat} {xs : List α} {s : Nat × List α} (hT : T = c * xs.length) (h : RepI c xs T s) (hlt : s.1 < T) :
    RepI c xs T (s.1 + min s.1 (T - s.1), s.2.take s.1 ++ s.2.take (min s.1 (T - s.1)) ++ s.2.drop (s.1 + min s.1 (T - s.1))) := by
  obtain ⟨h1, h2, h3, h4⟩ := h
  obtain ⟨h5, a, h6, h7⟩ := h4 hlt
  subst hT
  refine ⟨by simp; omega, by simp only; omega, reps_step h1 h3 h6 h7 rfl, fun hl => ⟨by simp only; omega, 2 * a, ?_, ?_⟩⟩
  · simp only at hl ⊢
    rw [Nat.mul_assoc, ← h6]; omega
  · simp only at hl
    rcases Nat.lt_or_ge c (2 * a) with hc | hc
    · have := Nat.mul_le_mul_right xs.length (Nat.le_of_lt hc)
      rw [Nat.mul_assoc, ← h6] at this
      omega
    · exact hc

theorem repI_end {α : Type} {c T : Nat} {xs : List α} {s : Nat × List α} (hT : T = c * xs.length) (h : RepI c xs T s) (hge : T ≤ s.1) : s.2 = reps c xs := by
  obtain ⟨h1, h2, h3, h4⟩ := h
  rwa [List.take_of_length_le (by omega), List.take_of_length_le (by rw [reps_len]; omega)] at h3

/-! ### Handles of rows, told by name -/

theorem LocP.up {o : Oper} {d d' : D} (h : LocP P o g N M d) (hd : ∀ I v, d.rel I v → d'.rel I v) : LocP P o g N M d' :=
  ⟨fun I a w K Q hs hi hK => h.go I a w K Q hs hi fun v w' J h1 h2 h3 => hK v w' J h1 (hd _ _ h2) h3⟩
theorem LocP.upV {o : Oper} {v : Value} (h : LocP P o g N M (dSlV v)) : LocP P o g N M (dVal v) := h.up fun _ _ h => h.1

theorem specV {Ds : List D} {Min : List Res} {T n : Nat} {α σ : Type} {φ : σ → Prop} {f' : α → List D} {v : σ → Value} {xs : σ → List α} {Rs : σ → List Res}
    (h : Spec P f Ds Min φ (fun s => dVal (v s)) (fun s => rRow (v s) T n f' (xs s) :: Rs s)) : Spec P f Ds Min φ (fun s => dSlV (v s)) (fun s => rRow (v s) T n f' (xs s) :: Rs s) := by
  intro I F w vs hv hi
  refine (h I F w vs hv hi).mono ?_
  rintro e w' ⟨u, rfl, s, h0, J, h1, h2, h3⟩
  refine ⟨u, rfl, s, h0, J, h1, ⟨h2, ?_⟩, h3⟩
  rw [show u = v s from h2]
  exact row_slice h3

theorem run_freezeRowCellV {b kk : Nat} {T' : TypeId} {ds : List D} {C C' : Res → List Res} {F F' : List Res} {α : Type} {T n : Nat} {f' : α → List D} {xs : List α} {v : Value} (hm : Sel (rRow v T n f' xs) M C F) (hc : Sel (rCells b T' ds) F C' F') (hk : ds[kk]? = some (dSlV v))
    (h : Run P f N I0 R g (C' (rCells b T' (ds.set kk (dSl n f' xs)))) k) : Run P f N I0 R g M k :=
  run_freezeUp (dSlV v) (dSl n f' xs) hm hc hk (fun J u h1 h2 => by rw [show u = v from h1.1]; exact h2) h

/-! ### Rows that become immutable at once -/

/-- A turn that gives a row becomes one that gives a row that no longer changes. -/
theorem LocM.frz {o : Oper} {Min : List Res} {T n : Nat} {α : Type} {f' : α → List D} {xs : List α} (h : LocM P o g N Min (fun _ : Value => True) (fun v => dVal v) (fun v => [rRow v T n f' xs])) {r : Res} (hr : Min = [r]) :
    LocM P o g N [r] (fun _ : Unit => True) (fun _ => dSl n f' xs) (fun _ => [rNone]) := by
  subst hr
  constructor
  intro F I a w K Q hs hi hK
  refine h.go F I a w K Q hs hi fun v u w' J _ h1 h2 h3 => ?_
  obtain ⟨J', h4, h5, h6⟩ := row_freeze h3
  refine hK () u w' J' trivial (h1.trans h4) ?_ (none_ok h6)
  rw [show u = v from h2]
  exact h5
theorem LocM.frz0 {o : Oper} {T n : Nat} {α : Type} {f' : α → List D} {xs : List α} (h : LocM P o g N [] (fun _ : Value => True) (fun v => dVal v) (fun v => [rRow v T n f' xs])) : LocP P o g N M (dSl n f' xs) := by
  constructor
  intro I a w K Q hs hi hK
  refine h.go M I a w K Q hs hi fun v u w' J _ h1 h2 h3 => ?_
  obtain ⟨J', h4, h5, h6⟩ := row_freeze h3
  refine hK u w' J' (h1.trans h4) ?_ h6
  rw [show u = v from h2]
  exact h5

end Go.Q

namespace Go.Q
open Go.Proofs

open Classical
noncomputable abbrev bsF {α : Type} [Inhabited α] (cm : α → Int) (xs : List α) : Nat := bsGo (fun h => cm (xs[h]?.getD default) < 0) 0 xs.length
theorem mul64_spec (x y : Int) (hx : 0 ≤ x ∧ x < 4294967296) (hy : 0 ≤ y ∧ y < 4294967296) : SpecP Try.prog 93 [dInt .u64 x, dInt .u64 y] (dTup [dInt .u64 0, dInt .u64 (x * y)]) := by
  have hm := mul_bd hx.1 (show x ≤ 4294967295 by omega) hy.1 (show y ≤ 4294967295 by omega)
  refine specP_of_body Try.func93 rfl rfl (fun I M => ?_)
  refine run_seq ?_
  refine run_region ?_
  refine run_op (loc_assign rfl) rfl ?_
  refine run_op (loc_assign rfl) rfl ?_
  refine run_nil ?_
  refine run_seq ?_
  refine run_region ?_
  refine run_op (loc_move rfl) rfl ?_
  refine run_op (loc_mask32 rfl rfl (by first | omega | assumption)) rfl ?_
  refine runL_recast (s := 15) rfl (d_int (n := x) (by omega)) ?_
  refine run_op (loc_assign rfl) rfl ?_
  refine run_nil ?_
  refine run_seq ?_
  refine run_region ?_
  refine run_op (loc_move rfl) rfl ?_
  refine run_op (loc_shrN (c := 32) (q := 4294967296) rfl rfl rfl (by decide) (by first | omega | assumption) (by decide)) rfl ?_
  refine runL_recast (s := 17) rfl (d_int (n := 0) (by omega)) ?_
  refine run_op (loc_assign rfl) rfl ?_
  refine run_nil ?_
  refine run_seq ?_
  refine run_region ?_
  refine run_op (loc_move rfl) rfl ?_
  refine run_op (loc_mask32 rfl rfl (by first | omega | assumption)) rfl ?_
  refine runL_recast (s := 19) rfl (d_int (n := y) (by omega)) ?_
  refine run_op (loc_assign rfl) rfl ?_
  refine run_nil ?_
  refine run_seq ?_
  refine run_region ?_
  refine run_op (loc_move rfl) rfl ?_
  refine run_op (loc_shrN (c := 32) (q := 4294967296) rfl rfl rfl (by decide) (by first | omega | assumption) (by decide)) rfl ?_
  refine runL_recast (s := 21) rfl (d_int (n := 0) (by omega)) ?_
  refine run_op (loc_assign rfl) rfl ?_
  refine run_nil ?_
  refine run_seq ?_
  refine run_region ?_
  refine run_op (loc_move rfl) rfl ?_
  refine run_op (loc_move rfl) rfl ?_
  first | refine run_op (loc_mulU rfl rfl (by first | omega | assumption)) rfl ?_ | refine run_op (loc_mulW rfl rfl) rfl ?_
  refine run_op (loc_assign rfl) rfl ?_
  refine run_nil ?_
  refine run_seq ?_
  refine run_region ?_
  refine run_op (loc_move rfl) rfl ?_
  refine run_op (loc_move rfl) rfl ?_
  first | refine run_op (loc_mulU rfl rfl (by first | omega | assumption)) rfl ?_ | refine run_op (loc_mulW rfl rfl) rfl ?_
  refine run_op (loc_move rfl) rfl ?_
  refine run_op (loc_shrN (c := 32) (q := 4294967296) rfl rfl rfl (by decide) (by first | omega | assumption) (by decide)) rfl ?_
  first | refine run_op (loc_addU rfl rfl (by first | omega | assumption)) rfl ?_ | refine run_op (loc_addW rfl rfl) rfl ?_
  refine run_op (loc_assign rfl) rfl ?_
  refine run_nil ?_
  refine run_seq ?_
  refine run_region ?_
  refine run_op (loc_move rfl) rfl ?_
  refine run_op (loc_mask32 rfl rfl (by first | omega | assumption)) rfl ?_
  refine run_op (loc_assign rfl) rfl ?_
  refine run_nil ?_
  refine run_seq ?_
  refine run_region ?_
  refine run_op (loc_move rfl) rfl ?_
  refine run_op (loc_shrN (c := 32) (q := 4294967296) rfl rfl rfl (by decide) (by first | omega | assumption) (by decide)) rfl ?_
  refine run_op (loc_assign rfl) rfl ?_
  refine run_nil ?_
  refine run_seq ?_
  refine run_region ?_
  refine run_op (loc_move rfl) rfl ?_
  refine run_op (loc_move rfl) rfl ?_
  refine run_op (loc_move rfl) rfl ?_
  first | refine run_op (loc_mulU rfl rfl (by first | omega | assumption)) rfl ?_ | refine run_op (loc_mulW rfl rfl) rfl ?_
  first | refine run_op (loc_addU rfl rfl (by first | omega | assumption)) rfl ?_ | refine run_op (loc_addW rfl rfl) rfl ?_
  refine run_op (loc_assign rfl) rfl ?_
  refine run_nil ?_
  refine run_seq ?_
  refine run_region ?_
  refine run_op (loc_move rfl) rfl ?_
  refine run_op (loc_move rfl) rfl ?_
  first | refine run_op (loc_mulU rfl rfl (by first | omega | assumption)) rfl ?_ | refine run_op (loc_mulW rfl rfl) rfl ?_
  refine run_op (loc_move rfl) rfl ?_
  first | refine run_op (loc_addU rfl rfl (by first | omega | assumption)) rfl ?_ | refine run_op (loc_addW rfl rfl) rfl ?_
  refine run_op (loc_move rfl) rfl ?_
  refine run_op (loc_shrN (c := 32) (q := 4294967296) rfl rfl rfl (by decide) (by first | omega | assumption) (by decide)) rfl ?_
  first | refine run_op (loc_addU rfl rfl (by first | omega | assumption)) rfl ?_ | refine run_op (loc_addW rfl rfl) rfl ?_
  refine run_op (loc_assign rfl) rfl ?_
  refine run_nil ?_
  refine run_seq ?_
  refine run_region ?_
  refine run_op (loc_move rfl) rfl ?_
  refine run_op (loc_move rfl) rfl ?_
  first | refine run_op (loc_mulU rfl rfl (by first | omega | assumption)) rfl ?_ | refine run_op (loc_mulW rfl rfl) rfl ?_
  refine run_op (loc_assign rfl) rfl ?_
  refine run_nil ?_
  refine run_ret2P Try.func93 rfl rfl rfl ?_
  exact d_tup2 (d_int (by omega)) (fun _ _ h => h)

theorem mul_spec (x y : Int) (hx : 0 ≤ x ∧ x < 4294967296) (hy : 0 ≤ y ∧ y < 4294967296) : SpecP Try.prog 78 [dInt .u64 x, dInt .u64 y] (dTup [dInt .u64 0, dInt .u64 (x * y)]) := by
  refine specP_of_body Try.func78 rfl rfl (fun I M => ?_)
  refine run_seq ?_
  refine run_region ?_
  refine run_op (loc_assign rfl) rfl ?_
  refine run_op (loc_assign rfl) rfl ?_
  refine run_nil ?_
  refine run_seq ?_
  refine run_cond rfl (fun h1 => ?_) (fun h1 => ?_)
  · exfalso; exact h1
  ·
    refine run_skip ?_
    refine run_seq ?_
    refine run_region ?_
    refine run_op (loc_move rfl) rfl ?_
    refine run_op (loc_move rfl) rfl ?_
    refine run_op (loc_call (mul64_spec _ _ hx hy) rfl) rfl ?_
    refine run_op (loc_move rfl) rfl ?_
    refine run_op (loc_extract rfl rfl) rfl ?_
    refine run_op (loc_extract rfl rfl) rfl ?_
    refine run_op (loc_assign rfl) rfl ?_
    refine run_op (loc_assign rfl) rfl ?_
    refine run_nil ?_
    refine run_seq ?_
    refine run_region ?_
    refine run_op (loc_move rfl) rfl ?_
    refine run_op (loc_move rfl) rfl ?_
    refine run_op (loc_assign rfl) rfl ?_
    refine run_op (loc_assign rfl) rfl ?_
    refine run_nil ?_
    refine run_ret2P Try.func78 rfl rfl rfl ?_
    exact fun _ _ h => h

theorem cloneIM_spec (xs : List (Int)) (hb : xs.length * 8 ≤ 140737488355328) : Spec Try.prog 57 [dSl 1 fI xs] [] (σ := Value) (fun _ => True) (fun v => dVal v) (fun v => [rRow v 3 1 fI xs]) := by
  refine spec_of_body Try.func57 rfl rfl (fun I F => ?_)
  refine run_seq ?_
  refine run_fact (s := 0) rfl (fun _ _ h => dSl_len h) (fun hlen => ?_)
  refine run_region ?_
  refine run_op (loc_assign rfl) rfl ?_
  refine run_nil ?_
  refine run_seq ?_
  refine run_seq ?_
  refine run_region ?_
  refine run_op (loc_move rfl) rfl ?_
  refine run_ex (loc_eqlNil rfl) rfl (fun e1 he1 => ?_)
  refine run_nil ?_
  refine run_cond rfl (fun h2 => ?_) (fun h2 => ?_)
  ·
    refine run_seq ?_
    refine run_region ?_
    refine run_op (loc_assign rfl) rfl ?_
    refine run_nil ?_
    refine run_ret (.slice none 0 0) Try.func57 rfl rfl ?_ (trivial) (fun _ _ h => by rw [he1 (by assumption)]; exact nil_ok h)
    exact fun _ _ h => h
  ·
    refine run_skip ?_
    refine run_seq ?_
    refine run_region ?_
    refine run_new (loc_build0 fI) rfl (fun b3 _ => ?_)
    refine run_op (loc_move rfl) rfl ?_
    refine run_append rfl (.here) rfl (by rfl) (by first | omega | (unfold lenMax; omega) | assumption | (simp; omega) | (simp [lenMax]; omega)) (by first | omega | (unfold lenMax; omega) | assumption | (simp; omega) | (simp [lenMax]; omega)) rfl (fun v4 => ?_)
    refine run_op (loc_assign rfl) rfl ?_
    refine run_nil ?_
    refine run_ret (v4) Try.func57 rfl rfl ?_ (trivial) (fun _ _ h => h)
    exact fun _ _ h => h

theorem cloneI_spec (xs : List (Int)) (hb : xs.length * 8 ≤ 140737488355328) : SpecP Try.prog 57 [dSl 1 fI xs] (dSl 1 fI xs) := spec_freeze (cloneIM_spec xs hb)
theorem indexFuncI_spec (q : Int → Prop) (xs : List (Int)) : SpecP Try.prog 91 [dSl 1 fI xs, dFun Try.prog (fun x : Int => [dInt .i64 x]) (fun x => dB (q x))] (dInt .i64 (idxP q xs)) := by
  refine specP_of_body Try.func91 rfl rfl (fun I M => ?_)
  refine run_seq ?_
  refine run_region ?_
  refine run_op (loc_assign rfl) rfl ?_
  refine run_nil ?_
  refine run_seq ?_
  refine run_seq ?_
  refine run_region ?_
  refine run_op (loc_move rfl) rfl ?_
  first | refine runL_fact (s := 6) rfl (fun _ _ h => dSl_len h) (fun hlen1 => ?_) | skip
  refine run_op (loc_len rfl) rfl ?_
  refine run_op (loc_move rfl) rfl ?_
  refine run_nil ?_
  refine run_block ?_
  refine run_loopC (σ := Nat) (ks := [0, 1, 7]) (.cons rfl (.cons rfl (.cons rfl (.nil)))) (fun k => [(8, dInt .i64 (k : Nat))]) (fun k => k ≤ xs.length ∧ (∀ j, j < k → ¬ q (xs[j]?.getD default))) (fun k => xs.length - k) (0) (⟨by omega, fun j hj => by omega⟩) (.cons rfl (by first | exact fun _ _ h => h | exact d_int (by omega) | exact d_int (by simp) | exact d_intN (by omega) | exact d_any) .nil) ?_
  rintro k ⟨hk, hbk⟩ ih2
  refine run_seq ?_
  refine run_region ?_
  refine run_op (loc_lss rfl rfl) rfl ?_
  refine run_nil ?_
  refine run_seq ?_
  refine run_cond rfl (fun h3 => ?_) (fun h3 => ?_)
  ·
    refine run_skip ?_
    refine run_seq ?_
    refine run_block ?_
    refine run_seq ?_
    refine run_region ?_
    refine run_op (loc_move rfl) rfl ?_
    refine run_op (loc_assign rfl) rfl ?_
    refine run_nil ?_
    refine run_seq ?_
    refine run_region ?_
    refine run_op (loc_move rfl) rfl ?_
    refine run_op (loc_move rfl) rfl ?_
    refine run_op (loc_move rfl) rfl ?_
    first | refine run_op (loc_index rfl rfl (by first | omega | assumption)) rfl ?_ | refine run_op (loc_indexI rfl rfl (by first | omega | assumption)) rfl ?_
    refine run_op (loc_load1 rfl) rfl ?_
    refine run_op (loc_callFun (xs[k]?.getD default) rfl rfl) rfl ?_
    refine run_nil ?_
    refine run_cond rfl (fun h4 => ?_) (fun h4 => ?_)
    ·
      refine run_seq ?_
      refine run_region ?_
      refine run_op (loc_move rfl) rfl ?_
      refine run_op (loc_assign rfl) rfl ?_
      refine run_nil ?_
      refine run_retP Try.func91 rfl rfl ?_
      exact d_int (idxP_at (by omega) hbk (by assumption)).symm
    ·
      refine run_skip ?_
      refine run_inBlock ?_
      refine run_region ?_
      first | refine run_op (loc_add rfl rfl (by first | omega | assumption)) rfl ?_ | refine run_op (loc_addW rfl rfl) rfl ?_
      refine run_op (loc_move rfl) rfl ?_
      refine run_nil ?_
      exact run_againC ih2 (k + 1) (⟨by omega, fun j hj => by by_cases e : j = k; (· subst e; assumption); (· exact hbk j (by omega))⟩) (by omega) (.cons rfl (by first | exact fun _ _ h => h | exact d_int (by omega) | exact d_int (by simp) | exact d_intN (by omega) | exact d_any) .nil) (.cons rfl (fun _ _ x => x) (.cons rfl (fun _ _ x => x) (.cons rfl (fun _ _ x => x) (.nil))))
  ·
    refine run_exit rfl ?_
    refine run_seq ?_
    refine run_region ?_
    refine run_op (loc_assign rfl) rfl ?_
    refine run_nil ?_
    refine run_retP Try.func91 rfl rfl ?_
    exact d_int (idxP_none (forall_getD (fun j hj => hbk j (by omega)))).symm

theorem containsFuncI_spec (q : Int → Prop) (xs : List (Int)) : SpecP Try.prog 76 [dSl 1 fI xs, dFun Try.prog (fun x : Int => [dInt .i64 x]) (fun x => dB (q x))] (dB (∃ x ∈ xs, q x)) := by
  refine specP_of_body Try.func76 rfl rfl (fun I M => ?_)
  refine run_seq ?_
  refine run_region ?_
  refine run_op (loc_assign rfl) rfl ?_
  refine run_nil ?_
  refine run_seq ?_
  refine run_region ?_
  refine run_op (loc_move rfl) rfl ?_
  refine run_op (loc_move rfl) rfl ?_
  refine run_op (loc_call (indexFuncI_spec q xs) rfl) rfl ?_
  refine run_op (loc_geq rfl rfl) rfl ?_
  refine run_op (loc_assign rfl) rfl ?_
  refine run_nil ?_
  refine run_retP Try.func76 rfl rfl ?_
  exact d_B idxP_nonneg

theorem repeatIM_spec (xs : List (Int)) (c : Nat) (hb : c * xs.length ≤ 1000000000) (hc : c ≤ 1000000000) (hx : xs.length ≤ 1000000000) :
    Spec Try.prog 59 [dSl 1 fI xs, dInt .i64 (c : Nat)] [] (σ := Value) (fun _ => True) (fun v => dVal v) (fun v => [rRow v 3 1 fI (reps c xs)]) := by
  refine spec_of_body Try.func59 rfl rfl (fun I F => ?_)
  obtain ⟨T, hT⟩ : ∃ T : Nat, T = c * xs.length := ⟨_, rfl⟩
  have hcl : ((xs.length : Nat) : Int) * ((c : Nat) : Int) = ((T : Nat) : Int) := by rw [hT, Nat.mul_comm, Int.natCast_mul]
  refine run_seq ?_
  refine run_region ?_
  refine run_op (loc_assign rfl) rfl ?_
  refine run_nil ?_
  refine run_seq ?_
  refine run_seq ?_
  refine run_region ?_
  refine run_op (loc_move rfl) rfl ?_
  refine run_op (loc_lss rfl rfl) rfl ?_
  refine run_nil ?_
  refine run_cond rfl (fun h1 => ?_) (fun h1 => ?_)
  · exfalso; omega
  ·
    refine run_skip ?_
    refine run_seq ?_
    refine run_region ?_
    refine run_op (loc_move rfl) rfl ?_
    first | refine runL_fact (s := 13) rfl (fun _ _ h => dSl_len h) (fun hlen2 => ?_) | skip
    refine run_op (loc_len rfl) rfl ?_
    first | refine run_op (loc_convU rfl (by first | omega | assumption)) rfl ?_ | refine run_op (loc_convW rfl) rfl ?_
    refine run_op (loc_move rfl) rfl ?_
    first | refine run_op (loc_convU rfl (by first | omega | assumption)) rfl ?_ | refine run_op (loc_convW rfl) rfl ?_
    refine run_op (loc_call (mul_spec _ _ (by omega) (by omega)) rfl) rfl ?_
    refine run_op (loc_move rfl) rfl ?_
    refine run_op (loc_extract rfl rfl) rfl ?_
    refine run_op (loc_extract rfl rfl) rfl ?_
    refine runL_recast (s := 20) rfl (d_int hcl) ?_
    refine run_op (loc_assign rfl) rfl ?_
    refine run_op (loc_assign rfl) rfl ?_
    refine run_nil ?_
    refine run_seq ?_
    refine run_seq ?_
    refine run_region ?_
    refine run_op (loc_move rfl) rfl ?_
    refine run_op (loc_gtr rfl rfl) rfl ?_
    refine run_op (loc_move rfl) rfl ?_
    refine run_gfirst rfl rfl (by first | exact guard_true _ | exact guard_false _ | exact guard_if (guard_true _) | exact guard_if (guard_false _)) (fun hg => loc_move rfl) rfl ?_
    refine run_gop rfl rfl (by first | exact guard_true _ | exact guard_false _ | exact guard_if (guard_true _) | exact guard_if (guard_false _)) (fun hg => loc_gtr rfl rfl) rfl ?_
    refine run_gleave ?_
    refine run_op (loc_or rfl rfl) rfl ?_
    refine run_nil ?_
    refine run_cond rfl (fun h3 => ?_) (fun h3 => ?_)
    · exfalso; omega
    ·
      refine run_skip ?_
      refine run_seq ?_
      refine run_region ?_
      refine run_op (loc_move rfl) rfl ?_
      first | refine run_op (loc_conv rfl (by first | omega | assumption)) rfl ?_ | refine run_op (loc_convW rfl) rfl ?_
      refine run_new (loc_makeSlice rfl rfl (by first | omega | assumption) (by first | omega | assumption) _ _ rfl (by simp)) rfl (fun b4 _ => ?_)
      refine run_op (loc_assign rfl) rfl ?_
      refine run_nil ?_
      refine run_openSl .here (fun hl1 hl2 hl3 hl4 => ?_)
      refine run_recast (s := 7) rfl (d_eq (congrArg dVal (sl_zero _ 1 _ _))) ?_
      rw [Int.toNat_natCast]
      refine run_seq ?_
      refine run_region ?_
      refine run_op (loc_move rfl) rfl ?_
      refine run_op (loc_move rfl) rfl ?_
      refine run_updS rfl (.here) (loc_copyImm rfl rfl (by first | omega | (simp only [List.length_append, List.length_map, junk_length]; omega) | (simp only [List.length_append, List.length_map, junk_length]; split <;> omega) | (simp [put, junk_length]; omega))) (fun _ _ => ?_)
      refine run_op (loc_assign rfl) rfl ?_
      refine run_nil ?_
      refine run_seq ?_
      refine run_block ?_
      refine run_loopE (σ := Nat × List Int) (ks := [7]) (.cons rfl (.nil)) (fun s => [(8, dInt .i64 (s.1 : Nat))]) (fun s => rBuf b4 3 1 (s.2.map fI ++ junk 1 0) :: F) (fun s => RepI c xs T s) (fun s => T - s.1) ((min xs.length T, xs.take (min xs.length T) ++ List.replicate (T - min xs.length T) 0)) (repI_start hT) (.cons rfl (d_int (by simp)) .nil) (congrArg (fun z => rBuf b4 3 1 z :: F) (by unfold put; simp [junk, Nat.min_comm])) ?_
      rintro s hs ih5
      have hs1 := hs.len
      have hs2 := hs.le
      refine run_seq ?_
      refine run_seq ?_
      refine run_region ?_
      refine run_op (loc_move rfl) rfl ?_
      refine run_op (loc_move rfl) rfl ?_
      refine run_op (loc_lenOwn rfl) rfl ?_
      refine run_op (loc_lss rfl rfl) rfl ?_
      refine run_nil ?_
      refine run_cond rfl (fun h6 => ?_) (fun h6 => ?_)
      ·
        refine run_skip ?_
        refine run_block ?_
        refine dr_start _ (.none) [⟨[(8, none)], [], none⟩,
            ⟨[(7, none)], [], none⟩,
            ⟨[(8, none)], [], none⟩,
            ⟨[(39, some (1, false)), (40, some (2, false))], [1, 2], none⟩,
            ⟨[(7, none)], [], none⟩,
            ⟨[(8, none)], [], none⟩,
            ⟨[(42, some (4, false)), (43, some (5, false))], [4, 5], none⟩,
            ⟨[(41, some (3, false)), (44, some (6, false))], [1, 2, 3, 4, 5, 6], some (0, 0, true)⟩,
            ⟨[(38, some (0, false)), (45, some (7, false))], [0, 1, 2, 3, 4, 5, 6, 7], none⟩,
            ⟨[(46, some (8, false))], [0, 1, 2, 3, 4, 5, 6, 7, 8], none⟩] [_] _ rfl rfl ?_
        refine dq_pure rfl (fun s => .g rfl (.nil)) (fun s hs _ => loc_move rfl) (by exact .nil) ?_
        refine dq_pure rfl (fun s => .g rfl (.nil)) (fun s hs _ => loc_move rfl) (by exact .nil) ?_
        refine dq_pure rfl (fun s => .g rfl (.nil)) (fun s hs _ => loc_move rfl) (by exact .nil) ?_
        first | refine dq_pure rfl (fun s => .op rfl (.op rfl (.nil))) (fun s hs _ => loc_sliceOwnFromLt rfl rfl (by first | omega | assumption)) (by exact .nil) ?_ | refine dq_pure rfl (fun s => .op rfl (.op rfl (.nil))) (fun s hs _ => loc_sliceOwnFrom rfl rfl (by first | omega | assumption)) (by exact .nil) ?_
        refine dq_pure rfl (fun s => .g rfl (.nil)) (fun s hs _ => loc_move rfl) (by exact .nil) ?_
        refine dq_pure rfl (fun s => .g rfl (.nil)) (fun s hs _ => loc_move rfl) (by exact .nil) ?_
        refine dq_pure rfl (fun s => .op rfl (.op rfl (.nil))) (fun s hs _ => loc_sliceOwnTo rfl rfl (by first | omega | assumption)) (by exact .nil) ?_
        refine dq_write rfl (fun s => .op rfl (.op rfl (.nil))) rfl rfl (fun s hs => loc_copyOwn rfl rfl (by first | omega | (simp only [List.length_append, List.length_map, junk_length]; omega) | (simp only [List.length_append, List.length_map, junk_length]; split <;> omega) | (simp [put, junk_length]; omega)) (one_part (by first | omega | (split <;> omega)))) (by exact .nil) ?_
        first | refine dq_pure rfl (fun s => .op rfl (.op rfl (.nil))) (fun s hs _ => loc_add rfl rfl (by first | omega | assumption)) (by exact .nil) ?_ | refine dq_pure rfl (fun s => .op rfl (.op rfl (.nil))) (fun s hs _ => loc_addW rfl rfl) (by exact .nil) ?_
        refine dq_pure rfl (fun s => .op rfl (.nil)) (fun s hs _ => loc_assign rfl) (by exact .nil) ?_
        refine dq_end (rs := [_]) () rfl (fun _ => rfl) (.nil) rfl (fun _ _ => ?_)
        dsimp only [outG, outM, List.map, List.set, id]
        refine run_inBlock ?_
        exact run_againE ih5 ((s.1 + min s.1 (T - s.1), s.2.take s.1 ++ s.2.take (min s.1 (T - s.1)) ++ s.2.drop (s.1 + min s.1 (T - s.1)))) (repI_next hT hs (by omega)) (by have := (hs.mul (by omega)).1; simp only; omega) (.cons rfl (d_int (by simp only [Int.toNat_natCast]; omega)) .nil) (.cons rfl (fun _ _ x => x) (.nil)) (congrArg (fun z => rBuf b4 3 1 z :: F) (by unfold put; simp [junk, List.map_take, List.map_drop, hs1]))
      ·
        refine run_exit rfl ?_
        refine run_seq ?_
        refine run_region ?_
        refine run_op (loc_move rfl) rfl ?_
        refine run_op (loc_assign rfl) rfl ?_
        refine run_nil ?_
        refine run_ret (sl b4 1 0 T T) Try.func59 rfl rfl ?_ (trivial) (fun _ _ h => inv_shut h (by rw [repI_end hT hs (by omega)]) (by rw [reps_len]; omega) (by rw [reps_len]; simp [junk]; omega) (by simp only [maxLen]; omega) (by rw [reps_len]; unfold lenMax; omega))
        exact fun _ _ h => h
theorem repeatI_spec (xs : List (Int)) (c : Nat) (hb : c * xs.length ≤ 1000000000) (hc : c ≤ 1000000000) (hx : xs.length ≤ 1000000000) : SpecP Try.prog 59 [dSl 1 fI xs, dInt .i64 (c : Nat)] (dSl 1 fI (reps c xs)) := spec_freeze (repeatIM_spec xs c hb hc hx)

end Go.Q

namespace Go.Q
open Classical

theorem fe_mod (x y p : Int) : (x * (y % p)) % p = x * y % p := by rw [Int.mul_emod, Int.emod_emod, ← Int.mul_emod]
theorem fm_mod (x y p : Int) : (x % p * y) % p = x * y % p := by rw [Int.mul_emod, Int.emod_emod, ← Int.mul_emod]
theorem pow_emod (a p : Int) : ∀ n : Nat, (a % p) ^ n % p = a ^ n % p
  | 0 => by simp
  | n + 1 => by rw [Int.pow_succ, Int.pow_succ, Int.mul_emod, pow_emod a p n, Int.emod_emod, ← Int.mul_emod]
theorem mod_bd {p : Int} (x : Int) (h : 0 < p) : 0 ≤ x % p ∧ x % p < p := ⟨Int.emod_nonneg _ (by omega), Int.emod_lt_of_pos _ h⟩

/-- The power, asL it is reckoned: x times a to the n. -/
def powM (p a : Int) (n : Nat) : Int := a ^ n % p
theorem pow_even (a : Int) (n : Nat) : (a * a) ^ n = a ^ (2 * n) := by
  rw [Int.pow_mul]
  congr 1
  rw [show a ^ 2 = a * a by rw [show (2 : Nat) = 1 + 1 from rfl, Int.pow_succ, Int.pow_succ, Int.pow_zero, Int.one_mul]]
theorem pow_step0 (p x a : Int) (n : Nat) (h : n % 2 = 0) : x * (a * a % p) ^ (n / 2) % p = x * a ^ n % p := by
  rw [← fe_mod, pow_emod, fe_mod, pow_even, show 2 * (n / 2) = n by omega]
theorem pow_step1 (p x a : Int) (n : Nat) (h : n % 2 = 1) : x * a % p * (a * a % p) ^ (n / 2) % p = x * a ^ n % p := by
  rw [fm_mod, ← fe_mod, pow_emod, fe_mod, pow_even, Int.mul_assoc]
  congr 2
  rw [show n = 2 * (n / 2) + 1 by omega, Int.pow_succ, Int.mul_comm, show (2 * (n / 2) + 1) / 2 = n / 2 by omega]

/-- A list times x, added to another. -/
def addT (p x : Int) : List Int → List Int → List Int
  | t :: ts, a :: asL => (t + x * a % p) % p :: addT p x ts asL
  | ts, [] => ts
  | [], _ :: _ => []
theorem addT_nil (p x : Int) (ts : List Int) : addT p x ts [] = ts := by cases ts <;> rfl
theorem addT_len (p x : Int) : ∀ ts asL : List Int, (addT p x ts asL).length = ts.length
  | t :: ts, a :: asL => by simp [addT, addT_len p x ts asL]
  | [], [] => rfl
  | t :: ts, [] => rfl
  | [], _ :: _ => rfl
theorem addT_get (p x : Int) : ∀ (ts asL : List Int) (k : Nat), asL.length ≤ k → (addT p x ts asL)[k]?.getD default = ts[k]?.getD default
  | t :: ts, a :: asL, k, h => by
    cases k with
    | zero => simp at h
    | succ k => simpa [addT] using addT_get p x ts asL k (by simpa using h)
  | [], [], k, h => rfl
  | t :: ts, [], k, h => rfl
  | [], _ :: _, k, h => rfl
theorem addT_take (p x : Int) : ∀ (ts asL : List Int) (k : Nat), k < asL.length → k < ts.length → addT p x ts (asL.take (k + 1)) = (addT p x ts (asL.take k)).set k ((ts[k]?.getD default + x * (asL[k]?.getD default) % p) % p)
  | t :: ts, a :: asL, 0, _, _ => by simp [addT, addT_nil]
  | t :: ts, a :: asL, k + 1, h1, h2 => by
    have := addT_take p x ts asL k (by simpa using h1) (by simpa using h2)
    simp only [List.take_succ_cons, addT, this, List.set_cons_succ]
    simp
theorem addT_has {p x : Int} (hp : 0 < p) : ∀ {ts asL : List Int}, (∀ t ∈ ts, hasP p t) → ∀ t ∈ addT p x ts asL, hasP p t
  | t :: ts, a :: asL, h, u, hu => by
    simp only [addT, List.mem_cons] at hu
    rcases hu with rfl | hu
    · exact mod_bd _ hp
    · exact addT_has hp (fun v hv => h v (List.mem_cons_of_mem _ hv)) u hu
  | [], [], h, u, hu => h u hu
  | t :: ts, [], h, u, hu => h u hu
  | [], _ :: _, h, u, hu => (by cases hu)

/-- The value of a polynomial. -/
def valP (p : Int) : List Int → Int → Int
  | [], _ => 0
  | c :: cs, x => (valP p cs x * x % p + c) % p
theorem valP_bd {p x : Int} (hp : 0 < p) : ∀ cs : List Int, 0 ≤ valP p cs x ∧ valP p cs x < p
  | [] => ⟨Int.le_refl _, hp⟩
  | _ :: _ => mod_bd _ hp

/-- A list from its end, each with its index. -/
def backL (cs : List Int) : List (Int × Nat) := cs.zipIdx.reverse
theorem backL_len (cs : List Int) : (backL cs).length = cs.length := by simp [backL]
theorem backL_get {cs : List Int} {i : Nat} {q : Int × Nat} (h : (backL cs)[i]? = some q) : i < cs.length ∧ q = (cs[cs.length - 1 - i]?.getD default, cs.length - 1 - i) := by
  have hi : i < (backL cs).length := (List.getElem?_eq_some_iff.1 h).1
  rw [backL_len] at hi
  refine ⟨hi, ?_⟩
  unfold backL at h
  rw [List.getElem?_reverse (by simpa using hi)] at h
  simp only [List.length_zipIdx, List.getElem?_zipIdx, Nat.zero_add] at h
  rw [List.getElem?_eq_getElem (by omega)] at h
  simp at h
  rw [List.getElem?_eq_getElem (by omega), ← h]
  rfl
theorem drop_back {cs : List Int} {i : Nat} (h : i < cs.length) : cs.drop (cs.length - (i + 1)) = (cs[cs.length - 1 - i]?.getD default) :: cs.drop (cs.length - i) := by
  rw [List.drop_eq_getElem_cons (by omega), List.getElem?_eq_getElem (by omega)]
  simp only [Option.getD_some]
  congr 2 <;> omega

/-! ### Tapes -/

def okTape (t : Tape) : Prop := t.numbers.length ≤ 16384 ∧ 0 ≤ t.at' ∧ t.at' ≤ t.numbers.length
/-- The first error of some draws below n. -/
noncomputable def stepE (n : Int) : List Int → Nat → Int
  | _, 0 => 0
  | [], _ + 1 => 3
  | x :: xs, k + 1 => if hasP n x then stepE n xs k else 8
theorem stepE_0 (n : Int) (xs : List Int) : stepE n xs 0 = 0 := by cases xs <;> rfl
theorem stepE_short {n : Int} : ∀ {xs : List Int} {c : Nat}, (∀ x ∈ xs, hasP n x) → xs.length < c → stepE n xs c = 3
  | [], c + 1, _, _ => rfl
  | x :: xs, 0, _, h => by simp at h
  | x :: xs, c + 1, h, hl => by
    rw [stepE, if_pos (h x (List.mem_cons_self ..))]
    exact stepE_short (fun y hy => h y (List.mem_cons_of_mem _ hy)) (by simpa using hl)
theorem stepE_bad {n : Int} : ∀ {xs : List Int} {c i : Nat}, i < xs.length → i < c → (∀ j, j < i → hasP n (xs[j]?.getD default)) → ¬ hasP n (xs[i]?.getD default) → stepE n xs c = 8
  | x :: xs, c + 1, 0, _, _, _, h => by rw [stepE, if_neg (by simpa using h)]
  | x :: xs, c + 1, i + 1, h1, h2, hb, h => by
    rw [stepE, if_pos (by simpa using hb 0 (by omega))]
    exact stepE_bad (i := i) (by simpa using h1) (by omega) (fun j hj => by simpa using hb (j + 1) (by omega)) (by simpa using h)
theorem stepE_ok {n : Int} : ∀ {xs : List Int} {c : Nat}, c ≤ xs.length → (∀ j, j < c → hasP n (xs[j]?.getD default)) → stepE n xs c = 0
  | _, 0, _, _ => by cases ‹List Int› <;> rfl
  | [], c + 1, h, _ => by simp at h
  | x :: xs, c + 1, h, hb => by
    rw [stepE, if_pos (by simpa using hb 0 (by omega))]
    exact stepE_ok (by simpa using h) (fun j hj => by simpa using hb (j + 1) (by omega))
theorem stepE_zero {n : Int} : ∀ {xs : List Int} {c : Nat}, stepE n xs c = 0 → c ≤ xs.length ∧ ∀ x ∈ xs.take c, hasP n x
  | _, 0, _ => ⟨Nat.zero_le _, by simp⟩
  | [], c + 1, h => by cases h
  | x :: xs, c + 1, h => by
    rw [stepE] at h
    split at h
    · rename_i hx
      obtain ⟨h1, h2⟩ := stepE_zero h
      exact ⟨by simpa using h1, fun y hy => by rcases List.mem_cons.1 (by simpa using hy) with rfl | hy; (· exact hx); (· exact h2 y hy)⟩
    · cases h
theorem stepE_add {n : Int} : ∀ {xs : List Int} {a b : Nat}, stepE n xs a = 0 → stepE n xs (a + b) = stepE n (xs.drop a) b
  | _, 0, b, _ => by rw [Nat.zero_add, List.drop_zero]
  | [], a + 1, b, h => by cases h
  | x :: xs, a + 1, b, h => by
    rw [stepE] at h
    split at h
    · rename_i hx
      rw [show a + 1 + b = (a + b) + 1 by omega, stepE, if_pos hx, List.drop_succ_cons]
      exact stepE_add h
    · cases h
theorem stepE_more {n : Int} : ∀ {xs : List Int} {a b : Nat}, stepE n xs a ≠ 0 → stepE n xs (a + b) = stepE n xs a
  | xs, 0, b, h => absurd (stepE_0 n xs) h
  | [], a + 1, b, _ => by rw [show a + 1 + b = (a + b) + 1 by omega]; rfl
  | x :: xs, a + 1, b, h => by
    rw [show a + 1 + b = (a + b) + 1 by omega]
    rw [stepE] at h ⊢
    rw [stepE]
    split
    · rename_i hx
      rw [if_pos hx] at h
      exact stepE_more h
    · rfl
noncomputable def drawE (t : Tape) (n c : Int) : Int := if ¬ okTape t then 2 else if ¬ (1 ≤ n ∧ n ≤ 2147483647) ∨ c < 0 then 1 else stepE n (t.numbers.drop t.at'.toNat) c.toNat
noncomputable def drawT (t : Tape) (n c : Int) : Tape := if drawE t n c = 0 then ⟨t.numbers, t.at' + c⟩ else ⟨[], 0⟩
noncomputable def drawL (t : Tape) (n c : Int) : List Int := if drawE t n c = 0 then (t.numbers.drop t.at'.toNat).take c.toNat else []

theorem drawE_zero {t : Tape} {n c : Int} (h : drawE t n c = 0) : okTape t ∧ (1 ≤ n ∧ n ≤ 2147483647) ∧ 0 ≤ c ∧ t.at' + c ≤ t.numbers.length ∧ (drawL t n c).length = c.toNat ∧ ∀ x ∈ drawL t n c, hasP n x := by
  have h0 := h
  unfold drawE at h
  split at h
  · cases h
  · rename_i h1
    split at h
    · cases h
    · rename_i h2
      obtain ⟨h3, h4⟩ := stepE_zero h
      have h5 := Classical.not_not.1 h1
      have h6 := h5.2
      rw [List.length_drop] at h3
      refine ⟨h5, by omega, by omega, by omega, ?_, ?_⟩
      · unfold drawL; rw [if_pos h0, List.length_take, List.length_drop]; omega
      · unfold drawL; rw [if_pos h0]; exact h4
theorem drawT_ok {t : Tape} {n c : Int} (h : drawE t n c = 0) : drawT t n c = ⟨t.numbers, t.at' + c⟩ ∧ okTape (drawT t n c) := by
  obtain ⟨h1, h2, h3, h4, _⟩ := drawE_zero h
  have e : drawT t n c = ⟨t.numbers, t.at' + c⟩ := by unfold drawT; rw [if_pos h]
  refine ⟨e, ?_⟩
  rw [e]
  exact ⟨h1.1, by have := h1.2.1; simp only; omega, h4⟩

end Go.Q

namespace Go.Q
open Classical

theorem rowStep_bd (d x : Int) : 0 ≤ rowStep d x ∧ rowStep d x < 2147483647 := by unfold rowStep; omega
theorem rowStep_inj {d e x : Int} (hd : 0 ≤ d ∧ d < 2147483647) (he : 0 ≤ e ∧ e < 2147483647) (h : rowStep d x = rowStep e x) : d = e := by
  unfold rowStep at h
  generalize modD x = m at h
  have h1 : (d * 1000003 + m + 1 - (e * 1000003 + m + 1)) % 2147483647 = 0 := Int.emod_eq_emod_iff_emod_sub_eq_zero.1 h
  have h2 : (2147483647 : Int) ∣ (d - e) * 1000003 := by
    have h3 := Int.dvd_of_emod_eq_zero h1
    have h4 : d * 1000003 + m + 1 - (e * 1000003 + m + 1) = (d - e) * 1000003 := by omega
    rwa [h4] at h3
  have h6 : (2147483647 : Int) ∣ (d - e) * 1000003 * 1523789695 - (d - e) * (2147483647 * 709572) :=
    Int.dvd_sub (Int.dvd_trans h2 ⟨_, rfl⟩) (Int.dvd_trans ⟨709572, rfl⟩ ⟨d - e, Int.mul_comm _ _⟩)
  rw [Int.mul_assoc, ← Int.mul_sub, show (1000003 * 1523789695 - 2147483647 * 709572 : Int) = 1 from by decide, Int.mul_one] at h6
  obtain ⟨r, hr⟩ := h6
  clear h h1 h2
  omega
theorem fold_inj : ∀ (xs : List Int) {d e : Int}, (0 ≤ d ∧ d < 2147483647) → (0 ≤ e ∧ e < 2147483647) → xs.foldl rowStep d = xs.foldl rowStep e → d = e
  | [], _, _, _, _, h => h
  | x :: xs, d, e, hd, he, h => rowStep_inj hd he (fold_inj xs (rowStep_bd d x) (rowStep_bd e x) h)
theorem rowStep_last {d a b : Int} (ha : 0 ≤ a ∧ a < 2147483647) (hb : 0 ≤ b ∧ b < 2147483647) (h : rowStep d a = rowStep d b) : a = b := by
  unfold rowStep modD at h
  omega

theorem rowD_set {r : List Int} {j : Nat} {b : Int} (hj : j < r.length) (hb : 0 ≤ b ∧ b < 2147483647) (hr : 0 ≤ r[j]?.getD default ∧ r[j]?.getD default < 2147483647) : rowD (r.set j b) = rowD r ↔ b = r[j]?.getD default := by
  have e1 : r = r.take j ++ (r[j]?.getD default) :: r.drop (j + 1) := by
    conv => lhs; rw [← List.take_append_drop j r]
    rw [List.drop_eq_getElem_cons hj, List.getElem?_eq_getElem hj]
    rfl
  have e2 : r.set j b = r.take j ++ b :: r.drop (j + 1) := by
    rw [List.set_eq_take_append_cons_drop, if_pos hj]
  constructor
  · intro h
    rw [e2] at h
    conv at h => rhs; rw [e1]
    unfold rowD at h
    rw [List.foldl_append, List.foldl_append, List.foldl_cons, List.foldl_cons] at h
    exact rowStep_last hb hr (fold_inj _ (rowStep_bd _ _) (rowStep_bd _ _) h)
  · intro h
    rw [e2, h, ← e1]

theorem rowT_at {x : Tab} (hx : checkT x = 0) {k : Nat} (hk : k < x.rows.length) : rowT x k = x.rows[k]?.getD default ∧ rowTErr x k = 0 := by
  unfold rowT rowTErr
  rw [if_pos ⟨hx, by omega, by omega⟩, if_neg (by simpa using hx), if_neg (by omega)]
  exact ⟨rfl, rfl⟩

theorem allP_set {p : Int} {r : List Int} (h : allP p r) {j : Nat} {b : Int} (hb : 0 ≤ b ∧ b < p) : allP p (r.set j b) := by
  intro y hy
  rcases List.mem_or_eq_of_mem_set hy with hy | rfl
  · exact h y hy
  · exact hb

/-- A row in which one element was set passes exactly if the element is asL it was. -/
theorem verify_set {x : Tab} (hx : checkT x = 0) {k : Nat} (hk : k < x.rows.length) {j : Nat} {b : Int} (hj : j < (x.rows[k]?.getD default).length) (hb : 0 ≤ b ∧ b < x.p) :
    verifyH (headT x) (digs x) k ((x.rows[k]?.getD default).set j b) = 0 ↔ b = (x.rows[k]?.getD default)[j]?.getD default := by
  have h1 := checkT_ok hx
  have h2 := h1.2.2.2.2 _ (getD_mem hk)
  have h3 : x.p ≤ 65521 := h1.2.1.2.1
  have h4 := h2.2 _ (getD_mem hj)
  unfold hasP at h4
  rw [verify_ok hx, if_neg (by omega), if_neg (by rw [List.length_set]; simpa using h2.1), if_neg (Classical.not_not.2 (allP_set h2.2 hb)), ← rowD_set hj ⟨hb.1, by omega⟩ ⟨h4.1, by omega⟩]
  rw [show ((k : Int).toNat) = k from rfl]
  by_cases c : rowD ((x.rows[k]?.getD default).set j b) = rowD (x.rows[k]?.getD default) <;> simp [c]

end Go.Q

namespace Go.Q
open Classical

theorem lin_inj {d e m : Int} (hd : goodD d) (he : goodD e) (h : (d * 1000003 + m) % 2147483647 = (e * 1000003 + m) % 2147483647) : d = e := by
  have h1 : rowStep d (m - 1) = rowStep e (m - 1) := by
    unfold rowStep modD
    have h2 := congrArg (fun t => (t + (m - 1) % 2147483647 + 1 - m) % 2147483647) h
    have h3 : ∀ x : Int, ((x * 1000003 + m) % 2147483647 + (m - 1) % 2147483647 + 1 - m) % 2147483647 = (x * 1000003 + (m - 1) % 2147483647 + 1) % 2147483647 := fun x => by omega
    rwa [h3, h3] at h2
  exact rowStep_inj hd he h1
theorem modD_good {x : Int} (h : goodD x) : modD x = x := by unfold goodD at h; unfold modD; omega
theorem nodeD_left {a b y : Int} (ha : goodD a) (hb : goodD b) (h : nodeD a y = nodeD b y) : a = b := by
  unfold nodeD at h
  rw [modD_good ha, modD_good hb, Int.add_assoc, Int.add_assoc] at h
  exact lin_inj ha hb h
theorem nodeD_right {a b x : Int} (ha : goodD a) (hb : goodD b) (h : nodeD x a = nodeD x b) : a = b := by
  unfold nodeD at h
  rw [modD_good ha, modD_good hb] at h
  unfold goodD at ha hb
  generalize modD x * 1000003 = m at h
  omega
theorem nodeD_good (a b : Int) : goodD (nodeD a b) := by have := nodeD_bd a b; unfold goodD; omega

theorem upD_set : ∀ (xs : List Int) (i : Nat) (b : Int), i < xs.length → (∀ x ∈ xs, goodD x) → goodD b →
    ∃ c, goodD c ∧ upD (xs.set i b) = (upD xs).set (i / 2) c ∧ (c = (upD xs)[i / 2]?.getD default → b = xs[i]?.getD default)
  | [], i, _, h, _, _ => by cases h
  | [x], 0, b, _, _, hb => ⟨b, hb, rfl, fun h => h⟩
  | [x], i + 1, _, h, _, _ => by simp at h
  | x :: y :: r, 0, b, _, hg, hb => ⟨nodeD b y, nodeD_good _ _, rfl, fun h => nodeD_left hb (hg x (by simp)) h⟩
  | x :: y :: r, 1, b, _, hg, hb => ⟨nodeD x b, nodeD_good _ _, rfl, fun h => nodeD_right hb (hg y (by simp)) h⟩
  | x :: y :: r, i + 2, b, h, hg, hb => by
    obtain ⟨c, h1, h2, h3⟩ := upD_set r i b (by simpa using h) (fun z hz => hg z (by simp [hz])) hb
    have e : (i + 2) / 2 = i / 2 + 1 := by omega
    refine ⟨c, h1, ?_, ?_⟩
    · show nodeD x y :: upD (r.set i b) = _
      rw [h2, e]
      rfl
    · rw [e]
      exact h3

theorem upD_good : ∀ (xs : List Int), (∀ x ∈ xs, goodD x) → ∀ x ∈ upD xs, goodD x
  | [], h => h
  | [x], h => h
  | x :: y :: r, h => fun z hz => by
    rcases List.mem_cons.1 hz with rfl | hz
    · exact nodeD_good _ _
    · exact upD_good r (fun w hw => h w (by simp [hw])) z hz

theorem rootD_inj (n : Nat) : ∀ (xs : List Int) (i : Nat) (b : Int), xs.length < n → i < xs.length → (∀ x ∈ xs, goodD x) → goodD b → rootD (xs.set i b) = rootD xs → b = xs[i]?.getD default := by
  induction n with
  | zero => intro xs i b h; omega
  | succ n ih =>
    intro xs i b hn hi hg hb h
    by_cases h2 : 2 ≤ xs.length
    · rw [rootD_up _ (by rw [List.length_set]; exact h2), rootD_up xs h2] at h
      obtain ⟨c, h3, h4, h5⟩ := upD_set xs i b hi hg hb
      rw [h4] at h
      have hl := upD_length xs
      exact h5 (ih (upD xs) (i / 2) c (by omega) (by omega) (upD_good xs hg) h3 h)
    · match xs, i, hi, h2 with
      | [x], 0, _, _ => exact h
      | x :: y :: r, _, _, h2 => simp at h2

theorem root_set {xs : List Int} {i : Nat} {b : Int} (hi : i < xs.length) (hg : ∀ x ∈ xs, goodD x) (hb : goodD b) : rootD (xs.set i b) = rootD xs ↔ b = xs[i]?.getD default := by
  refine ⟨rootD_inj (xs.length + 1) xs i b (by omega) hi hg hb, fun h => ?_⟩
  rw [h, List.getElem?_eq_getElem hi]
  simp

end Go.Q
