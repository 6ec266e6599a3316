/- The rules of structs, comparisons, parts of slices, closures: what is proved here holds of every program. -/
import Derived.Test.YtmapjpdgjefnoaaQOps3
set_option linter.unusedVariables false
set_option linter.unusedSimpArgs false
namespace Go.Q

variable {P : Program} {f : FuncId} {N : Nat} {I0 : Imm} {R : Ending → World → Prop} {g : G} {M : List Res} {k : List Item}
variable {dst : Option Tmp} {ty : TypeId} {pos : String} {after : Array Edge} {gd : Option (Nat × Bool)}

/-! ### Struct literals -/

def plOf (P : Program) (t : TypeId) : Option (List (Nat × Nat)) :=
  match P.underlying t with
  | some (.struct fs) => fs.toList.mapM fun f => (P.info? f.type).map fun i => (f.offset, i.size)
  | _ => none
/-- Where a struct's fields lie: offset and size. -/
class TyPl (P : Program) (t : TypeId) (pl : outParam (List (Nat × Nat))) : Prop where
  eq : plOf P t = some pl

inductive Fills (g : G) (pl : List (Nat × Nat)) : List (Nat × Operand) → List D → List D → Prop where
  | nil {zs : List D} : Fills g pl [] zs zs
  | one {i off : Nat} {x : Operand} {d : D} {ps : List (Nat × Operand)} {zs out : List D} [One d] : pl[i]? = some (off, 1) → opd g x = some d → Nat.blt off zs.length = true → Fills g pl ps (zs.set off d) out → Fills g pl ((i, x) :: ps) zs out
  | agg {i off n : Nat} {x : Operand} {ds : List D} {ps : List (Nat × Operand)} {zs out : List D} : pl[i]? = some (off, n) → opd g x = some (dAgg ds) → Nat.beq ds.length n = true → Nat.ble (off + n) zs.length = true →
      Fills g pl ps (zs.take off ++ ds ++ zs.drop (off + n)) out → Fills g pl ((i, x) :: ps) zs out

theorem Fills.run {pl : List (Nat × Nat)} {ps : List (Nat × Operand)} {zs out : List D} (h : Fills g pl ps zs out) {N : Nat} {I : Imm} {a : Act} (hs : Slots g N I a) :
    ∀ {ar : Array Value}, relL zs I ar.toList → ∃ ar', Instr.fill (pl.toArray[·]?) ar (ps.map fun p => (p.1, a.eval p.2)) = some ar' ∧ relL out I ar'.toList := by
  induction h with
  | nil => intro ar hr; exact ⟨ar, rfl, hr⟩
  | @one i off x d ps zs out ho hp hx hlt _ ih =>
    intro ar hr
    have hd := opd_sound hs hx
    have hc := (ho.one hd).1
    have hlt' : off < ar.size := by
      have h1 : off < zs.length := by simpa [Nat.blt_eq] using hlt
      rw [relL_length hr] at h1
      simpa using h1
    obtain ⟨ar', h1, h2⟩ := ih (ar := ar.setIfInBounds off (a.eval x)) (by simpa using relL_set hd off hr)
    refine ⟨ar', ?_, h2⟩
    simp only [List.map_cons, Instr.fill, List.getElem?_toArray, hp, hc]
    rw [if_neg (by simp; omega)]
    simpa using h1
  | @agg i off n x ds ps zs out hp hx hn hle _ ih =>
    intro ar hr
    obtain ⟨cs, hc, hd⟩ := opd_sound hs hx
    have hn' := Nat.eq_of_beq_eq_true hn
    have hcl : cs.size = n := by
      have := relL_length hd
      rw [hn'] at this
      simpa using this.symm
    have hle' : off + n ≤ ar.size := by
      have h1 := Nat.le_of_ble_eq_true hle
      rw [relL_length hr] at h1
      simpa using h1
    let ar1 := cs.zipIdx.foldl (fun (ar : Array Value) (p : Value × Nat) => ar.setIfInBounds (off + p.2) p.1) ar
    have har1 : ar1.toList = ar.toList.take off ++ cs.toList ++ ar.toList.drop (off + n) := by
      have e : ar1 = (cs.toList.zipIdx 0).foldl (fun (ar : Array Value) (p : Value × Nat) => ar.setIfInBounds (off + p.2) p.1) ar := by
        show cs.zipIdx.foldl _ ar = _
        rw [← Array.foldl_toList, Array.toList_zipIdx]
      rw [e, foldl_set cs.toList off ar 0 (by simpa [hcl] using hle')]
      simp [hcl]
    obtain ⟨ar', h1, h2⟩ := ih (ar := ar1) (by
      rw [har1]
      exact relL_append (relL_append (relL_take off hr) hd) (relL_drop (off + n) hr))
    refine ⟨ar', ?_, h2⟩
    have hcc : (Value.agg cs).cells = cs := rfl
    simp only [List.map_cons, Instr.fill, List.getElem?_toArray, hp, hc]
    rw [if_neg (by rw [hcc]; simp [hcl]; omega)]
    simp only [List.getElem?_toArray] at h1
    exact h1

theorem loc_build {t : TypeId} {pl : List (Nat × Nat)} [hpl : TyPl P t pl] {bytes : Nat} {zc : Array Value} [hz : TyZ P t bytes (.agg zc)] {ps : List (Nat × Operand)} {out : List D} (hf : Fills g pl ps (zeroDs (.agg zc)) out) :
    LocP P ⟨dst, .build t ps.toArray, ty, pos, after, gd⟩ g N M (dAgg out) :=
  locP_of_run fun I a w hs hi => by
    have hzr := zeroDs_rel I (.agg zc) (by simp)
    obtain ⟨ar', h1, h2⟩ := hf.run hs hzr
    refine ⟨.agg ar', ?_, _, rfl, h2⟩
    have h3 := hz.eq
    have h4 := hpl.eq
    cases hu : P.info? t with
    | none => simp [hu] at h3
    | some i =>
      simp only [hu, Option.map_some, Option.some.injEq, Prod.mk.injEq] at h3
      have hb : P.built t (ps.toArray.map fun (p : Nat × Operand) => (p.1, a.eval p.2)).toList = some ar' := by
        unfold Program.built
        unfold plOf at h4
        cases hun : P.underlying t with
        | none => simp [hun] at h4
        | some d =>
          cases d <;> simp only [hun] at h4 <;> try cases h4
          simp only [hu, h3.2, h4]
          simpa using h1
      simp only [execOp, Sem.run_bind, run_build w t _ _ hb, Result.andThen_ok]
      rfl

/-! ### Comparisons -/

section
variable {t t' : TypeId} {x y : Operand}

theorem run_eql_bool [ht : TyBool P t] (w : World) (b c : Bool) : (binOp .eql t (.bool b) (.bool c)).run P w = .ok (.bool (b == c)) w := by
  have h : (binOp .eql t (.bool b) (.bool c)).run P w = ((Op.equalIn 10000 t (.bool b) (.bool c)).run P w).andThen fun b w' => .ok (.bool b) w' := by
    simp only [binOp]
    simp [Op.equal, Op.maxDepth]
  rw [h, run_equalIn_bool' w 9999 t b c ht.eq]
  rfl
theorem run_neq_bool [ht : TyBool P t] (w : World) (b c : Bool) : (binOp .neq t (.bool b) (.bool c)).run P w = .ok (.bool (!(b == c))) w := by
  have h : (binOp .neq t (.bool b) (.bool c)).run P w = ((Op.equalIn 10000 t (.bool b) (.bool c)).run P w).andThen fun b w' => .ok (.bool (!b)) w' := by
    simp only [binOp]
    simp [Op.equal, Op.maxDepth]
  rw [h, run_equalIn_bool' w 9999 t b c ht.eq]
  rfl

theorem loc_eqlB [ht : TyBool P t] {p q : Prop} (hx : opd g x = some (dB p)) (hy : opd g y = some (dB q)) : LocP P ⟨dst, .binOp .eql t x y t', ty, pos, after, gd⟩ g N M (dB (p ↔ q)) :=
  locP_of_run fun I a w hs hi => by
    obtain ⟨b, hb, hp⟩ := opd_sound hs hx
    obtain ⟨c, hc, hq⟩ := opd_sound hs hy
    refine ⟨.bool (b == c), ?_, b == c, rfl, ?_⟩
    · have e : eqGuard .eql t x y (.bool b) (.bool c) = pure () := by unfold eqGuard; rfl
      simp only [execOp, hb, hc, e, Sem.run_bind, Sem.run_pure, Result.andThen_ok, run_eql_bool]
    · rw [← hp, ← hq]; cases b <;> cases c <;> simp
theorem loc_neqB [ht : TyBool P t] {p q : Prop} (hx : opd g x = some (dB p)) (hy : opd g y = some (dB q)) : LocP P ⟨dst, .binOp .neq t x y t', ty, pos, after, gd⟩ g N M (dB (¬ (p ↔ q))) :=
  locP_of_run fun I a w hs hi => by
    obtain ⟨b, hb, hp⟩ := opd_sound hs hx
    obtain ⟨c, hc, hq⟩ := opd_sound hs hy
    refine ⟨.bool (!(b == c)), ?_, !(b == c), rfl, ?_⟩
    · have e : eqGuard .neq t x y (.bool b) (.bool c) = pure () := by unfold eqGuard; rfl
      simp only [execOp, hb, hc, e, Sem.run_bind, Sem.run_pure, Result.andThen_ok, run_neq_bool]
    · rw [← hp, ← hq]; cases b <;> cases c <;> simp

theorem beq_bytes (s u : ByteArray) : (s == u) = true ↔ s = u := by
  rw [beq_toListBytes, beq_iff_eq, ByteArray.toList_eq, ByteArray.toList_eq]
  constructor
  · intro h
    obtain ⟨⟨a⟩⟩ := s
    obtain ⟨⟨b⟩⟩ := u
    simp at h
    subst h
    rfl
  · rintro rfl; rfl

theorem loc_eqlS {s u : ByteArray} (hx : opd g x = some (dStr s)) (hy : opd g y = some (dStr u)) : LocP P ⟨dst, .binOp .eql t x y t', ty, pos, after, gd⟩ g N M (dB (s = u)) :=
  locP_of_run fun I a w hs hi => by
    have hb : a.eval x = .string s := opd_sound hs hx
    have hc : a.eval y = .string u := opd_sound hs hy
    refine ⟨.bool (s == u), ?_, s == u, rfl, beq_bytes s u⟩
    have e : eqGuard .eql t x y (.string s) (.string u) = pure () := by unfold eqGuard; rfl
    simp [execOp, hb, hc, e, binOp, Op.stringOp]
    exact (beq_toListBytes s u).symm
theorem loc_neqS {s u : ByteArray} (hx : opd g x = some (dStr s)) (hy : opd g y = some (dStr u)) : LocP P ⟨dst, .binOp .neq t x y t', ty, pos, after, gd⟩ g N M (dB (s ≠ u)) :=
  locP_of_run fun I a w hs hi => by
    have hb : a.eval x = .string s := opd_sound hs hx
    have hc : a.eval y = .string u := opd_sound hs hy
    refine ⟨.bool (s != u), ?_, s != u, rfl, by
      have := beq_bytes s u
      unfold bne
      cases h : s == u <;> simp_all⟩
    have e : eqGuard .neq t x y (.string s) (.string u) = pure () := by unfold eqGuard; rfl
    simp [execOp, hb, hc, e, binOp, Op.stringOp]
    rw [← beq_toListBytes]
    unfold bne
    simp

/-- A struct of integers. -/
def eqIntFs (P : Program) : Nat → List Field → Bool
  | _, [] => true
  | j, fd :: fs => Nat.beq fd.offset j && !(fd.name == "_") && (match P.underlying fd.type with | some (.int _) => true | _ => false) && eqIntFs P (j + 1) fs
class TyEqI (P : Program) (t : TypeId) (n : outParam Nat) : Prop where
  is : (match P.underlying t with | some (.struct fs) => (fs.size, eqIntFs P 0 fs.toList) | _ => (0, false)) = (n, true)
  stood : P.stoodInHeld t = false
  guard : P.eqGuardType P.depth t = false

inductive IntsD : List D → List Int → Prop where
  | nil : IntsD [] []
  | cons {kd : IntKind} {m : Int} {ds : List D} {ms : List Int} : IntsD ds ms → IntsD (dInt kd m :: ds) (m :: ms)

/-- Two structs' cells that are integers of the same kinds. -/
def sameInts : List Value → List Value → Option (List Int × List Int)
  | [], [] => some ([], [])
  | .int k m :: vs, .int k' m' :: us => if k = k' then (sameInts vs us).map fun p => (m :: p.1, m' :: p.2) else none
  | _, _ => none

inductive IntsD2 : List D → List D → List Int → List Int → Prop where
  | nil : IntsD2 [] [] [] []
  | cons {kd : IntKind} {m m' : Int} {ds ds' : List D} {ms ms' : List Int} : IntsD2 ds ds' ms ms' → IntsD2 (dInt kd m :: ds) (dInt kd m' :: ds') (m :: ms) (m' :: ms')

theorem run_eqInts {w : World} {dp : Nat} {I : Imm} : ∀ {ds ds' : List D} {ms ms' : List Int}, IntsD2 ds ds' ms ms' → ∀ (fs : List Field) (j : Nat) (xs ys : Array Value), eqIntFs P j fs = true → fs.length = ds.length →
    relL ds I (xs.toList.drop j) → relL ds' I (ys.toList.drop j) → (Op.eqFields (dp + 1) xs ys fs).run P w = .ok (decide (ms = ms')) w := by
  intro ds ds' ms ms' h
  induction h with
  | nil =>
    intro fs j xs ys _ hl _ _
    cases fs with
    | nil => simp [Op.eqFields]
    | cons => simp at hl
  | @cons kd m m' ds ds' ms ms' _ ih =>
    intro fs j xs ys hf hl hx hy
    cases fs with
    | nil => simp at hl
    | cons fd fs =>
      simp only [eqIntFs, Bool.and_eq_true] at hf
      obtain ⟨⟨⟨h1, h2⟩, h3⟩, h4⟩ := hf
      have hoff := Nat.eq_of_beq_eq_true h1
      have hname : fd.name ≠ "_" := by simpa using h2
      cases hu : P.underlying fd.type with
      | none => simp [hu] at h3
      | some dd =>
        cases dd <;> simp [hu] at h3
        rename_i kk
        have hxc : ∃ r, xs.toList.drop j = .int kd m :: r ∧ relL ds I r := by
          cases hd : xs.toList.drop j with
          | nil => rw [hd] at hx; cases hx
          | cons v r => rw [hd] at hx; exact ⟨r, by rw [show v = _ from hx.1], hx.2⟩
        have hyc : ∃ r, ys.toList.drop j = .int kd m' :: r ∧ relL ds' I r := by
          cases hd : ys.toList.drop j with
          | nil => rw [hd] at hy; cases hy
          | cons v r => rw [hd] at hy; exact ⟨r, by rw [show v = _ from hy.1], hy.2⟩
        obtain ⟨rx, ex, hrx⟩ := hxc
        obtain ⟨ry, ey, hry⟩ := hyc
        have gx : xs[j]? = some (.int kd m) := by
          have : (xs.toList.drop j)[0]? = some (.int kd m) := by rw [ex]; rfl
          simpa using this
        have gy : ys[j]? = some (.int kd m') := by
          have : (ys.toList.drop j)[0]? = some (.int kd m') := by rw [ey]; rfl
          simpa using this
        have dx : xs.toList.drop (j + 1) = rx := by rw [← List.drop_drop, ex]; rfl
        have dy : ys.toList.drop (j + 1) = ry := by rw [← List.drop_drop, ey]; rfl
        have hag : (isAgg fd.type).run P w = .ok false w := by
          unfold isAgg
          simp only [Sem.run_bind, run_underlying hu, Result.andThen_ok]
          rfl
        have px : (part fd.type xs fd.offset).run P w = .ok (.int kd m) w := by simp [part, hag, hoff, gx]
        have py : (part fd.type ys fd.offset).run P w = .ok (.int kd m') w := by simp [part, hag, hoff, gy]
        simp only [Op.eqFields, if_pos hname, ne_eq, hname, not_false_eq_true, if_true, Sem.run_bind, px, py, Result.andThen_ok, run_equalIn_int w dp fd.type kd kk m m' hu, Sem.run_ite]
        by_cases hm : m = m'
        · subst hm
          simp only [beq_self_eq_true, Bool.not_true, Bool.false_eq_true, if_false]
          rw [ih fs (j + 1) xs ys h4 (by simpa using hl) (by rw [dx]; exact hrx) (by rw [dy]; exact hry)]
          simp
        · have hb : (m == m') = false := by simpa using hm
          simp [hb, hm]

theorem ints2_length : ∀ {ds ds' : List D} {ms ms' : List Int}, IntsD2 ds ds' ms ms' → ds.length = ds'.length
  | _, _, _, _, .nil => rfl
  | _, _, _, _, .cons h => congrArg (· + 1) (ints2_length h)

theorem run_eqAgg {n : Nat} (ht : TyEqI P t n) {ds ds' : List D} {ms ms' : List Int} {I : Imm} (hi : IntsD2 ds ds' ms ms') (hn : Nat.beq ds.length n = true) {cs cs' : Array Value} (h1 : relL ds I cs.toList) (h2 : relL ds' I cs'.toList) (w : World) :
    (Op.equalIn 10000 t (.agg cs) (.agg cs')).run P w = .ok (decide (ms = ms')) w := by
  have h3 := ht.is
  cases hu : P.underlying t with
  | none => simp [hu] at h3
  | some d =>
    cases d <;> simp [hu] at h3
    rename_i fs
    have hfo : P.fieldsOf t = fs := by unfold Program.fieldsOf; simp [hu]
    rw [run_equalIn_struct w 9999 t cs cs' (by rw [hfo]; exact hu) ht.stood, hfo]
    exact run_eqInts (dp := 9998) hi fs.toList 0 cs cs' h3.2 (by rw [Nat.eq_of_beq_eq_true hn, ← h3.1]; simp) (by simpa using h1) (by simpa using h2)

theorem loc_eqlI {n : Nat} [ht : TyEqI P t n] {ds ds' : List D} {ms ms' : List Int} (hx : opd g x = some (dAgg ds)) (hy : opd g y = some (dAgg ds')) (hi : IntsD2 ds ds' ms ms') (hn : Nat.beq ds.length n = true) : LocP P ⟨dst, .binOp .eql t x y t', ty, pos, after, gd⟩ g N M (dB (ms = ms')) :=
  locP_of_run fun I a w hs hinv => by
    obtain ⟨cs, hc, hd⟩ := opd_sound hs hx
    obtain ⟨cs', hc', hd'⟩ := opd_sound hs hy
    refine ⟨.bool (decide (ms = ms')), ?_, _, rfl, by simp⟩
    simp only [execOp, hc, hc', Sem.run_bind, run_eqGuard_agg w .eql t x y cs cs' ht.guard, Result.andThen_ok, run_eql_struct, run_eqAgg ht hi hn hd hd', Sem.run_pure]
theorem loc_neqI {n : Nat} [ht : TyEqI P t n] {ds ds' : List D} {ms ms' : List Int} (hx : opd g x = some (dAgg ds)) (hy : opd g y = some (dAgg ds')) (hi : IntsD2 ds ds' ms ms') (hn : Nat.beq ds.length n = true) : LocP P ⟨dst, .binOp .neq t x y t', ty, pos, after, gd⟩ g N M (dB (ms ≠ ms')) :=
  locP_of_run fun I a w hs hinv => by
    obtain ⟨cs, hc, hd⟩ := opd_sound hs hx
    obtain ⟨cs', hc', hd'⟩ := opd_sound hs hy
    refine ⟨.bool (!decide (ms = ms')), ?_, _, rfl, by simp⟩
    simp only [execOp, hc, hc', Sem.run_bind, run_eqGuard_agg w .neq t x y cs cs' ht.guard, Result.andThen_ok, run_neq_struct, run_eqAgg ht hi hn hd hd', Sem.run_pure]

/-! ### Conversions between integers -/

theorem loc_convW {s : TypeId} {k0 k1 : IntKind} [h1 : TyInt P s k0] [h2 : TyInt P t k1] {kd : IntKind} {m : Int} (hx : opd g x = some (dInt kd m)) : LocP P ⟨dst, .convert s t x, ty, pos, after, gd⟩ g N M (dInt k1 (k1.wrap m)) :=
  locP_of_run fun I a w hs hi => by
    have hc : a.eval x = .int kd m := opd_sound hs hx
    refine ⟨.int k1 (k1.wrap m), ?_, rfl⟩
    have hik : P.intKind t = k1 := by unfold Program.intKind; simp [h2.eq]
    have := run_convert_int (P := P) w s t kd m (by simp [h1.eq]) (by rw [hik]; exact h2.eq)
    rw [hik] at this
    simp only [execOp, hc, Sem.run_bind, this, Result.andThen_ok, Sem.run_pure]
theorem loc_conv {s : TypeId} {k0 : IntKind} [h1 : TyInt P s k0] [h2 : TyInt P t .i64] {kd : IntKind} {m : Int} (hx : opd g x = some (dInt kd m)) (h : -9223372036854775808 ≤ m ∧ m ≤ 9223372036854775807) : LocP P ⟨dst, .convert s t x, ty, pos, after, gd⟩ g N M (dInt .i64 m) :=
  (loc_convW hx).conv (by rw [IntWalk.i64_in _ h])

/-! ### Parts of slices -/

theorem dSl_part {α : Type} {n : Nat} {f' : α → List D} {xs : List α} {I : Imm} {a : Option Addr} {cap lo hi : Nat} (hlo : lo ≤ hi) (hhi : hi ≤ xs.length)
    (hcap : xs.length ≤ cap) (hm : cap ≤ maxLen) (hl : xs.length ≤ lenMax) (hel : ∀ i x, xs[i]? = some x → (f' x).length = n ∧ ∃ p, a = some p ∧ p.spot = none ∧ I.at (p.add (i * n)) (f' x)) :
    (dSl n f' ((xs.take hi).drop lo)).rel I (.slice (if cap = lo then a else a.map (·.add (lo * n))) (hi - lo) (cap - lo)) := by
  have hlen : ((xs.take hi).drop lo).length = hi - lo := by simp; omega
  refine ⟨_, _, by rw [hlen], by omega, by omega, by omega, fun i x hx => ?_⟩
  have hi' : i < hi - lo := by have := (List.getElem?_eq_some_iff.1 hx).1; omega
  rw [List.getElem?_drop, List.getElem?_take, if_pos (by omega)] at hx
  obtain ⟨h1, p, h2, h3, h4⟩ := hel (lo + i) x hx
  subst h2
  rw [if_neg (by omega)]
  refine ⟨h1, p.add (lo * n), rfl, ?_, ?_⟩
  · obtain ⟨b, o, s⟩ := p
    simp only at h3
    subst h3
    rw [Addr.add_lit]
  · have e : (p.add (lo * n)).add (i * n) = p.add ((lo + i) * n) := by
      obtain ⟨b, o, s⟩ := p
      simp only at h3
      subst h3
      rw [Addr.add_lit, Addr.add_lit, Addr.add_lit, Nat.add_mul, Nat.add_assoc]
    rw [e]
    exact h4

section
variable {e : TypeId} {n : Nat} {agg : Bool} {α : Type} {f' : α → List D} {xs : List α} {lo hi : Operand} {i j : Int} {kd kd' : IntKind}

/-- x[i:] -/
theorem loc_sliceFrom [ht : TySl P t e] [hv : TyV P e agg n] (hx : opd g x = some (dSl n f' xs)) (hy : opd g lo = some (dInt kd i)) (h : 0 ≤ i ∧ i ≤ xs.length) :
    LocP P ⟨dst, .slice t x (some lo) none none, ty, pos, after, gd⟩ g N M (dSl n f' (xs.drop i.toNat)) :=
  locP_of_run fun I a w hs hinv => by
    obtain ⟨b, cap, hp, h1, h2, h3, h4⟩ := opd_sound hs hx
    have hyv : a.eval lo = .int kd i := opd_sound hs hy
    have hr := dSl_part (lo := i.toNat) (hi := xs.length) (by omega) (Nat.le_refl _) h1 h2 h3 h4
    rw [List.take_length] at hr
    refine ⟨_, ?_, hr⟩
    simp [execOp, Instr.sliceAt, Instr.slice, hp, hyv, run_underlying ht.eq, Instr.sliceBounds, Instr.sliceBound, asIntOf, h, run_sizeOf hv]

/-- x[:j] -/
theorem loc_sliceTo [ht : TySl P t e] [hv : TyV P e agg n] (hx : opd g x = some (dSl n f' xs)) (hy : opd g hi = some (dInt kd j)) (h : 0 ≤ j ∧ j ≤ xs.length) :
    LocP P ⟨dst, .slice t x none (some hi) none, ty, pos, after, gd⟩ g N M (dSl n f' (xs.take j.toNat)) :=
  locP_of_run fun I a w hs hinv => by
    obtain ⟨b, cap, hp, h1, h2, h3, h4⟩ := opd_sound hs hx
    have hyv : a.eval hi = .int kd j := opd_sound hs hy
    have hr := dSl_part (lo := 0) (hi := j.toNat) (by omega) (by omega) h1 h2 h3 h4
    rw [List.drop_zero] at hr
    have hc : (0 ≤ j ∧ j ≤ (cap : Int)) := by omega
    refine ⟨_, ?_, hr⟩
    simp [execOp, Instr.sliceAt, Instr.slice, hp, hyv, run_underlying ht.eq, Instr.sliceBounds, Instr.sliceBound, asIntOf, hc, run_sizeOf hv]

/-- x[i:j] -/
theorem loc_slice [ht : TySl P t e] [hv : TyV P e agg n] (hx : opd g x = some (dSl n f' xs)) (hy : opd g lo = some (dInt kd i)) (hz : opd g hi = some (dInt kd' j)) (h : 0 ≤ i ∧ i ≤ j ∧ j ≤ xs.length) :
    LocP P ⟨dst, .slice t x (some lo) (some hi) none, ty, pos, after, gd⟩ g N M (dSl n f' ((xs.take j.toNat).drop i.toNat)) :=
  locP_of_run fun I a w hs hinv => by
    obtain ⟨b, cap, hp, h1, h2, h3, h4⟩ := opd_sound hs hx
    have hyv : a.eval lo = .int kd i := opd_sound hs hy
    have hzv : a.eval hi = .int kd' j := opd_sound hs hz
    have hr := dSl_part (lo := i.toNat) (hi := j.toNat) (by omega) (by omega) h1 h2 h3 h4
    have hc : (0 ≤ j ∧ j ≤ (cap : Int)) := by omega
    have hc2 : (0 ≤ i ∧ i ≤ max j 0) := by omega
    refine ⟨_, ?_, hr⟩
    simp [execOp, Instr.sliceAt, Instr.slice, hp, hyv, hzv, run_underlying ht.eq, Instr.sliceBounds, Instr.sliceBound, asIntOf, hc, hc2, run_sizeOf hv]

end
end

/-! ### Closures -/

/-- A function value of a known function, with what it has captured. -/
def dClo (f : FuncId) (ds : List D) : D := ⟨fun I v => ∃ cap : Array Value, v = .func (.func f) #[] cap ∧ relL ds I cap.toList, fun h ⟨c, e, r⟩ => ⟨c, e, relL_mono h r⟩⟩
instance (f : FuncId) (ds : List D) : One (dClo f ds) := ⟨fun ⟨_, h, _⟩ => by rw [h]; exact ⟨rfl, rfl⟩⟩

theorem toArray_app (vs : List Value) (cap : Array Value) : (vs ++ cap.toList).toArray = vs.toArray ++ cap := by
  apply Array.toList_inj.1
  simp

theorem loc_makeFunc {fn : FuncId} {xs : List Operand} {ds : List D} (hx : opds g xs = some ds) : LocP P ⟨dst, .makeFunc (.func fn) #[] xs.toArray, ty, pos, after, gd⟩ g N M (dClo fn ds) :=
  locP_of_run fun I a w hs hi => ⟨.func (.func fn) #[] (xs.map a.eval).toArray, by simp [execOp, Instr.makeFunc], _, rfl, by simpa using opds_sound hs hx⟩

/-- A function value that only computes: called with such arguments it gives such a result. -/
def dFun (P : Program) {ι : Type} (Ds : ι → List D) (d : ι → D) : D :=
  ⟨fun I v => ∃ fn cap, v = .func (.func fn) #[] cap ∧ TyFn P fn ∧ ∀ i (J : Imm) (M : List Res) (w : World) (vs : List Value), I.le J → relL (Ds i) J vs → Inv J M w →
      Calls P fn (vs.toArray ++ cap) w fun e w' => ∃ v, e = .returned v ∧ ∃ J', J.le J' ∧ (d i).rel J' v ∧ Inv J' M w',
   fun h ⟨fn, cap, e, h1, h2⟩ => ⟨fn, cap, e, h1, fun i J' M w vs hle => h2 i J' M w vs (h.trans hle)⟩⟩
instance {ι : Type} (Ds : ι → List D) (d : ι → D) : One (dFun P Ds d) := ⟨fun ⟨_, _, h, _⟩ => by rw [h]; exact ⟨rfl, rfl⟩⟩

theorem clo_fun {fn : FuncId} {ι : Type} {Cs : List D} {Ds : ι → List D} {d : ι → D} [hf : TyFn P fn] (h : ∀ i, SpecP P fn (Ds i ++ Cs) (d i)) : ∀ I v, (dClo fn Cs).rel I v → (dFun P Ds d).rel I v := by
  rintro I v ⟨cap, rfl, hr⟩
  refine ⟨fn, cap, rfl, hf, fun i J M w vs hle hv hi => ?_⟩
  have := h i J M w (vs ++ cap.toList) (relL_append hv (relL_mono hle hr)) hi
  rwa [toArray_app] at this

/-- A named function as a value. -/
theorem val_fun {fn : FuncId} {ι : Type} {Ds : ι → List D} {d : ι → D} [hf : TyFn P fn] (h : ∀ i, SpecP P fn (Ds i) (d i)) : ∀ I v, (dVal (.func (.func fn) #[] #[])).rel I v → (dFun P Ds d).rel I v := by
  rintro I v rfl
  refine ⟨fn, #[], rfl, hf, fun i J M w vs hle hv hi => ?_⟩
  have := h i J M w vs hv hi
  simpa using this

/-- A call of a function value. -/
theorem loc_callFun {c : Operand} {xs : List Operand} {ats : Array TypeId} {ι : Type} {Ds : ι → List D} {d : ι → D} (i : ι) (hc : opd g c = some (dFun P Ds d)) (hx : opds g xs = some (Ds i)) :
    LocP P ⟨dst, .call ⟨.value c, xs.toArray, ats⟩, ty, pos, after, gd⟩ g N M (d i) := by
  constructor
  intro I a w K Q hsl hi hK
  obtain ⟨fn, cap, hcv, hf, h⟩ := opd_sound hsl hc
  unfold Oper.wp
  rw [execOp_call_slot hcv, run_callFunc hf]
  refine Calls.mono (h i I M w _ I.le_refl (opds_sound hsl hx) hi) ?_
  rintro e w' ⟨v, rfl, J, h1, h2, h3⟩
  exact hK v w' J h1 h2 h3

/-- A call of a closure whose function is known. -/
theorem loc_callClo {fn : FuncId} [hf : TyFn P fn] {c : Operand} {xs : List Operand} {ats : Array TypeId} {Cs Ds : List D} {d : D} (hs : SpecP P fn (Ds ++ Cs) d) (hc : opd g c = some (dClo fn Cs)) (hx : opds g xs = some Ds) :
    LocP P ⟨dst, .call ⟨.value c, xs.toArray, ats⟩, ty, pos, after, gd⟩ g N M d := by
  constructor
  intro I a w K Q hsl hi hK
  obtain ⟨cap, hcv, hcr⟩ := opd_sound hsl hc
  unfold Oper.wp
  rw [execOp_call_slot hcv, run_callFunc hf]
  have := hs I M w _ (relL_append (opds_sound hsl hx) hcr) hi
  rw [toArray_app] at this
  refine Calls.mono this ?_
  rintro e w' ⟨v, rfl, J, h1, h2, h3⟩
  exact hK v w' J h1 h2 h3

/-! ### make -/

theorem relL_replicate {I : Imm} {d : D} {v : Value} (h : d.rel I v) : ∀ m, relL (List.replicate m d) I (List.replicate m v)
  | 0 => trivial
  | m + 1 => ⟨h, relL_replicate h m⟩

theorem loc_makeSlice {t e : TypeId} [ht : TySl P t e] {bytes : Nat} {z : Value} [hz : TyZ P e bytes z] [hv : TyV P e false 1] {x y : Operand} {m : Int} (hx : opd g x = some (dInt .i64 m)) (hy : opd g y = some (dInt .i64 m)) (hm : 0 ≤ m ∧ m ≤ 17592186044416) (hb : m * bytes ≤ 281474976710656)
    {α : Type} (d : α → D) (e0 : α) (he : zeroDs z = [d e0]) (hzt : ∀ vs, z ≠ .tuple vs) :
    LocM P ⟨dst, .makeSlice t x y, ty, pos, after, gd⟩ g N [] (fun _ : Nat => True) (fun b => dVal (.slice (some ⟨b, 0, none⟩) m.toNat m.toNat)) (fun b => [rRow (.slice (some ⟨b, 0, none⟩) m.toNat m.toNat) e 1 (fun e => [d e]) (List.replicate m.toNat e0)]) := by
  constructor
  intro F I a w K Q hs hi hK
  have hxv : a.eval x = .int .i64 m := opd_sound hs hx
  have hyv : a.eval y = .int .i64 m := opd_sound hs hy
  obtain ⟨i, hin, hiz, his, hib⟩ := info_of_z hz hv
  have hzr := zeroDs_rel I z hzt
  rw [he] at hzr
  obtain ⟨z0, hz0⟩ : ∃ z0, z.cells.toList = [z0] := by
    have := relL_length hzr
    cases hc : z.cells.toList with
    | nil => rw [hc] at this; simp at this
    | cons z0 r =>
      rw [hc] at this
      cases r with
      | nil => exact ⟨z0, rfl⟩
      | cons => simp at this
  rw [hz0] at hzr
  have hzc : z.cells = #[z0] := by apply Array.toList_inj.1; simpa using hz0
  have hw : IntKind.i64.wrap m = m := IntWalk.i64_in _ (by omega)
  let ar : Array Value := (Array.range (m.toNat * 1)).map ((if m.toNat * 1 = 0 then #[] else z.cells)[· % (if m.toNat * 1 = 0 then #[] else z.cells).size]!)
  have har : ar.toList = List.replicate m.toNat z0 := by
    by_cases h0 : m.toNat = 0
    · simp [ar, h0]
    · simp only [ar, Nat.mul_one, if_neg h0, hzc]
      apply List.ext_getElem
      · simp
      · intro j h1 h2
        simp [Nat.mod_one]
  have hrun : (execOp a.eval ⟨dst, .makeSlice t x y, ty, pos, after, gd⟩).run P w = .ok (.value (.slice (some ⟨w.heap.size, 0, none⟩) m.toNat m.toNat)) (w.alloc (.cells ar e)) := by
    have hb' : ¬ (281474976710656 < (bytes : Int) * m) := by rw [Int.mul_comm]; omega
    have hm0 : ¬ (m < 0) := by omega
    have hask : ∀ n, (askRoom n).run P w = .ok () w := by intro n; unfold askRoom; split <;> rfl
    by_cases h0 : m.toNat = 0
    · simp [execOp, Instr.makeSlice, hxv, hyv, asInt, asIntOf, run_underlying ht.eq, typeInfo, hin, hib, hw, hb', hm0, hask, run_sizeOf hv, h0, newRow, ar]
    · simp [execOp, Instr.makeSlice, hxv, hyv, asInt, asIntOf, run_underlying ht.eq, typeInfo, zeroValue, hin, hiz, hib, hw, hb', hm0, hask, run_sizeOf hv, h0, newRow, ar]
  unfold Oper.wp
  rw [hrun]
  refine hK w.heap.size _ _ I trivial I.le_refl rfl (hi.allocOwn _ _ rfl ⟨w.heap.size, m.toNat, ar, by simp, rfl, by simp [ar], by simp, by simp only [maxLen]; omega, by unfold lenMax; simp; omega, fun _ _ => rfl, ?_⟩)
  rw [flatMap_single, List.map_replicate, har]
  simp only [List.length_replicate, Nat.mul_one]
  have := relL_replicate hzr.1 m.toNat
  rwa [List.take_of_length_le (by simp)]

end Go.Q
