/- Plain mathematics of full servers: no program in sight. -/
import Derived.Test.YtjcbhnlcbdmlfaaQPlainV
import Derived.Test.YtjcbhnlcbdmlfaaQWalk
import Derived.Test.YtjcbhnlcbdmlfaaQBy
set_option linter.unusedVariables false
set_option linter.unusedSimpArgs false
namespace Go.Q
open Classical

theorem atV_at {v : Srv} {n : Int} {k : Nat} (hk : k ≤ v.versions.length) (h1 : ∀ a, a < k → (v.versions[a]?.getD default).head.number < n) (h2 : ∀ a, k ≤ a → a < v.versions.length → n ≤ (v.versions[a]?.getD default).head.number) : atV v n = k := by
  unfold atV bsF
  exact bsGo_at (Nat.zero_le _) (Nat.zero_le _) hk (fun a ha => cmpI_neg.2 (h1 a ha)) (fun a ha hb h => by have := cmpI_neg.1 h; have := h2 a ha hb; omega)
theorem atV_le (v : Srv) (n : Int) : atV v n ≤ v.versions.length := by unfold atV bsF; exact (bsGo_le _ _ _ (Nat.zero_le _)).2

def s12 : Schm := ⟨1, 2, 0, 0⟩
theorem s12_shape : shapeS s12 := ⟨⟨by unfold s12; simp only; omega, by unfold s12; simp only; omega⟩, .inl ⟨rfl, rfl, rfl⟩⟩
theorem s12_valid : validS s12 7 := ⟨s12_shape, okP_7, .inl rfl⟩
theorem s12_new : newSE 1 s12 = 0 ∧ newS 1 s12 = ⟨1, s12, True, [], []⟩ := by
  have e : newSE 1 s12 = 0 := by unfold newSE; rw [if_neg (Classical.not_not.2 s12_shape), if_neg (by unfold s12; simp only; omega)]
  exact ⟨e, by unfold newS; rw [if_pos e]⟩
theorem s12_hold {t : Tab} (ht : checkT t = 0) (hp : t.p = 7) : hldE s12 t 1 = 0 ∧ hldL s12 t 1 = t.rows := by
  have hv : validS s12 t.p := hp ▸ s12_valid
  have hj : 1 ≤ (1 : Int) ∧ (1 : Int) ≤ s12.servers := by unfold s12; simp only; omega
  have h3 : ¬ s12.kind = 3 := by unfold s12; simp only; omega
  unfold hldE hldL
  rw [if_neg (Classical.not_not.2 ht), if_neg (Classical.not_not.2 hv), if_neg (Classical.not_not.2 hj), if_neg h3, if_neg (hld_no ht hv hj), if_neg h3]
  exact ⟨rfl, rfl⟩
def fullT (k : Int) : Tab := ⟨k, 7, 1, [[1]]⟩
theorem fullT_ok {k : Int} (h : 1 ≤ k ∧ k ≤ 99) : checkT (fullT k) = 0 :=
  checkT_zero (t := fullT k) ⟨h.1, by show k < 2147483647; omega⟩ okP_7 (by unfold fullT; simp only; omega) (by unfold fullT; simp) (fun r hr => by
    unfold fullT at hr ⊢
    rw [List.mem_singleton.1 hr]
    exact ⟨rfl, fun x hx => by rw [List.mem_singleton.1 hx]; unfold hasP; simp only; omega⟩)
def fullH (k : Nat) : Held := ⟨⟨(k : Int) + 1, 7, 1, 1, rootD [rowD [1]]⟩, [[1]]⟩
def fullV (i j : Nat) : Srv := ⟨1, s12, True, (List.range i).map fullH, (List.range j).map fun (r : Nat) => ⟨r, 0, 1, [1], []⟩⟩
theorem fullV_ver {i j a : Nat} (h : a < i) : (fullV i j).versions[a]?.getD default = fullH a := by
  show ((List.range i).map fullH)[a]?.getD default = _
  rw [List.getElem?_map, List.getElem?_range h]; rfl
theorem fullV_vlen (i j : Nat) : (fullV i j).versions.length = i := by simp [fullV]
theorem fullV_jlen (i j : Nat) : (fullV i j).jobs.length = j := by simp [fullV]
theorem fullV_at {i j : Nat} {n : Int} (h : (i : Int) < n) : atV (fullV i j) n = i := by
  have hl := fullV_vlen i j
  refine atV_at (by omega) (fun a ha => ?_) (fun a ha hb => by omega)
  rw [fullV_ver ha]; show (a : Int) + 1 < n; omega
theorem fullV_one {i j : Nat} (h : 1 ≤ i) : atV (fullV i j) 1 = 0 ∧ thereV (fullV i j) 1 ∧ heldV (fullV i j) 1 = fullH 0 := by
  have hl := fullV_vlen i j
  have e : atV (fullV i j) 1 = 0 := atV_at (Nat.zero_le _) (fun a ha => by omega) (fun a _ hb => by rw [fullV_ver (by omega)]; show (1 : Int) ≤ (a : Int) + 1; omega)
  refine ⟨e, ⟨by omega, ?_⟩, ?_⟩
  · rw [e, fullV_ver (by omega)]; rfl
  · unfold heldV; rw [e, fullV_ver (by omega)]
theorem load_full {i : Nat} {k : Int} (hi : i ≤ 16) (hk : (i : Int) < k ∧ k ≤ 99) : loadE (fullV i 0) (fullT k) = if i ≥ 16 then 4 else 0 := by
  have ht := fullT_ok (k := k) (by omega)
  have hl := fullV_vlen i 0
  have ha := fullV_at (i := i) (j := 0) hk.1
  have hno : ¬ thereV (fullV i 0) k := fun h => by have := h.1; omega
  unfold loadE
  rw [if_neg (Classical.not_not.2 (show (fullV i 0).up from trivial)), if_neg (Classical.not_not.2 ht), if_neg (Classical.not_not.2 (show validS (fullV i 0).scheme (fullT k).p from s12_valid)), if_neg (show ¬ (fullT k).rows.length = 0 by unfold fullT; simp), if_neg (show ¬ thereV (fullV i 0) (fullT k).number from hno), hl]
  split
  · rfl
  · exact (s12_hold ht rfl).1
theorem load_step {i : Nat} (hi : i < 16) : loadE (fullV i 0) (fullT ((i : Int) + 1)) = 0 ∧ loadV (fullV i 0) (fullT ((i : Int) + 1)) = fullV (i + 1) 0 := by
  have ht := fullT_ok (k := (i : Int) + 1) (by omega)
  have e := load_full (i := i) (k := (i : Int) + 1) (by omega) (by omega)
  rw [if_neg (by omega)] at e
  refine ⟨e, ?_⟩
  have ha := fullV_at (i := i) (j := 0) (n := (i : Int) + 1) (by omega)
  have hl := fullV_vlen i 0
  have h1 : (fullT ((i : Int) + 1)).number = (i : Int) + 1 := rfl
  have h2 : hldL (fullV i 0).scheme (fullT ((i : Int) + 1)) (fullV i 0).id = [[1]] := (s12_hold ht rfl).2
  have h3 : headT (fullT ((i : Int) + 1)) = (fullH i).head := by rw [head_ok ht]; rfl
  unfold loadV
  rw [if_pos e, h1, ha, h2, h3, List.take_of_length_le (by omega), List.drop_eq_nil_of_le (by omega), List.append_nil]
  unfold fullV
  rw [List.range_succ, List.map_append]
  rfl
def fullN (r : Int) : Nte := ⟨1, r, 0, 1, 1, [1], [], 0⟩
theorem ask_full {i j : Nat} {r : Int} (hi : 1 ≤ i) (hj : j ≤ 32) (hr : (j : Int) ≤ r) : askE (fullV i j) (fullN r) = if j ≥ 32 then 4 else 0 := by
  obtain ⟨h1, h2, h3⟩ := fullV_one (j := j) hi
  have hl := fullV_jlen i j
  unfold askE
  rw [if_neg (Classical.not_not.2 (show (fullV i j).up from trivial)), if_neg (by unfold fullN fullV; simp), if_neg (Classical.not_not.2 (show thereV (fullV i j) (fullN r).version from h2)), show heldV (fullV i j) (fullN r).version = fullH 0 from h3,
    if_neg (by
      rintro (h | h)
      · exact h rfl
      · exact h ⟨okP_7, fun x hx => by rw [List.mem_singleton.1 hx]; exact ⟨by omega, by show (1 : Int) < 7; omega⟩⟩),
    if_neg (by
      rintro ⟨b, hb, h4, _⟩
      obtain ⟨q, hq, rfl⟩ := List.mem_map.1 hb
      have := List.mem_range.1 hq
      have h5 : (q : Int) = r := h4
      omega), hl]
theorem ask_step {i j : Nat} (hi : 1 ≤ i) (hj : j < 32) : askE (fullV i j) (fullN j) = 0 ∧ askV (fullV i j) (fullN j) = fullV i (j + 1) := by
  have e := ask_full (i := i) (j := j) (r := j) hi (by omega) (Int.le_refl _)
  rw [if_neg (by omega)] at e
  refine ⟨e, ?_⟩
  unfold askV
  rw [if_pos e]
  unfold fullV
  rw [List.range_succ, List.map_append]
  rfl
theorem drop_busy {i j : Nat} (hi : 1 ≤ i) (hj : 1 ≤ j) : dropE (fullV i j) 1 = 45 := by
  obtain ⟨h1, h2, h3⟩ := fullV_one (j := j) hi
  unfold dropE
  rw [if_neg (Classical.not_not.2 (show (fullV i j).up from trivial)), if_neg (Classical.not_not.2 h2), if_pos]
  exact ⟨⟨((0 : Nat) : Int), 0, 1, [1], []⟩, List.mem_map.2 ⟨0, List.mem_range.2 hj, rfl⟩, rfl⟩
end Go.Q

namespace Go.Q
variable {P : Program} {N : Nat} {g : G} {M : List Res}
variable {dst : Tmp} {ty : TypeId} {pos : String} {after : Array Edge} {gd : Option (Nat × Bool)} {x y : Operand}

/-- A new block that becomes a row that no longer changes. -/
theorem LocM.frzB {o : Oper} {T n : Nat} {α : Type} {f' : α → List D} {xs : List α} {Fv : Nat → Value} {r : Nat → Res} (h : LocM P o g N [] (fun _ : Nat => True) (fun b => dVal (Fv b)) (fun b => [r b]))
    (hr : ∀ b I F w, Inv I (r b :: F) w → Inv I (rRow (Fv b) T n f' xs :: F) w) : LocP P o g N M (dSl n f' xs) := by
  constructor
  intro I a w K Q hs hi hK
  refine h.go M I a w K Q hs hi fun v u w' J _ h1 h2 h3 => ?_
  obtain ⟨J', h4, h5, h6⟩ := row_freeze (hr _ _ _ _ h3)
  refine hK u w' J' (h1.trans h4) ?_ h6
  rw [show u = Fv v from h2]
  exact h5
theorem loc_makeFrz {t e : TypeId} [ht : TySl P t e] {bytes : Nat} {z : Value} [hz : TyZ P e bytes z] [hv : TyV P e false 1] {m : Int} (hx : opd g x = some (dInt .i64 m)) (hy : opd g y = some (dInt .i64 m)) (hm : 0 ≤ m ∧ m ≤ 17592186044416) (hb : m * bytes ≤ 281474976710656)
    {α : Type} (d : α → D) (e0 : α) (he : zeroDs z = [d e0]) (hzt : ∀ vs, z ≠ .tuple vs) : LocP P ⟨some dst, .makeSlice t x y, ty, pos, after, gd⟩ g N M (dSl 1 (fun e => [d e]) (List.replicate m.toNat e0)) :=
  (loc_makeSlice hx hy hm hb d e0 he hzt).frzB (fun b I F w h => h)
theorem inv_bufUp {b T n : Nat} {els els' : List (List D)} {I : Imm} {F : List Res} {w : World} (h2 : Inv I (rBuf b T n els :: F) w) (hl : ∀ e ∈ els', e.length = n) (hup : ∀ J vs, relL els.flatten J vs → relL els'.flatten J vs) : Inv I (rBuf b T n els' :: F) w := by
  refine ⟨h2.os, h2.tape, h2.output, h2.imm, fun r hr => ?_, h2.apart⟩
  rcases List.mem_cons.1 hr with rfl | hr
  · obtain ⟨hb, o, h3, cs, h4, h5, h6⟩ := h2.own _ (List.mem_cons_self ..)
    exact ⟨hb, o, h3, cs, h4, hl, hup _ _ h6⟩
  · exact h2.own r (List.mem_cons_of_mem _ hr)
theorem loc_makeFrzN {t e n : Nat} {ag : Bool} [ht : TySl P t e] {bytes : Nat} {z : Value} [hz : TyZ P e bytes z] [hv : TyV P e ag n] {k : Int} {m : Nat} (hx : opd g x = some (dInt .i64 k)) (hy : opd g y = some (dInt .i64 k)) (hk : k = (m : Nat)) (hm : 0 < m ∧ m ≤ 17592186044416) (hb : (m : Int) * bytes ≤ 281474976710656)
    (hl : Nat.beq (zeroDs z).length n = true) (h0 : 0 < n) (hzt : ∀ vs, z ≠ .tuple vs) {α : Type} (f' : α → List D) (e0 : α) (hup : ∀ J vs, relL (zeroDs z) J vs → relL (f' e0) J vs) (hfl : (f' e0).length = n) :
    LocP P ⟨some dst, .makeSlice t x y, ty, pos, after, gd⟩ g N M (dSl n f' (List.replicate m e0)) := by
  subst hk
  have hml : m ≤ maxLen ∧ m ≤ lenMax := by unfold maxLen lenMax; omega
  refine (loc_makeSliceN hx hy hm hb hl h0 hzt).frzB (T := e) (fun b I F w h => ?_)
  have h1 := inv_bufUp (els' := (List.replicate m e0).map f') h (fun q hq => by obtain ⟨_, hr, rfl⟩ := List.mem_map.1 hq; rw [List.eq_of_mem_replicate hr]; exact hfl) (by
    rw [List.map_replicate]
    exact fun J vs hv => relL_repUp hup (by rw [hfl]; exact Nat.eq_of_beq_eq_true hl) m J vs hv)
  exact inv_shut h1 (els' := []) (by simp) (by simp) (by simp) hml.1 (by simpa using hml.2)
/-- An element-wise weaker row. -/
theorem d_slUp {α β : Type} {n : Nat} {f : α → List D} {h : β → List D} {xs : List α} {ys : List β} (hl : xs.length = ys.length) (he : ∀ (i : Nat) (x : α) (y : β), xs[i]? = some x → ys[i]? = some y → (h y).length = n ∧ ∀ I vs, relL (f x) I vs → relL (h y) I vs) : ∀ I v, (dSl n f xs).rel I v → (dSl n h ys).rel I v := by
  rintro I v ⟨a, cap, e, h1, h2, h3, h4⟩
  refine ⟨a, cap, by rw [e, hl], by omega, h2, by omega, fun i y hy => ?_⟩
  have hi : i < ys.length := (List.getElem?_eq_some_iff.1 hy).1
  have hx : xs[i]? = some (xs[i]'(by omega)) := List.getElem?_eq_getElem (by omega)
  obtain ⟨h5, p, h6, h7, h8⟩ := h4 i _ hx
  obtain ⟨h9, h10⟩ := he i _ _ hx hy
  refine ⟨h9, p, h6, h7, ?_⟩
  obtain ⟨h11, cs, T, fz, h12, h13⟩ := h8
  exact ⟨h11, cs, T, fz, h12, by rw [show (h y).length = (f xs[i]).length from h9.trans h5.symm]; exact h10 _ _ h13⟩
end Go.Q

namespace Go.Q
variable {P : Program} {f : FuncId}

theorem relL_swap {v : Value} {d : D} {B : List D} {J J' : Imm} (hle : J.le J') (hd : d.rel J' v) : ∀ {A : List D} {vs : List Value}, relL (A ++ dSlV v :: B) J vs → relL (A ++ d :: B) J' vs
  | [], [], h => h.elim
  | [], u :: us, h => by
    obtain ⟨⟨e, _⟩, h2⟩ := h
    subst e
    exact ⟨hd, relL_mono hle h2⟩
  | a :: A, [], h => h.elim
  | a :: A, u :: us, h => ⟨D.mono _ hle h.1, relL_swap hle hd (A := A) h.2⟩

variable {Ds : List D} {Min : List Res} {A : List D} {T1 n1 T2 n2 : Nat} {α β : Type} {f1 : α → List D} {f2 : β → List D} {xs1 : List α} {xs2 : List β}
theorem spec_frzB (h : Spec P f Ds Min (σ := Value × Value) (fun _ => True) (fun s => dAgg (A ++ [dSlV s.1, dSlV s.2])) (fun s => [rRow s.1 T1 n1 f1 xs1, rRow s.2 T2 n2 f2 xs2])) :
    Spec P f Ds Min (σ := Value) (fun _ => True) (fun v => dAgg (A ++ [dSlV v, dSl n2 f2 xs2])) (fun v => [rRow v T1 n1 f1 xs1]) := by
  intro I F w vs hv hi
  refine (h I F w vs hv hi).mono ?_
  rintro e w' ⟨v, rfl, s, _, J, h1, ⟨cs, rfl, h2⟩, h3⟩
  obtain ⟨J', h4, h5, h6⟩ := row_freeze (h3.perm (List.Perm.swap ..))
  refine ⟨_, rfl, s.1, trivial, J', h1.trans h4, ⟨cs, rfl, ?_⟩, h6⟩
  have := relL_swap (A := A ++ [dSlV s.1]) (B := []) h4 h5 (by simpa using h2)
  simpa using this
theorem spec_frzA (h : Spec P f Ds Min (σ := Value × Value) (fun _ => True) (fun s => dAgg (A ++ [dSlV s.1, dSlV s.2])) (fun s => [rRow s.1 T1 n1 f1 xs1, rRow s.2 T2 n2 f2 xs2])) :
    Spec P f Ds Min (σ := Value) (fun _ => True) (fun v => dAgg (A ++ [dSl n1 f1 xs1, dSlV v])) (fun v => [rRow v T2 n2 f2 xs2]) := by
  intro I F w vs hv hi
  refine (h I F w vs hv hi).mono ?_
  rintro e w' ⟨v, rfl, s, _, J, h1, ⟨cs, rfl, h2⟩, h3⟩
  obtain ⟨J', h4, h5, h6⟩ := row_freeze h3
  exact ⟨_, rfl, s.2, trivial, J', h1.trans h4, ⟨cs, rfl, relL_swap (A := A) (B := [dSlV s.2]) h4 h5 h2⟩, h6⟩
theorem spec_frzC (h : Spec P f Ds [] (σ := Value) (fun _ => True) (fun v => dAgg (A ++ [dSlV v, dSl n2 f2 xs2])) (fun v => [rRow v T1 n1 f1 xs1])) : SpecP P f Ds (dAgg (A ++ [dSl n1 f1 xs1, dSl n2 f2 xs2])) := by
  intro I F w vs hv hi
  refine (h I F w vs hv hi).mono ?_
  rintro e w' ⟨v, rfl, s, _, J, h1, ⟨cs, rfl, h2⟩, h3⟩
  obtain ⟨J', h4, h5, h6⟩ := row_freeze h3
  exact ⟨_, rfl, J', h1.trans h4, ⟨cs, rfl, relL_swap (A := A) (B := [dSl n2 f2 xs2]) h4 h5 h2⟩, h6⟩
theorem els_get {α : Type} [Inhabited α] {xs : List α} {f' : α → List D} {r : List (List D)} {q i : Nat} (h : i < xs.length) (hq : q = i) : (xs.map f' ++ r)[q]? = some (f' (xs[i]?.getD default)) := by
  subst hq
  rw [List.getElem?_append_left (by simpa using h), List.getElem?_map, List.getElem?_eq_getElem h]
  rfl
theorem els_same {α : Type} [Inhabited α] {xs : List α} {f' : α → List D} {r : List (List D)} {q i : Nat} {e : List D} (h : i < xs.length) (hq : q = i) (he : e = f' (xs[i]?.getD default)) : (xs.map f' ++ r).set q e = xs.map f' ++ r := by
  subst hq he
  have h2 : q < (xs.map f' ++ r).length := by simp; omega
  refine List.ext_getElem? fun j => ?_
  rw [List.getElem?_set]
  split
  · rename_i e; subst e; try rw [if_pos h2]
    exact (els_get h rfl).symm
  · rfl
theorem spec_rowV {φ : Value → Prop} {xs : List α} (h : Spec P f Ds Min (σ := Value) φ (fun v => dVal v) (fun v => [rRow v T1 n1 f1 xs])) : Spec P f Ds Min (σ := Value) φ (fun v => dSlV v) (fun v => [rRow v T1 n1 f1 xs]) := by
  intro I F w vs hv hi
  refine (h I F w vs hv hi).mono ?_
  rintro e w' ⟨v, rfl, s, hφ, J, h1, h2, h3⟩
  refine ⟨_, rfl, s, hφ, J, h1, ⟨h2, ?_⟩, h3⟩
  rw [show v = s from h2]
  rcases row_cases h3 with ⟨h4, _⟩ | ⟨b', cap, cs', h4, _⟩
  · exact ⟨_, _, _, h4⟩
  · exact ⟨_, _, _, h4⟩
/-- A row whose element at i is replaced by what it is. -/
theorem set_self {α : Type} [Inhabited α] {xs : List α} {i : Nat} (h : i < xs.length) : xs.set i (xs[i]?.getD default) = xs := by
  refine List.ext_getElem? fun j => ?_
  rw [List.getElem?_set]
  split
  · rename_i e; subst e; try rw [if_pos h]
    rw [List.getElem?_eq_getElem h]; rfl
  · rfl
end Go.Q

namespace Go.Q
open Go.Proofs

open Classical
/-- Sizes that the model can hold. -/
def szSrv (v : Srv) : Prop := v.versions.length ≤ 1000 ∧ v.jobs.length ≤ 1000 ∧ (∀ h ∈ v.versions, h.rows.length ≤ 100000 ∧ ∀ r ∈ h.rows, r.length ≤ 100000) ∧ ∀ j ∈ v.jobs, j.query.length ≤ 100000 ∧ j.got.length ≤ 100000
theorem d_toSrv {d : D} {t t' : Srv} (e : t = t') (h : ∀ I v, d.rel I v → (dSrv t').rel I v) : ∀ I v, d.rel I v → (dSrv t).rel I v := e ▸ h
theorem d_toNte {d : D} {t t' : Nte} (e : t = t') (h : ∀ I v, d.rel I v → (dNte t').rel I v) : ∀ I v, d.rel I v → (dNte t).rel I v := e ▸ h
theorem snew_spec (id : Int) (s : Schm) : SpecP Try.prog 7 [dInt .i64 id, dSchm s] (dTup [dSrv (newS id s), dInt .i64 (newSE id s)]) := by
  refine specP_of_body Try.func7 rfl rfl (fun I M => ?_)
  refine run_seq ?_
  refine run_region ?_
  refine run_op (loc_boxN rfl) rfl ?_
  refine run_new (loc_allocOwn (by simp)) rfl (fun b1 _ => ?_)
  refine run_op (loc_assign rfl) rfl ?_
  refine run_nil ?_
  refine run_seq ?_
  refine run_block ?_
  refine run_seq ?_
  refine run_region ?_
  refine run_op (loc_loadN rfl rfl) rfl ?_
  refine run_op (loc_call (shape_spec _) rfl) rfl ?_
  refine run_op (loc_not rfl) rfl ?_
  refine run_op (loc_assign rfl) rfl ?_
  refine run_nil ?_
  refine run_cond rfl (fun h2 => ?_) (fun h2 => ?_)
  ·
    have c1 := h2
    refine run_seq ?_
    refine run_region ?_
    refine run_op (loc_build (.nil)) rfl ?_
    refine run_storeN (ho := (by show OneAll [_, _, _, _, _, _, _, _]; infer_instance)) rfl rfl (.here) (by rfl) ?_
    refine run_op (loc_assign rfl) rfl ?_
    refine run_nil ?_
    have hE : newSE id s = 40 := by unfold newSE; rw [if_pos c1]
    refine run_retGP Try.func7 rfl (.cellN rfl (by first | exact .here | exact .there .here | exact .there (.there .here) | exact .there (.there (.there .here)) | exact .there (.there (.there (.there .here))) | exact .there (.there (.there (.there (.there .here))))) (by rfl) (.tmp rfl (.nil))) ?_ (fun _ _ h => inv_tail (h))
    exact d_tup2 (d_toSrv (t' := srv0) (by unfold newS; rw [if_neg (by rw [hE]; omega)]) (d_aggU (.cons (d_int rfl) (.cons (d_int rfl) (.cons (d_int rfl) (.cons (d_int rfl) (.cons (d_int rfl) (.cons (d_B Iff.rfl) (.cons d_nil (.cons d_nil .nil)))))))))) (d_int hE.symm)
  ·
    have c1 := Classical.not_not.1 h2
    have hbd := shape_bd c1
    refine run_seq ?_
    refine run_region ?_
    refine run_op (loc_move rfl) rfl ?_
    refine run_op (loc_lss rfl rfl) rfl ?_
    refine run_op (loc_move rfl) rfl ?_
    refine run_gfirst rfl rfl (by first | exact guard_true _ | exact guard_false _ | exact guard_if (guard_true _) | exact guard_if (guard_false _)) (fun hg => loc_move rfl) rfl ?_
    refine run_gop rfl rfl (by first | exact guard_true _ | exact guard_false _ | exact guard_if (guard_true _) | exact guard_if (guard_false _)) (fun hg => loc_fieldAddr rfl) rfl ?_
    refine run_gop rfl rfl (by first | exact guard_true _ | exact guard_false _ | exact guard_if (guard_true _) | exact guard_if (guard_false _)) (fun hg => loc_load1 rfl) rfl ?_
    refine run_gop rfl rfl (by first | exact guard_true _ | exact guard_false _ | exact guard_if (guard_true _) | exact guard_if (guard_false _)) (fun hg => loc_gtr rfl rfl) rfl ?_
    refine run_gleave ?_
    refine run_op (loc_or rfl rfl) rfl ?_
    refine run_op (loc_assign rfl) rfl ?_
    refine run_nil ?_
    refine run_cond rfl (fun h3 => ?_) (fun h3 => ?_)
    ·
      have c2 := h3
      refine run_seq ?_
      refine run_region ?_
      refine run_op (loc_build (.nil)) rfl ?_
      refine run_storeN (ho := (by show OneAll [_, _, _, _, _, _, _, _]; infer_instance)) rfl rfl (.here) (by rfl) ?_
      refine run_op (loc_assign rfl) rfl ?_
      refine run_nil ?_
      have hE : newSE id s = 1 := by unfold newSE; rw [if_neg (Classical.not_not.2 c1), if_pos c2]
      refine run_retGP Try.func7 rfl (.cellN rfl (by first | exact .here | exact .there .here | exact .there (.there .here) | exact .there (.there (.there .here)) | exact .there (.there (.there (.there .here))) | exact .there (.there (.there (.there (.there .here))))) (by rfl) (.tmp rfl (.nil))) ?_ (fun _ _ h => inv_tail (h))
      exact d_tup2 (d_toSrv (t' := srv0) (by unfold newS; rw [if_neg (by rw [hE]; omega)]) (d_aggU (.cons (d_int rfl) (.cons (d_int rfl) (.cons (d_int rfl) (.cons (d_int rfl) (.cons (d_int rfl) (.cons (d_B Iff.rfl) (.cons d_nil (.cons d_nil .nil)))))))))) (d_int hE.symm)
    ·
      have c2 := h3
      refine run_skip ?_
      refine run_inBlock ?_
      refine run_seq ?_
      refine run_region ?_
      refine run_op (loc_move rfl) rfl ?_
      refine run_op (loc_loadN rfl rfl) rfl ?_
      refine run_op (loc_build (.one rfl rfl rfl (.agg rfl rfl rfl rfl (.one rfl rfl rfl (.nil))))) rfl ?_
      refine run_storeN (ho := (by show OneAll [_, _, _, _, _, _, _, _]; infer_instance)) rfl rfl (.here) (by rfl) ?_
      refine run_op (loc_assign rfl) rfl ?_
      refine run_nil ?_
      have hE : newSE id s = 0 := by unfold newSE; rw [if_neg (Classical.not_not.2 c1), if_neg c2]
      refine run_retGP Try.func7 rfl (.cellN rfl (by first | exact .here | exact .there .here | exact .there (.there .here) | exact .there (.there (.there .here)) | exact .there (.there (.there (.there .here))) | exact .there (.there (.there (.there (.there .here))))) (by rfl) (.tmp rfl (.nil))) ?_ (fun _ _ h => inv_tail (h))
      exact d_tup2 (d_toSrv (t' := ⟨id, s, True, [], []⟩) (by unfold newS; rw [if_pos hE]) (d_aggU (.cons (d_int rfl) (.cons (d_int rfl) (.cons (d_int rfl) (.cons (d_int rfl) (.cons (d_int rfl) (.cons (d_B Iff.rfl) (.cons d_nil (.cons d_nil .nil)))))))))) (d_int hE.symm)

theorem ownRows_spec (rows : List (List Int)) (hr : rows.length ≤ 100000 ∧ ∀ r ∈ rows, r.length ≤ 100000) : SpecP Try.prog 54 [dRows rows] (dRows rows) := by
  refine specP_of_body Try.func54 rfl rfl (fun I M => ?_)
  refine run_seq ?_
  refine run_region ?_
  refine run_op (loc_assign rfl) rfl ?_
  refine run_nil ?_
  refine run_seq ?_
  refine run_region ?_
  refine run_op (loc_move rfl) rfl ?_
  refine run_callN rfl (cloneRM_spec _ (by omega)) rfl (fun va hva => ?_)
  refine run_op (loc_assign rfl) rfl ?_
  refine run_nil ?_
  refine run_seq ?_
  refine run_seq ?_
  refine run_region ?_
  refine run_op (loc_move rfl) rfl ?_
  refine run_op (loc_lenRow rfl (.here)) rfl ?_
  refine run_op (loc_move rfl) rfl ?_
  refine run_nil ?_
  refine run_block ?_
  refine run_loopF (σ := Nat) (ks := [3, 8, 9]) (.cons rfl (.cons rfl (.cons rfl (.nil)))) (fun k => [(10, dInt .i64 (k : Nat))]) (fun k => [rRow va 35 1 fR rows]) (fun k => k ≤ rows.length) (fun k => rows.length - k) (0) (Nat.zero_le _) (.cons rfl (by first | exact fun _ _ h => h | exact d_int (by omega) | exact d_int (by simp) | exact d_intN (by omega) | exact d_any) .nil) (rfl) ?_
  intro k hk ih1
  refine run_seq ?_
  refine run_region ?_
  refine run_op (loc_lss rfl rfl) rfl ?_
  refine run_nil ?_
  refine run_seq ?_
  refine run_cond rfl (fun h2 => ?_) (fun h2 => ?_)
  ·
    have hrk := hr.2 _ (getD_mem (xs := rows) (k := k) (by omega))
    refine run_rowForm (.here) (by omega) (fun b cap hv => ?_)
    subst hv
    refine run_skip ?_
    refine run_seq ?_
    refine run_block ?_
    refine run_seq ?_
    refine run_region ?_
    refine run_op (loc_move rfl) rfl ?_
    first | refine run_op (loc_indexRow rfl rfl (by first | omega | assumption)) rfl ?_ | refine run_op (loc_indexRowI rfl rfl (by first | omega | assumption)) rfl ?_
    refine run_op (loc_loadRow1 rfl (.here) (by first | omega | assumption)) rfl ?_
    refine run_op (loc_assign rfl) rfl ?_
    refine run_op (loc_assign rfl) rfl ?_
    refine run_nil ?_
    refine run_region ?_
    refine run_op (loc_move rfl) rfl ?_
    refine run_op (loc_move rfl) rfl ?_
    refine run_op (loc_move rfl) rfl ?_
    refine run_op (loc_call (cloneI_spec _ (by omega)) rfl) rfl ?_
    first | refine run_op (loc_indexRow rfl rfl (by first | omega | assumption)) rfl ?_ | refine run_op (loc_indexRowI rfl rfl (by first | omega | assumption)) rfl ?_
    refine run_storeRow1 rfl (.here) rfl (by rfl) (by first | omega | assumption) ?_
    refine run_nil ?_
    refine run_inBlock ?_
    refine run_region ?_
    first | refine run_op (loc_add rfl rfl (by first | omega | assumption)) rfl ?_ | refine run_op (loc_addW rfl rfl) rfl ?_
    refine run_op (loc_move rfl) rfl ?_
    refine run_nil ?_
    exact run_againF ih1 (k + 1) (by omega) (by omega) (.cons rfl (by first | exact fun _ _ h => h | exact d_int (by omega) | exact d_int (by simp) | exact d_intN (by omega) | exact d_any) .nil) (.cons rfl (fun _ _ x => x) (.cons rfl (fun _ _ x => x) (.cons rfl (fun _ _ x => x) (.nil)))) (by simp only [appR]; rw [set_self (by omega)])
  ·
    refine run_exit rfl ?_
    refine run_seq ?_
    refine run_freezeRow (s := 3) rfl (.here) ?_
    refine run_region ?_
    refine run_op (loc_move rfl) rfl ?_
    refine run_op (loc_assign rfl) rfl ?_
    refine run_nil ?_
    refine run_retP Try.func54 rfl rfl ?_
    exact fun _ _ h => h

theorem ownJob_spec (j : Job) (hj : j.query.length ≤ 100000 ∧ j.got.length ≤ 100000) : SpecP Try.prog 36 [dJob j] (dJob j) := by
  refine specP_of_body Try.func36 rfl rfl (fun I M => ?_)
  refine run_seq ?_
  refine run_region ?_
  refine run_new (loc_boxOwnN rfl) rfl (fun b1 _ => ?_)
  refine run_new (loc_allocOwn (by simp)) rfl (fun b2 _ => ?_)
  refine run_nil ?_
  refine run_seq ?_
  refine dr_start _ (.none) [⟨[(1, none)], [], none⟩,
      ⟨[(3, some (0, false))], [0], some (1, 0, false)⟩,
      ⟨[(4, some (1, false))], [0, 1], none⟩,
      ⟨[(1, none)], [], none⟩,
      ⟨[(6, some (3, false))], [3], some (1, 0, false)⟩,
      ⟨[(7, some (4, false))], [0, 1, 2, 3, 4], none⟩,
      ⟨[(1, none)], [0, 1, 2, 3, 4], none⟩,
      ⟨[(9, some (6, false)), (5, some (2, false))], [0, 1, 2, 3, 4, 5, 6], some (1, 0, true)⟩,
      ⟨[(1, none)], [0, 1, 2, 3, 4, 5, 6, 7], none⟩,
      ⟨[(10, some (8, false)), (8, some (5, false))], [0, 1, 2, 3, 4, 5, 6, 7, 8], some (1, 1, true)⟩] [_, _] _ rfl rfl ?_
  refine dq_pure rfl (fun s => .g rfl (.nil)) (fun s hs _ => loc_fieldAddrOwn rfl) (by exact .nil) ?_
  refine dq_read rfl (fun s => .op rfl (.nil)) rfl rfl (fun s hs _ hm => loc_loadOwn1 rfl hm (by rfl)) (by exact .nil) ?_
  refine dq_pure rfl (fun s => .op rfl (.nil)) (fun s hs _ => loc_call (cloneI_spec _ (by omega)) rfl) (by exact .nil) ?_
  refine dq_pure rfl (fun s => .g rfl (.nil)) (fun s hs _ => loc_fieldAddrOwn rfl) (by exact .nil) ?_
  refine dq_read rfl (fun s => .op rfl (.nil)) rfl rfl (fun s hs _ hm => loc_loadOwn1 rfl hm (by rfl)) (by exact .nil) ?_
  refine dq_pure rfl (fun s => .op rfl (.nil)) (fun s hs _ => loc_call (cloneI_spec _ (by omega)) rfl) (by exact .nil) ?_
  refine dq_pure rfl (fun s => .g rfl (.nil)) (fun s hs _ => loc_fieldAddrOwn rfl) (by exact .nil) ?_
  refine dq_write0 rfl (fun s => .op rfl (.op rfl (.nil))) rfl rfl (fun s hs => loc_store1 rfl rfl rfl) (by exact .nil) ?_
  refine dq_pure rfl (fun s => .g rfl (.nil)) (fun s hs _ => loc_fieldAddrOwn rfl) (by exact .nil) ?_
  refine dq_write0 rfl (fun s => .op rfl (.op rfl (.nil))) rfl rfl (fun s hs => loc_store1 rfl rfl rfl) (by exact .nil) ?_
  refine dq_end (rs := [_, _]) () rfl (fun _ => rfl) (.nil) rfl (fun _ _ => ?_)
  dsimp only [outG, outM, List.map, List.set, id]
  refine run_seq ?_
  refine run_region ?_
  refine run_op (loc_loadOwnN rfl (.there (.here)) (by rfl)) rfl ?_
  refine run_storeN (ho := (by show OneAll [_, _, _, _, _]; infer_instance)) rfl rfl (.here) (by rfl) ?_
  refine run_nil ?_
  refine run_retGP Try.func36 rfl (.cellN rfl (by first | exact .here | exact .there .here | exact .there (.there .here) | exact .there (.there (.there .here)) | exact .there (.there (.there (.there .here))) | exact .there (.there (.there (.there (.there .here))))) (by rfl) (.nil)) ?_ (fun _ _ h => inv_tail (inv_tail (h)))
  exact fun _ _ h => h

theorem ownM_spec (v : Srv) (hv : szSrv v) : Spec Try.prog 27 [dSrv v] [] (σ := Value × Value) (fun _ => True) (fun s => dAgg ([dInt .i64 v.id, dInt .i64 v.scheme.kind, dInt .i64 v.scheme.servers, dInt .i64 v.scheme.degree, dInt .i64 v.scheme.group, dB v.up] ++ [dSlV s.1, dSlV s.2])) (fun s => [rRow s.1 80 6 cHeld v.versions, rRow s.2 84 5 cJob v.jobs]) := by
  obtain ⟨hv1, hv2, hv3, hv4⟩ := hv
  refine spec_of_body Try.func27 rfl rfl (fun I F => ?_)
  refine run_seq ?_
  refine run_region ?_
  refine run_new (loc_boxOwnN rfl) rfl (fun b1 _ => ?_)
  refine run_new (loc_allocOwn (by simp)) rfl (fun b2 _ => ?_)
  refine run_nil ?_
  refine run_seq ?_
  refine run_addNone ?_
  refine run_addNone ?_
  refine dr_start _ (.two (τ1 := Value) (τ2 := Value) 2 5 (fun _ => True) (fun _ => True)) [⟨[(1, none)], [], none⟩,
      ⟨[(7, some (0, false))], [0], some (3, 0, false)⟩,
      ⟨[(8, some (1, false))], [0, 1], some (1, 0, true)⟩,
      ⟨[(1, none)], [], none⟩,
      ⟨[(10, some (3, false))], [3], some (3, 0, false)⟩,
      ⟨[(11, some (4, false))], [0, 1, 2, 3, 4], some (0, 0, true)⟩,
      ⟨[(1, none)], [0, 1, 2, 3, 4], none⟩,
      ⟨[(13, some (6, false)), (9, some (2, false))], [0, 1, 2, 3, 4, 5, 6], some (3, 0, true)⟩,
      ⟨[(1, none)], [0, 1, 2, 3, 4, 5, 6, 7], none⟩,
      ⟨[(14, some (8, false)), (12, some (5, false))], [0, 1, 2, 3, 4, 5, 6, 7, 8], some (3, 1, true)⟩] [_, _, _, _] _ rfl rfl ?_
  refine dq_pure rfl (fun s => .g rfl (.nil)) (fun s hs _ => loc_fieldAddrOwn rfl) (by exact .cons (.inr fun s s' h => by obtain ⟨a, b⟩ := s; obtain ⟨c, d⟩ := s'; have h : d = b := h; subst h; exact rfl) (.cons (.inr fun s s' h => by obtain ⟨a, b⟩ := s; obtain ⟨c, d⟩ := s'; have h : c = a := h; subst h; exact rfl) (.nil))) ?_
  refine dq_read rfl (fun s => .op rfl (.nil)) rfl rfl (fun s hs _ hm => loc_loadOwn1 rfl hm (by rfl)) (by exact .cons (.inr fun s s' h => by obtain ⟨a, b⟩ := s; obtain ⟨c, d⟩ := s'; have h : d = b := h; subst h; exact rfl) (.cons (.inr fun s s' h => by obtain ⟨a, b⟩ := s; obtain ⟨c, d⟩ := s'; have h : c = a := h; subst h; exact rfl) (.nil))) ?_
  refine dq_choose Prod.fst (fun s t => (t, s.2)) rfl (fun _ _ => ⟨rfl, id, rfl⟩) (fun s => .op rfl (.nil)) rfl rfl (fun s hs => locM_new (loc_callM (spec_rowV (cloneHlM_spec _ (by omega))) rfl)) (by exact .cons (.inl rfl) (.cons (.inr (.inr fun s s' h => by obtain ⟨a, b⟩ := s; obtain ⟨c, d⟩ := s'; have h : c = a := h; subst h; exact rfl)) (.nil))) ?_
  refine dq_pure rfl (fun s => .g rfl (.nil)) (fun s hs _ => loc_fieldAddrOwn rfl) (by exact .cons (.inr fun s s' h => by obtain ⟨a, b⟩ := s; obtain ⟨c, d⟩ := s'; have h : d = b := h; subst h; exact rfl) (.cons (.inr fun s s' h => by obtain ⟨a, b⟩ := s; obtain ⟨c, d⟩ := s'; have h : c = a := h; subst h; exact rfl) (.nil))) ?_
  refine dq_read rfl (fun s => .op rfl (.nil)) rfl rfl (fun s hs _ hm => loc_loadOwn1 rfl hm (by rfl)) (by exact .cons (.inr fun s s' h => by obtain ⟨a, b⟩ := s; obtain ⟨c, d⟩ := s'; have h : d = b := h; subst h; exact rfl) (.cons (.inr fun s s' h => by obtain ⟨a, b⟩ := s; obtain ⟨c, d⟩ := s'; have h : c = a := h; subst h; exact rfl) (.nil))) ?_
  refine dq_choose Prod.snd (fun s t => (s.1, t)) rfl (fun _ _ => ⟨rfl, id, rfl⟩) (fun s => .op rfl (.nil)) rfl rfl (fun s hs => locM_new (loc_callM (spec_rowV (cloneJbM_spec _ (by omega))) rfl)) (by exact .cons (.inr (.inl rfl)) (.cons (.inl rfl) (.nil))) ?_
  refine dq_pure rfl (fun s => .g rfl (.nil)) (fun s hs _ => loc_fieldAddrOwn rfl) (by exact .cons (.inl rfl) (.cons (.inr fun s s' h => by obtain ⟨a, b⟩ := s; obtain ⟨c, d⟩ := s'; have h : c = a := h; subst h; exact rfl) (.nil))) ?_
  refine dq_write0 rfl (fun s => .op rfl (.op rfl (.nil))) rfl rfl (fun s hs => loc_store1 rfl rfl rfl) (by exact .cons (.inl rfl) (.cons (.inl rfl) (.nil))) ?_
  refine dq_pure rfl (fun s => .g rfl (.nil)) (fun s hs _ => loc_fieldAddrOwn rfl) (by exact .cons (.inl rfl) (.cons (.inl rfl) (.nil))) ?_
  refine dq_write0 rfl (fun s => .op rfl (.op rfl (.nil))) rfl rfl (fun s hs => loc_store1 rfl rfl rfl) (by exact .cons (.inl rfl) (.cons (.inl rfl) (.nil))) ?_
  refine dq_end (rs := [_, _, _, _]) ((.bool true), (.bool true)) rfl (fun _ => rfl) (.cons rfl (.cons rfl (.nil))) rfl (fun s9 _ => ?_)
  obtain ⟨v3, v4⟩ := s9
  dsimp only [outG, outM, List.map, List.set, id]
  refine run_seq ?_
  refine run_seq ?_
  refine run_region ?_
  refine run_op (loc_fieldAddrOwn rfl) rfl ?_
  first | refine run_op (LocP.upV (loc_loadOwn1 rfl (.there (.there (.there (.here)))) (by rfl))) rfl ?_ | refine run_op (loc_loadOwn1 rfl (.there (.there (.there (.here)))) (by rfl)) rfl ?_
  refine run_op (loc_lenRow rfl (.there (.here))) rfl ?_
  refine run_op (loc_move rfl) rfl ?_
  refine run_nil ?_
  refine run_block ?_
  refine run_front (.there (.here)) ?_
  refine run_loopF (σ := Nat) (ks := [1, 2, 16, 17]) (.cons rfl (.cons rfl (.cons rfl (.cons rfl (.nil))))) (fun k => [(18, dInt .i64 (k : Nat))]) (fun k => [rRow v3 80 6 cHeld v.versions]) (fun k => k ≤ v.versions.length) (fun k => v.versions.length - k) (0) (Nat.zero_le _) (.cons rfl (by first | exact fun _ _ h => h | exact d_int (by omega) | exact d_int (by simp) | exact d_intN (by omega) | exact d_any) .nil) (rfl) ?_
  intro k hk ih5
  refine run_seq ?_
  refine run_region ?_
  refine run_op (loc_lss rfl rfl) rfl ?_
  refine run_nil ?_
  refine run_seq ?_
  refine run_cond rfl (fun h6 => ?_) (fun h6 => ?_)
  ·
    have hrk := hv3 _ (getD_mem (xs := v.versions) (k := k) (by omega))
    refine run_openRow (.here) (by intro he; have h0 := congrArg List.length he; rw [List.length_nil] at h0; omega) (fun bh cbh hvbh hcbh hmbh hlbh hfbh => ?_)
    subst hvbh
    refine run_skip ?_
    refine run_seq ?_
    refine run_block ?_
    refine run_seq ?_
    refine run_region ?_
    refine run_op (loc_move rfl) rfl ?_
    refine run_op (loc_indexOwn rfl rfl (by first | omega | assumption)) rfl ?_
    refine run_op (loc_loadBufN rfl (.here) (els_get (i := k) (by omega) (by omega))) rfl ?_
    refine run_new (loc_allocOwn (by simp)) rfl (fun b7 _ => ?_)
    refine run_op (loc_assign rfl) rfl ?_
    refine run_storeN (ho := (by show OneAll [_, _, _, _, _, _]; infer_instance)) rfl rfl (.here) (by rfl) ?_
    refine run_nil ?_
    refine dr_start _ (.none) [⟨[(1, none)], [], none⟩,
        ⟨[(23, some (0, false))], [0], some (4, 0, false)⟩,
        ⟨[(3, none)], [], none⟩,
        ⟨[(4, none)], [], none⟩,
        ⟨[(26, some (3, false))], [3], some (0, 0, false)⟩,
        ⟨[(27, some (4, false))], [3, 4], none⟩,
        ⟨[(24, some (1, false)), (25, some (2, false))], [0, 1, 2, 3, 4, 5], none⟩,
        ⟨[(29, some (6, false))], [0, 1, 2, 3, 4, 5, 6], none⟩,
        ⟨[(30, some (7, false)), (28, some (5, false))], [0, 1, 2, 3, 4, 5, 6, 7], some (1, 0, true)⟩] [_, _, _, _, _] _ rfl rfl ?_
    refine dq_pure rfl (fun s => .g rfl (.nil)) (fun s hs _ => loc_fieldAddrOwn rfl) (by exact .nil) ?_
    first | refine dq_read rfl (fun s => .op rfl (.nil)) rfl rfl (fun s hs _ hm => LocP.upV (loc_loadOwn1 rfl hm (by rfl))) (by exact .nil) ?_ | refine dq_read rfl (fun s => .op rfl (.nil)) rfl rfl (fun s hs _ hm => loc_loadOwn1 rfl hm (by rfl)) (by exact .nil) ?_
    refine dq_pure rfl (fun s => .g rfl (.nil)) (fun s hs _ => loc_move rfl) (by exact .nil) ?_
    refine dq_pure rfl (fun s => .g rfl (.nil)) (fun s hs _ => loc_fieldAddrOwn rfl) (by exact .nil) ?_
    refine dq_read rfl (fun s => .op rfl (.nil)) rfl rfl (fun s hs _ hm => loc_loadOwn1 rfl hm (by rfl)) (by exact .nil) ?_
    refine dq_pure rfl (fun s => .op rfl (.nil)) (fun s hs _ => loc_call (ownRows_spec _ hrk) rfl) (by exact .nil) ?_
    refine dq_pure rfl (fun s => .op rfl (.op rfl (.nil))) (fun s hs _ => loc_indexOwn rfl rfl (by first | omega | assumption)) (by exact .nil) ?_
    refine dq_pure rfl (fun s => .op rfl (.nil)) (fun s hs _ => loc_fieldAddrOwn rfl) (by exact .nil) ?_
    refine dq_write0 rfl (fun s => .op rfl (.op rfl (.nil))) rfl rfl (fun s hs => loc_storeBufF rfl rfl (els_get (i := k) (by omega) (by omega)) (by decide)) (by exact .nil) ?_
    refine dq_end (rs := [_, _, _, _, _]) () rfl (fun _ => rfl) (.nil) rfl (fun _ _ => ?_)
    dsimp only [outG, outM, List.map, List.set, id]
    refine run_shutRow (f' := cHeld) (xs := v.versions) (.there (.here)) (els_same (i := k) (by omega) (by omega) (by rfl)) rfl (by simp [junk_length]; omega) hmbh hlbh ?_
    refine run_inBlock ?_
    refine run_region ?_
    first | refine run_op (loc_add rfl rfl (by first | omega | assumption)) rfl ?_ | refine run_op (loc_addW rfl rfl) rfl ?_
    refine run_op (loc_move rfl) rfl ?_
    refine run_nil ?_
    refine run_drop (.cons _ (.refl _)) ?_
    exact run_againF ih5 (k + 1) (by omega) (by omega) (.cons rfl (by first | exact fun _ _ h => h | exact d_int (by omega) | exact d_int (by simp) | exact d_intN (by omega) | exact d_any) .nil) (.cons rfl (fun _ _ x => x) (.cons rfl (fun _ _ x => x) (.cons rfl (fun _ _ x => x) (.cons rfl (fun _ _ x => x) (.nil))))) (rfl)
  ·
    refine run_exit rfl ?_
    refine run_seq ?_
    refine run_seq ?_
    refine run_region ?_
    refine run_op (loc_fieldAddrOwn rfl) rfl ?_
    first | refine run_op (LocP.upV (loc_loadOwn1 rfl (.there (.there (.there (.here)))) (by rfl))) rfl ?_ | refine run_op (loc_loadOwn1 rfl (.there (.there (.there (.here)))) (by rfl)) rfl ?_
    refine run_op (loc_lenRow rfl (.there (.here))) rfl ?_
    refine run_op (loc_move rfl) rfl ?_
    refine run_nil ?_
    refine run_block ?_
    refine run_front (.there (.here)) ?_
    refine run_loopF (σ := Nat) (ks := [1, 2, 33, 34]) (.cons rfl (.cons rfl (.cons rfl (.cons rfl (.nil))))) (fun k => [(35, dInt .i64 (k : Nat))]) (fun k => [rRow v4 84 5 cJob v.jobs]) (fun k => k ≤ v.jobs.length) (fun k => v.jobs.length - k) (0) (Nat.zero_le _) (.cons rfl (by first | exact fun _ _ h => h | exact d_int (by omega) | exact d_int (by simp) | exact d_intN (by omega) | exact d_any) .nil) (rfl) ?_
    intro k hk ih8
    refine run_seq ?_
    refine run_region ?_
    refine run_op (loc_lss rfl rfl) rfl ?_
    refine run_nil ?_
    refine run_seq ?_
    refine run_cond rfl (fun h9 => ?_) (fun h9 => ?_)
    ·
      have hrj := hv4 _ (getD_mem (xs := v.jobs) (k := k) (by omega))
      refine run_openRow (.here) (by intro he; have h0 := congrArg List.length he; rw [List.length_nil] at h0; omega) (fun bj cbj hvbj hcbj hmbj hlbj hfbj => ?_)
      subst hvbj
      refine run_skip ?_
      refine run_seq ?_
      refine run_block ?_
      refine run_seq ?_
      refine run_region ?_
      refine run_op (loc_move rfl) rfl ?_
      refine run_op (loc_indexOwn rfl rfl (by first | omega | assumption)) rfl ?_
      refine run_op (loc_loadBufN rfl (.here) (els_get (i := k) (by omega) (by omega))) rfl ?_
      refine run_new (loc_allocOwn (by simp)) rfl (fun b10 _ => ?_)
      refine run_op (loc_assign rfl) rfl ?_
      refine run_storeN (ho := (by show OneAll [_, _, _, _, _]; infer_instance)) rfl rfl (.here) (by rfl) ?_
      refine run_nil ?_
      refine dr_start _ (.none) [⟨[(1, none)], [], none⟩,
          ⟨[(40, some (0, false))], [0], some (4, 0, false)⟩,
          ⟨[(5, none)], [], none⟩,
          ⟨[(6, none)], [], some (0, 0, false)⟩,
          ⟨[(43, some (3, false))], [3], none⟩,
          ⟨[(41, some (1, false)), (42, some (2, false))], [0, 1, 2, 3, 4], none⟩,
          ⟨[(45, some (5, false)), (44, some (4, false))], [0, 1, 2, 3, 4, 5], some (1, 0, true)⟩] [_, _, _, _, _] _ rfl rfl ?_
      refine dq_pure rfl (fun s => .g rfl (.nil)) (fun s hs _ => loc_fieldAddrOwn rfl) (by exact .nil) ?_
      first | refine dq_read rfl (fun s => .op rfl (.nil)) rfl rfl (fun s hs _ hm => LocP.upV (loc_loadOwn1 rfl hm (by rfl))) (by exact .nil) ?_ | refine dq_read rfl (fun s => .op rfl (.nil)) rfl rfl (fun s hs _ hm => loc_loadOwn1 rfl hm (by rfl)) (by exact .nil) ?_
      refine dq_pure rfl (fun s => .g rfl (.nil)) (fun s hs _ => loc_move rfl) (by exact .nil) ?_
      refine dq_read rfl (fun s => .g rfl (.nil)) rfl rfl (fun s hs _ hm => loc_loadOwnN rfl hm (by rfl)) (by exact .nil) ?_
      refine dq_pure rfl (fun s => .op rfl (.nil)) (fun s hs _ => loc_call (ownJob_spec _ hrj) rfl) (by exact .nil) ?_
      refine dq_pure rfl (fun s => .op rfl (.op rfl (.nil))) (fun s hs _ => loc_indexOwn rfl rfl (by first | omega | assumption)) (by exact .nil) ?_
      refine dq_write0 rfl (fun s => .op rfl (.op rfl (.nil))) rfl rfl (fun s hs => loc_storeBufN (ho := (by show OneAll [_, _, _, _, _]; infer_instance)) rfl rfl (by first | omega | (simp only [List.length_append, List.length_map, junk_length]; omega) | (simp only [List.length_append, List.length_map, junk_length]; split <;> omega) | (simp [put, junk_length]; omega)) rfl) (by exact .nil) ?_
      refine dq_end (rs := [_, _, _, _, _]) () rfl (fun _ => rfl) (.nil) rfl (fun _ _ => ?_)
      dsimp only [outG, outM, List.map, List.set, id]
      refine run_shutRow (f' := cJob) (xs := v.jobs) (.there (.here)) (els_same (i := k) (by omega) (by omega) (by rfl)) rfl (by simp [junk_length]; omega) hmbj hlbj ?_
      refine run_inBlock ?_
      refine run_region ?_
      first | refine run_op (loc_add rfl rfl (by first | omega | assumption)) rfl ?_ | refine run_op (loc_addW rfl rfl) rfl ?_
      refine run_op (loc_move rfl) rfl ?_
      refine run_nil ?_
      refine run_drop (.cons _ (.refl _)) ?_
      exact run_againF ih8 (k + 1) (by omega) (by omega) (.cons rfl (by first | exact fun _ _ h => h | exact d_int (by omega) | exact d_int (by simp) | exact d_intN (by omega) | exact d_any) .nil) (.cons rfl (fun _ _ x => x) (.cons rfl (fun _ _ x => x) (.cons rfl (fun _ _ x => x) (.cons rfl (fun _ _ x => x) (.nil))))) (rfl)
    ·
      refine run_exit rfl ?_
      refine run_seq ?_
      refine run_front (.here) ?_
      refine run_front (.there (.here)) ?_
      refine run_region ?_
      refine run_op (loc_loadOwnN rfl (.there (.there (.there (.here)))) (by rfl)) rfl ?_
      refine run_storeN (ho := (by show OneAll [_, _, _, _, _, _, _, _]; infer_instance)) rfl rfl (.there (.there (.here))) (by rfl) ?_
      refine run_nil ?_
      refine run_retG ((v3, v4)) Try.func27 rfl (.cellN rfl (by first | exact .here | exact .there .here | exact .there (.there .here) | exact .there (.there (.there .here)) | exact .there (.there (.there (.there .here))) | exact .there (.there (.there (.there (.there .here))))) (by rfl) (.nil)) ?_ (trivial) (fun _ _ h => h.sub (.cons_cons _ (.cons_cons _ (.cons _ (.cons _ (.refl _))))))
      exact fun _ _ h => h

theorem ownV_spec (v : Srv) (hv : szSrv v) : Spec Try.prog 27 [dSrv v] [] (σ := Value) (fun _ => True) (fun u => dAgg ([dInt .i64 v.id, dInt .i64 v.scheme.kind, dInt .i64 v.scheme.servers, dInt .i64 v.scheme.degree, dInt .i64 v.scheme.group, dB v.up] ++ [dSlV u, dSl 5 cJob v.jobs])) (fun u => [rRow u 80 6 cHeld v.versions]) := spec_frzB (ownM_spec v hv)
theorem ownJ_spec (v : Srv) (hv : szSrv v) : Spec Try.prog 27 [dSrv v] [] (σ := Value) (fun _ => True) (fun u => dAgg ([dInt .i64 v.id, dInt .i64 v.scheme.kind, dInt .i64 v.scheme.servers, dInt .i64 v.scheme.degree, dInt .i64 v.scheme.group, dB v.up] ++ [dSl 6 cHeld v.versions, dSlV u])) (fun u => [rRow u 84 5 cJob v.jobs]) := spec_frzA (ownM_spec v hv)
theorem ownP_spec (v : Srv) (hv : szSrv v) : SpecP Try.prog 27 [dSrv v] (dSrv v) := spec_frzC (ownV_spec v hv)
end Go.Q
