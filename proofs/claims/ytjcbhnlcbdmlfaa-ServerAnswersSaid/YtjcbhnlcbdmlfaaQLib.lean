/- What the library's searches and cuts compute; plain mathematics, no program. -/
import Derived.Test.YtjcbhnlcbdmlfaaQWalk
import Derived.Laws.Bits64
import Derived.Laws.Shifts
import Derived.Test.YtjcbhnlcbdmlfaaQKit7
set_option linter.unusedVariables false
set_option linter.unusedSimpArgs false
namespace Go.Q
open Classical

/-- The first index at which something holds, or -1. -/
noncomputable def idxP {α : Type} (q : α → Prop) : List α → Int
  | [] => -1
  | x :: xs => if q x then 0 else (if idxP q xs < 0 then -1 else idxP q xs + 1)

theorem idxP_none {α : Type} {q : α → Prop} : ∀ {xs : List α}, (∀ x ∈ xs, ¬ q x) → idxP q xs = -1
  | [], _ => rfl
  | x :: xs, h => by
    have h1 := h x (List.mem_cons_self ..)
    have h2 := idxP_none (xs := xs) fun y hy => h y (List.mem_cons_of_mem _ hy)
    simp [idxP, h1, h2]

theorem idxP_at {α : Type} [Inhabited α] {q : α → Prop} : ∀ {xs : List α} {i : Nat}, i < xs.length → (∀ j, j < i → ¬ q (xs[j]?.getD default)) → q (xs[i]?.getD default) → idxP q xs = i
  | x :: xs, 0, _, _, h => by
    have : q x := by simpa using h
    simp [idxP, this]
  | x :: xs, i + 1, hi, hb, h => by
    have h1 : ¬ q x := by simpa using hb 0 (by omega)
    have h2 := idxP_at (xs := xs) (i := i) (by simpa using hi) (fun j hj => by simpa using hb (j + 1) (by omega)) (by simpa using h)
    simp only [idxP, if_neg h1, h2]
    rw [if_neg (by omega)]
    omega

theorem idxP_nonneg {α : Type} {q : α → Prop} : ∀ {xs : List α}, 0 ≤ idxP q xs ↔ ∃ x ∈ xs, q x
  | [] => by simp [idxP]
  | x :: xs => by
    have ih := idxP_nonneg (q := q) (xs := xs)
    by_cases h : q x
    · simp [idxP, h]
    · by_cases h2 : idxP q xs < 0
      · have : ¬ ∃ x ∈ xs, q x := fun e => by have := ih.2 e; omega
        simp only [idxP, if_neg h, if_pos h2]
        simp only [List.mem_cons, exists_eq_or_imp, h, false_or]
        exact ⟨fun h => by omega, fun h => absurd h this⟩
      · have : ∃ x ∈ xs, q x := ih.1 (by omega)
        simp only [idxP, if_neg h, if_neg h2]
        simp only [List.mem_cons, exists_eq_or_imp, h, false_or]
        exact ⟨fun _ => this, fun _ => by omega⟩

theorem idxP_lt {α : Type} {q : α → Prop} : ∀ {xs : List α}, idxP q xs < xs.length
  | [] => by simp [idxP]
  | x :: xs => by
    have ih := idxP_lt (q := q) (xs := xs)
    simp only [idxP]
    split
    · simp
    · split
      · simp; omega
      · simp; omega

/-- The binary search between i and j. -/
noncomputable def bsGo (lt : Nat → Prop) (i j : Nat) : Nat :=
  if i < j then (if lt ((i + j) / 2) then bsGo lt ((i + j) / 2 + 1) j else bsGo lt i ((i + j) / 2)) else i
termination_by j - i

theorem bsGo_le (lt : Nat → Prop) (i j : Nat) (h : i ≤ j) : i ≤ bsGo lt i j ∧ bsGo lt i j ≤ j := by
  fun_induction bsGo lt i j <;> omega

theorem bsGo_at {lt : Nat → Prop} {i j k : Nat} (hij : i ≤ j) (hi : i ≤ k) (hj : k ≤ j) (h1 : ∀ a, a < k → lt a) (h2 : ∀ a, k ≤ a → a < j → ¬ lt a) : bsGo lt i j = k := by
  fun_induction bsGo lt i j with
  | case1 i j h hl ih =>
    refine ih (by omega) ?_ hj h2
    by_cases c : k ≤ (i + j) / 2
    · exact absurd hl (h2 _ c (by omega))
    · omega
  | case2 i j h hl ih =>
    refine ih (by omega) hi ?_ (fun a ha hb => h2 a ha (by omega))
    by_cases c : (i + j) / 2 < k
    · exact absurd (h1 _ c) hl
    · omega
  | case3 i j h => omega

/-- How many, from the first on. -/
noncomputable def lead {α : Type} (q : α → Prop) : List α → Nat
  | [] => 0
  | x :: xs => if q x then lead q xs + 1 else 0

theorem lead_le {α : Type} (q : α → Prop) : ∀ xs : List α, lead q xs ≤ xs.length
  | [] => Nat.le_refl _
  | x :: xs => by have := lead_le q xs; simp only [lead]; split <;> simp <;> omega

theorem lead_at {α : Type} [Inhabited α] {q : α → Prop} : ∀ {xs : List α} {k : Nat}, k ≤ xs.length → (∀ j, j < k → q (xs[j]?.getD default)) → (k = xs.length ∨ ¬ q (xs[k]?.getD default)) → lead q xs = k
  | [], k, h, _, _ => by simp at h; subst h; rfl
  | x :: xs, 0, _, _, h3 => by
    have : ¬ q x := by rcases h3 with h3 | h3; (· simp at h3); (· simpa using h3)
    simp [lead, this]
  | x :: xs, k + 1, h1, h2, h3 => by
    have hx : q x := by simpa using h2 0 (by omega)
    have := lead_at (xs := xs) (k := k) (by simpa using h1) (fun j hj => by simpa using h2 (j + 1) (by omega)) (by simpa using h3)
    simp [lead, hx, this]

theorem lead_lt {α : Type} [Inhabited α] {q : α → Prop} : ∀ {xs : List α} (j : Nat), j < lead q xs → q (xs[j]?.getD default)
  | [], j, h => by simp [lead] at h
  | x :: xs, j, h => by
    simp only [lead] at h
    split at h
    · rename_i hq
      cases j with
      | zero => simpa using hq
      | succ j => simpa using lead_lt (xs := xs) j (by omega)
    · omega

theorem lead_end {α : Type} [Inhabited α] {q : α → Prop} : ∀ {xs : List α}, lead q xs < xs.length → ¬ q (xs[lead q xs]?.getD default)
  | [], h => by simp [lead] at h
  | x :: xs, h => by
    simp only [lead] at h ⊢
    split
    · rename_i hq
      rw [if_pos hq] at h
      simpa using lead_end (xs := xs) (by simpa using h)
    · rename_i hq; simpa using hq

/-- Counting. -/
noncomputable def cntP {α : Type} (q : α → Prop) : List α → Nat
  | [] => 0
  | x :: xs => (if q x then 1 else 0) + cntP q xs

theorem cntP_le {α : Type} (q : α → Prop) : ∀ xs : List α, cntP q xs ≤ xs.length
  | [] => Nat.le_refl _
  | x :: xs => by have := cntP_le q xs; simp only [cntP]; split <;> simp <;> omega

theorem cntP_app {α : Type} (q : α → Prop) : ∀ xs ys : List α, cntP q (xs ++ ys) = cntP q xs + cntP q ys
  | [], ys => by simp [cntP]
  | x :: xs, ys => by simp only [List.cons_append, cntP, cntP_app q xs ys]; omega

theorem cntP_take {α : Type} [Inhabited α] (q : α → Prop) {xs : List α} {k : Nat} (h : k < xs.length) : cntP q (xs.take (k + 1)) = cntP q (xs.take k) + if q (xs[k]?.getD default) then 1 else 0 := by
  rw [List.take_add_one, List.getElem?_eq_getElem h, cntP_app]
  simp [cntP]

theorem take_snoc {α : Type} [Inhabited α] {xs : List α} {k : Nat} (h : k < xs.length) : xs.take (k + 1) = xs.take k ++ [xs[k]?.getD default] := by
  rw [List.take_add_one, List.getElem?_eq_getElem h]
  simp

theorem cntP_zero {α : Type} {q : α → Prop} : ∀ {xs : List α}, cntP q xs = 0 ↔ ∀ x ∈ xs, ¬ q x
  | [] => by simp [cntP]
  | x :: xs => by
    simp only [cntP, List.mem_cons, forall_eq_or_imp]
    rw [← cntP_zero (xs := xs)]
    by_cases h : q x <;> simp [h] <;> omega

theorem forall_getD {α : Type} [Inhabited α] {p : α → Prop} {xs : List α} (h : ∀ j, j < xs.length → p (xs[j]?.getD default)) : ∀ x ∈ xs, p x := by
  intro x hx
  obtain ⟨i, hi⟩ := List.getElem?_of_mem hx
  have h1 := (List.getElem?_eq_some_iff.1 hi).1
  have h2 := h i h1
  rw [hi] at h2
  exact h2

def cmpI (x y : Int) : Int := if x < y then -1 else if y < x then 1 else 0

theorem list_extD {α : Type} [Inhabited α] {xs ys : List α} (h : xs.length = ys.length) (he : ∀ j, j < xs.length → xs[j]?.getD default = ys[j]?.getD default) : xs = ys := by
  apply List.ext_getElem h
  intro i h1 h2
  have := he i h1
  simpa [h1, h2] using this

end Go.Q

namespace Go.Q
variable {P : Program} {g : G} {N : Nat} {M : List Res} {dst : Option Tmp} {ty : TypeId} {pos : String} {after : Array Edge} {gd : Option (Nat × Bool)} {t t' : TypeId} {x y : Operand} {k kd : IntKind} {m n : Int}

theorem u64_in {m : Int} (h : 0 ≤ m ∧ m < 18446744073709551616) : IntKind.u64.wrap m = m := by rw [IntKind.wrap_u64]; omega

theorem loc_convU {s : TypeId} {k0 : IntKind} [h1 : TyInt P s k0] [h2 : TyInt P t .u64] (hx : opd g x = some (dInt kd m)) (h : 0 ≤ m ∧ m < 18446744073709551616) : LocP P ⟨dst, .convert s t x, ty, pos, after, gd⟩ g N M (dInt .u64 m) :=
  (loc_convW hx).conv (by rw [u64_in h])
theorem loc_addU (hx : opd g x = some (dInt .u64 m)) (hy : opd g y = some (dInt .u64 n)) (h : 0 ≤ m + n ∧ m + n < 18446744073709551616) : LocP P ⟨dst, .binOp .add t x y t', ty, pos, after, gd⟩ g N M (dInt .u64 (m + n)) :=
  (loc_addW hx hy).conv (by rw [u64_in h])
theorem loc_subU (hx : opd g x = some (dInt .u64 m)) (hy : opd g y = some (dInt .u64 n)) (h : 0 ≤ m - n ∧ m - n < 18446744073709551616) : LocP P ⟨dst, .binOp .sub t x y t', ty, pos, after, gd⟩ g N M (dInt .u64 (m - n)) :=
  (loc_subW hx hy).conv (by rw [u64_in h])
theorem loc_mulU (hx : opd g x = some (dInt .u64 m)) (hy : opd g y = some (dInt .u64 n)) (h : 0 ≤ m * n ∧ m * n < 18446744073709551616) : LocP P ⟨dst, .binOp .mul t x y t', ty, pos, after, gd⟩ g N M (dInt .u64 (m * n)) :=
  (loc_mulW hx hy).conv (by rw [u64_in h])

theorem loc_shr {c : Nat} (hx : opd g x = some (dInt k m)) (hy : opd g y = some (dInt kd (c : Nat))) (hc : (Nat.blt c 64 && Nat.blt c k.bits) = true) : LocP P ⟨dst, .binOp .shr t x y t', ty, pos, after, gd⟩ g N M (dInt k (m.fdiv (2 ^ c))) :=
  locP_of_run fun I a w hs _ => by
    have h1 : a.eval x = .int k m := opd_sound hs hx
    have h2 : a.eval y = .int kd c := opd_sound hs hy
    have e : eqGuard .shr t x y (.int k m) (.int kd c) = pure () := by unfold eqGuard; rfl
    simp only [Bool.and_eq_true, Nat.blt_eq] at hc
    have hn : ¬ ((c : Int) < 0) := by omega
    refine ⟨.int k (m.fdiv (2 ^ c)), ?_, rfl⟩
    have h3 : Int.toNat (c : Int) = c := by omega
    have h4 : (binOp .shr t (.int k m) (.int kd c)).run P w = .ok (.int k (m.fdiv (2 ^ c))) w := by
      simp only [binOp, Op.shift]
      rw [if_neg hn]
      simp [Nat.min_eq_left (Nat.le_of_lt hc.2)]
    simp [execOp, h1, h2, e, h4]

theorem loc_shrN {c : Nat} {q : Int} (hx : opd g x = some (dInt k m)) (hy : opd g y = some (dInt kd (c : Nat))) (hc : (Nat.blt c 64 && Nat.blt c k.bits) = true) (hq : (2 : Int) ^ c = q) (h : 0 ≤ m) (hq0 : 0 ≤ q) : LocP P ⟨dst, .binOp .shr t x y t', ty, pos, after, gd⟩ g N M (dInt k (m / q)) :=
  (loc_shr hx hy hc).conv (by rw [hq, Int.fdiv_eq_ediv_of_nonneg _ hq0])

theorem loc_mask32 (hx : opd g x = some (dInt .u64 m)) (hy : opd g y = some (dInt .u64 4294967295)) (h : 0 ≤ m ∧ m < 18446744073709551616) : LocP P ⟨dst, .binOp .and t x y t', ty, pos, after, gd⟩ g N M (dInt .u64 (m % 4294967296)) :=
  locP_of_run fun I a w hs _ => by
    refine ⟨_, run_binOp_int (opd_sound hs hx) (opd_sound hs hy) (by simp [binOp, Op.intBits]; rfl), ?_⟩
    obtain ⟨c, rfl⟩ := Int.eq_ofNat_of_zero_le h.1
    have e1 : (BitVec.ofInt 64 (c : Int)).toNat = c := by rw [BitVec.toNat_ofInt]; omega
    have e2 : (BitVec.ofInt 64 (4294967295 : Int)).toNat = 2 ^ 32 - 1 := by decide
    show Value.int .u64 (IntKind.u64.wrap ((BitVec.ofInt 64 (c : Int) &&& BitVec.ofInt 64 4294967295).toNat : Nat)) = _
    rw [BitVec.toNat_and, e1, e2, Nat.and_two_pow_sub_one_eq_mod, u64_in (by omega)]
    congr 1

end Go.Q

namespace Go.Q
open Classical

variable {P : Program} {f : FuncId} {N : Nat} {I0 : Imm} {g : G} {M : List Res} {k : List Item} {R : Goal}
variable {dst : Option Tmp} {ty : TypeId} {pos : String} {after : Array Edge} {gd : Option (Nat × Bool)}

/-- A function value: called with 'i' in the state s it answers q i and leaves a state that follows. -/
def dFunS (P : Program) {ι σ : Type} (Ds : ι → List D) (Rs : σ → List Res) (A : ι → σ → Prop) (Step : σ → ι → σ → Prop) (q : ι → Prop) : D :=
  ⟨fun I v => ∃ fn cap, v = .func (.func fn) #[] cap ∧ TyFn P fn ∧ ∀ i s (J : Imm) (M : List Res) (w : World) (vs : List Value), A i s → I.le J → relL (Ds i) J vs → Inv J (Rs s ++ M) w →
      Calls P fn (vs.toArray ++ cap) w fun e w' => ∃ v, e = .returned v ∧ ∃ J', J.le J' ∧ (dB (q i)).rel J' v ∧ ∃ s', Step s i s' ∧ Inv J' (Rs s' ++ M) w',
   fun h ⟨fn, cap, e, h1, h2⟩ => ⟨fn, cap, e, h1, fun i s J' M w vs ha hle => h2 i s J' M w vs ha (h.trans hle)⟩⟩

theorem clo_funS {fn : FuncId} {ι σ : Type} {Cs : List D} {Ds : ι → List D} {Rs : σ → List Res} {A : ι → σ → Prop} {Step : σ → ι → σ → Prop} {q : ι → Prop} [hf : TyFn P fn]
    (h : ∀ i s, A i s → Spec P fn (Ds i ++ Cs) (Rs s) (Step s i) (fun _ => dB (q i)) Rs) : ∀ I v, (dClo fn Cs).rel I v → (dFunS P Ds Rs A Step q).rel I v := by
  rintro I v ⟨cap, rfl, hr⟩
  refine ⟨fn, cap, rfl, hf, fun i s J M w vs ha hle hv hi => ?_⟩
  have := h i s ha J M w (vs ++ cap.toList) (relL_append hv (relL_mono hle hr)) hi
  rw [toArray_app] at this
  refine this.mono ?_
  rintro e w' ⟨v, rfl, s', h1, J', h2, h3, h4⟩
  exact ⟨v, rfl, J', h2, h3, s', h1, h4⟩

/-- A pure one. -/
theorem fun_funS {ι : Type} {Ds : ι → List D} {q : ι → Prop} : ∀ I v, (dFun P Ds (fun i => dB (q i))).rel I v → (dFunS P Ds (fun _ : Unit => []) (fun _ _ => True) (fun _ _ _ => True) q).rel I v := by
  rintro I v ⟨fn, cap, rfl, hf, h⟩
  refine ⟨fn, cap, rfl, hf, fun i s J M w vs _ hle hv hi => ?_⟩
  refine (h i J M w vs hle hv hi).mono ?_
  rintro e w' ⟨v, rfl, J', h1, h2, h3⟩
  exact ⟨v, rfl, J', h1, h2, (), trivial, h3⟩

theorem loc_callFunS {c : Operand} {xs : List Operand} {ats : Array TypeId} {ι σ : Type} {Ds : ι → List D} {Rs : σ → List Res} {A : ι → σ → Prop} {Step : σ → ι → σ → Prop} {q : ι → Prop} (i : ι) (s : σ) (ha : A i s) (hc : opd g c = some (dFunS P Ds Rs A Step q)) (hx : opds g xs = some (Ds i)) :
    LocM P ⟨dst, .call ⟨.value c, xs.toArray, ats⟩, ty, pos, after, gd⟩ g N (Rs s) (Step s i) (fun _ => dB (q i)) Rs := by
  constructor
  intro F I a w K Q hsl hi hK
  obtain ⟨fn, cap, hv, hf, h⟩ := opd_sound hsl hc
  unfold Oper.wp
  rw [execOp_call_slot hv, run_callFunc hf]
  refine Calls.mono (h i s I F w _ ha I.le_refl (opds_sound hsl hx) hi) ?_
  rintro e w' ⟨v, rfl, J, h1, h2, s', h3, h4⟩
  exact hK s' v w' J h3 h1 h2 h4

/-- An operation that turns what lies behind the first. -/
theorem run_opU {ops : Array Oper} {rest : List Oper} {dst : Tmp} {op : Op} {r0 : Res} {Min F : List Res} {σ : Type} {φ : σ → Prop} {d : σ → D} {Mout : σ → List Res}
    (hN : Nat.blt dst N = true) (hd : LocM P ⟨some dst, op, ty, pos, after, none⟩ g N Min φ d Mout) (h : ∀ s, φ s → RunL P f N I0 R ((dst, d s) :: g) (r0 :: (Mout s ++ F)) ops rest k) :
    RunL P f N I0 R g (r0 :: (Min ++ F)) ops (⟨some dst, op, ty, pos, after, none⟩ :: rest) k := by
  constructor
  intro I a w b cs hb hk hl hs hi
  have hp : (r0 :: (Min ++ F)).Perm (Min ++ (r0 :: F)) := List.perm_middle.symm
  refine wpl_plain hs.defers rfl fun K hK => ?_
  refine hd.go (r0 :: F) I a w K _ hs (hi.perm hp) fun s v w' J hφ hle hv hi' => hK _ _ ?_
  exact (h s hφ).go J _ w' b cs hb hk (hl.trans hle) ((hs.mono hle).put hv (by simpa [Nat.blt_eq] using hN)) (hi'.perm List.perm_middle)

/-- One state after the other. -/
def stepsL {ι σ : Type} (Step : σ → ι → σ → Prop) : σ → List ι → σ → Prop
  | s, [], s' => s' = s
  | s, x :: xs, s' => ∃ s1, Step s x s1 ∧ stepsL Step s1 xs s'

theorem stepsL_snoc {ι σ : Type} {Step : σ → ι → σ → Prop} : ∀ {xs : List ι} {s s1 s2 : σ} {x : ι}, stepsL Step s xs s1 → Step s1 x s2 → stepsL Step s (xs ++ [x]) s2
  | [], s, s1, s2, x, h1, h2 => ⟨s2, by rw [show s1 = s from h1] at h2; exact h2, rfl⟩
  | y :: ys, s, s1, s2, x, ⟨s3, h3, h4⟩, h2 => ⟨s3, h3, stepsL_snoc h4 h2⟩

theorem stepsL_app {ι σ : Type} {Step : σ → ι → σ → Prop} : ∀ {xs ys : List ι} {s s1 s2 : σ}, stepsL Step s xs s1 → stepsL Step s1 ys s2 → stepsL Step s (xs ++ ys) s2
  | [], ys, s, s1, s2, h1, h2 => by rw [show s1 = s from h1] at h2; exact h2
  | y :: xs, ys, s, s1, s2, ⟨s3, h3, h4⟩, h2 => ⟨s3, h3, stepsL_app h4 h2⟩

noncomputable def flt {α : Type} (q : α → Prop) : List α → List α
  | [] => []
  | x :: xs => if q x then x :: flt q xs else flt q xs

theorem flt_app {α : Type} (q : α → Prop) : ∀ xs ys : List α, flt q (xs ++ ys) = flt q xs ++ flt q ys
  | [], ys => rfl
  | x :: xs, ys => by simp only [List.cons_append, flt, flt_app q xs ys]; split <;> simp
theorem flt_len {α : Type} (q : α → Prop) : ∀ xs : List α, (flt q xs).length ≤ xs.length
  | [] => Nat.le_refl _
  | x :: xs => by have := flt_len q xs; simp only [flt]; split <;> simp <;> omega
theorem flt_none {α : Type} {q : α → Prop} : ∀ {xs : List α}, (∀ x ∈ xs, ¬ q x) → flt q xs = []
  | [], _ => rfl
  | x :: xs, h => by rw [flt, if_neg (h x (List.mem_cons_self ..)), flt_none (fun y hy => h y (List.mem_cons_of_mem _ hy))]
theorem flt_all {α : Type} {q : α → Prop} : ∀ {xs : List α}, (∀ x ∈ xs, q x) → flt q xs = xs
  | [], _ => rfl
  | x :: xs, h => by rw [flt, if_pos (h x (List.mem_cons_self ..)), flt_all (fun y hy => h y (List.mem_cons_of_mem _ hy))]
theorem mem_flt {α : Type} {q : α → Prop} : ∀ {xs : List α} {x : α}, x ∈ flt q xs ↔ x ∈ xs ∧ q x
  | [], x => by simp [flt]
  | y :: ys, x => by
    simp only [flt]
    split
    · rename_i h
      rw [List.mem_cons, mem_flt, List.mem_cons]
      constructor
      · rintro (rfl | ⟨h1, h2⟩)
        · exact ⟨.inl rfl, h⟩
        · exact ⟨.inr h1, h2⟩
      · rintro ⟨rfl | h1, h2⟩
        · exact .inl rfl
        · exact .inr ⟨h1, h2⟩
    · rename_i h
      rw [mem_flt, List.mem_cons]
      constructor
      · rintro ⟨h1, h2⟩
        exact ⟨.inr h1, h2⟩
      · rintro ⟨rfl | h1, h2⟩
        · exact absurd h2 h
        · exact ⟨h1, h2⟩
theorem flt_take {α : Type} [Inhabited α] (q : α → Prop) {xs : List α} {k : Nat} (h : k < xs.length) : flt q (xs.take (k + 1)) = flt q (xs.take k) ++ if q (xs[k]?.getD default) then [xs[k]?.getD default] else [] := by
  rw [List.take_add_one, List.getElem?_eq_getElem h, flt_app]
  simp [flt]

theorem run_opC {ops : Array Oper} {rest : List Oper} {dst : Tmp} {op : Op} {r0 : Res} {Min F : List Res} {σ : Type} {r1 : σ → Res} {φ : σ → Prop} {d : σ → D} {Mout : σ → List Res}
    (hN : Nat.blt dst N = true) (hd : LocM P ⟨some dst, op, ty, pos, after, none⟩ g N (r0 :: Min) φ d (fun s => r1 s :: Mout s)) (h : ∀ s, φ s → RunL P f N I0 R ((dst, d s) :: g) (r1 s :: (Mout s ++ F)) ops rest k) :
    RunL P f N I0 R g (r0 :: (Min ++ F)) ops (⟨some dst, op, ty, pos, after, none⟩ :: rest) k :=
  run_opM (Min := r0 :: Min) (Mout := fun s => r1 s :: Mout s) hd hN h

theorem buf_get {α : Type} [Inhabited α] {f' : α → List D} {xs : List α} {J : List (List D)} {q i : Nat} (hi : i < xs.length) (hq : q = i) : (xs.map f' ++ J)[q]? = some (f' (xs[i]?.getD default)) := by
  subst hq
  rw [List.getElem?_append_left (by simpa using hi), List.getElem?_map, List.getElem?_eq_getElem hi]
  rfl

/-- What DeleteFunc has made of its elements, in the middle. -/
theorem delf_get {α : Type} [Inhabited α] {f' : α → List D} {A B xs : List α} {J : List (List D)} {q j : Nat} (hj : j < xs.length) (hq : q = j) (hl : A.length + B.length = j) : ((A ++ B ++ xs.drop j).map f' ++ J)[q]? = some (f' (xs[j]?.getD default)) := by
  rw [buf_get (i := j) (by simp; omega) hq, List.getElem?_append_right (by simp; omega), List.getElem?_drop]
  simp [hl]

theorem drop_cons' {α : Type} [Inhabited α] {xs : List α} {j : Nat} (hj : j < xs.length) : xs.drop j = xs[j]?.getD default :: xs.drop (j + 1) := by
  rw [List.drop_eq_getElem_cons hj, List.getElem?_eq_getElem hj]
  rfl

theorem delf_store {α : Type} [Inhabited α] {f' : α → List D} {A B xs : List α} {J : List (List D)} {q j : Nat} (hj : j < xs.length) (hq : q = A.length) (hB : 0 < B.length) :
    ((A ++ B ++ xs.drop j).map f' ++ J).set q (f' (xs[j]?.getD default)) = ((A ++ [xs[j]?.getD default]) ++ (B.drop 1 ++ [xs[j]?.getD default]) ++ xs.drop (j + 1)).map f' ++ J := by
  subst hq
  match B, hB with
  | b :: B, _ =>
    rw [drop_cons' hj]
    simp [List.set_append]

theorem delf_skip {α : Type} [Inhabited α] {f' : α → List D} {A B xs : List α} {J : List (List D)} {j : Nat} (hj : j < xs.length) :
    (A ++ B ++ xs.drop j).map f' ++ J = (A ++ (B ++ [xs[j]?.getD default]) ++ xs.drop (j + 1)).map f' ++ J := by
  rw [drop_cons' hj]
  simp

theorem delf_start {α : Type} [Inhabited α] {f' : α → List D} {xs : List α} {q : α → Prop} {J : List (List D)} {i : Nat} (hi : i < xs.length) (hb : ∀ j, j < i → q (xs[j]?.getD default)) (h : ¬ q (xs[i]?.getD default)) :
    xs.map f' ++ J = (flt q (xs.take (i + 1)) ++ [xs[i]?.getD default] ++ xs.drop (i + 1)).map f' ++ J := by
  rw [flt_take q hi, if_neg h, flt_all (forall_getD (fun j hj => by
    simp at hj
    have := hb j (by omega)
    rwa [List.getElem?_take, if_pos (by omega)]))]
  congr 2
  rw [List.append_nil, ← take_snoc hi, List.take_append_drop]

theorem delf_end {α : Type} {f' : α → List D} {A B xs : List α} {J : List (List D)} {n q m j : Nat} (hj : xs.length ≤ j) (hq : q = A.length) (hm : m = B.length) : put ((A ++ B ++ xs.drop j).map f' ++ J) q (junk n m) = A.map f' ++ (junk n m ++ J) := by
  rw [hq, hm, List.drop_eq_nil_of_le hj, List.append_nil, List.map_append, List.append_assoc]
  unfold put
  rw [List.take_left' (by simp), junk_length, List.append_assoc]
  congr 2
  rw [← List.append_assoc, List.drop_append, List.drop_eq_nil_of_le (by simp), List.nil_append]
  simp

theorem idxP_ge {α : Type} (q : α → Prop) : ∀ xs : List α, -1 ≤ idxP q xs
  | [] => by simp [idxP]
  | x :: xs => by have := idxP_ge q xs; simp only [idxP]; split <;> (try split) <;> omega

theorem idxP_neg {α : Type} {q : α → Prop} {xs : List α} (h : idxP q xs < 0) : ∀ x ∈ xs, ¬ q x := fun x hx hq => by
  have := idxP_nonneg.2 ⟨x, hx, hq⟩
  omega

theorem idxP_get {α : Type} [Inhabited α] {q : α → Prop} : ∀ {xs : List α} (i : Nat), idxP q xs = i → i < xs.length ∧ (∀ j, j < i → ¬ q (xs[j]?.getD default)) ∧ q (xs[i]?.getD default)
  | [], i, h => by simp [idxP] at h
  | x :: xs, i, h => by
    by_cases hx : q x
    · simp only [idxP, if_pos hx] at h
      have : i = 0 := by omega
      subst this
      exact ⟨by simp, fun j hj => by omega, by simpa using hx⟩
    · by_cases hn : idxP q xs < 0
      · simp only [idxP, if_neg hx, if_pos hn] at h; omega
      · simp only [idxP, if_neg hx, if_neg hn] at h
        match i, h with
        | 0, h => omega
        | i + 1, h =>
          obtain ⟨h1, h2, h3⟩ := idxP_get (q := q) (xs := xs) i (by omega)
          refine ⟨by simpa using h1, fun j hj => ?_, by simpa using h3⟩
          cases j with
          | zero => simpa using hx
          | succ j => simpa using h2 j (by omega)

/-- A row of which the handle is written out is opened. -/
theorem run_openSl {α : Type} {b len cap : Nat} {T n : Nat} {f' : α → List D} {xs : List α} {C : Res → List Res} {F : List Res} (hm : Sel (rRow (.slice (some ⟨b, 0, none⟩) len cap) T n f' xs) M C F)
    (h : len = xs.length → xs.length ≤ cap → cap ≤ maxLen → xs.length ≤ lenMax → Run P f N I0 R g (C (rBuf b T n (xs.map f' ++ junk n (cap - xs.length)))) k) : Run P f N I0 R g M k := by
  constructor
  intro I a w b' cs hb hk hl hs hi
  obtain ⟨h3, h4, h5, h6, h7, h8⟩ := row_open (hi.perm hm.perm.1)
  exact (h h3 h4 h5 h6).go I a w b' cs hb hk hl hs (h8.perm (hm.perm.2 _))

/-- A list some times over. -/
def reps {α : Type} : Nat → List α → List α
  | 0, _ => []
  | c + 1, xs => xs ++ reps c xs

theorem reps_len {α : Type} (xs : List α) : ∀ c, (reps c xs).length = c * xs.length
  | 0 => by simp [reps]
  | c + 1 => by rw [reps, List.length_append, reps_len xs c, Nat.add_mul]; omega

theorem reps_one {α : Type} (x : α) : ∀ c, reps c [x] = List.replicate c x
  | 0 => rfl
  | c + 1 => by rw [reps, reps_one x c]; rfl

theorem reps_snoc {α : Type} (xs : List α) : ∀ c, reps (c + 1) xs = reps c xs ++ xs
  | 0 => by simp [reps]
  | c + 1 => by
    show xs ++ reps (c + 1) xs = (xs ++ reps c xs) ++ xs
    rw [reps_snoc xs c, List.append_assoc]

theorem reps_add {α : Type} (xs : List α) : ∀ a b, reps (a + b) xs = reps a xs ++ reps b xs
  | 0, b => by simp [reps]
  | a + 1, b => by rw [show a + 1 + b = (a + b) + 1 by omega, reps, reps_add xs a b, reps, List.append_assoc]

/-- Where a doubling has come to: 'n' elements, m times the list, or all of it. -/
theorem reps_step {α : Type} {xs ys : List α} {c n a m : Nat} (hl : ys.length = c * xs.length) (ht : ys.take n = (reps c xs).take n) (hn : n = a * xs.length) (hac : a ≤ c) (hm : m = min n (c * xs.length - n)) :
    (ys.take n ++ ys.take m ++ ys.drop (n + m)).take (n + m) = (reps c xs).take (n + m) := by
  have hnl : n ≤ c * xs.length := by rw [hn]; exact Nat.mul_le_mul_right _ hac
  have h1 : (ys.take n ++ ys.take m).length = n + m := by simp; omega
  rw [← h1, List.take_left, h1]
  have h2 : (reps c xs).take n = reps a xs := by
    rw [show c = a + (c - a) by omega, reps_add, hn, ← reps_len xs a, List.take_left]
  have h3 : (reps c xs).drop n = reps (c - a) xs := by
    rw [show c = a + (c - a) by omega, reps_add, hn, ← reps_len xs a, List.drop_left]
    congr 1
    omega
  rw [List.take_add, h3, ht]
  congr 1
  have h4 : ys.take m = (ys.take n).take m := by rw [List.take_take]; congr 1; omega
  rw [h4, ht, List.take_take, show min m n = m by omega]
  -- the first m of c times and of (c - a) times are alike
  have h5 : m ≤ (c - a) * xs.length := by
    rw [Nat.sub_mul, ← hn]
    omega
  rw [show c = (c - a) + a by omega, reps_add, List.take_append_of_le_length (by rw [reps_len]; exact h5), show c - a + a - a = c - a by omega]

structure RepI {α : Type} (c : Nat) (xs : List α) (T : Nat) (s : Nat × List α) : Prop where
  len : s.2.length = T
  le : s.1 ≤ T
  eq : s.2.take s.1 = (reps c xs).take s.1
  mul : s.1 < T → 0 < s.1 ∧ ∃ a, s.1 = a * xs.length ∧ a ≤ c

theorem repI_start {α : Type} {c T : Nat} {xs : List α} {x0 : α} (hT : T = c * xs.length) : RepI c xs T (min xs.length T, xs.take (min xs.length T) ++ List.replicate (T - min xs.length T) x0) := by
  subst hT
  match c with
  | 0 => exact ⟨by simp, by simp, by simp, fun h => by simp at h⟩
  | c + 1 =>
    have h1 : xs.length ≤ (c + 1) * xs.length := by rw [Nat.add_mul]; omega
    rw [Nat.min_eq_left h1]
    refine ⟨by simp; omega, h1, ?_, fun h => ⟨?_, 1, by simp, by omega⟩⟩
    · simp only [List.take_length]
      rw [List.take_left, reps, List.take_left]
    · simp only at h ⊢
      rcases Nat.eq_zero_or_pos xs.length with h0 | h0
      · rw [h0] at h; omega
      · exact h0

theorem repI_next {α : Type} {c T : Nat} {xs : List α} {s : Nat × List α} (hT : T = c * xs.length) (h : RepI c xs T s) (hlt : s.1 < T) :
    RepI c xs T (s.1 + min s.1 (T - s.1), s.2.take s.1 ++ s.2.take (min s.1 (T - s.1)) ++ s.2.drop (s.1 + min s.1 (T - s.1))) := by
  obtain ⟨h1, h2, h3, h4⟩ := h
  obtain ⟨h5, a, h6, h7⟩ := h4 hlt
  subst hT
  refine ⟨by simp; omega, by simp only; omega, reps_step h1 h3 h6 h7 rfl, fun hl => ⟨by simp only; omega, 2 * a, ?_, ?_⟩⟩
  · simp only at hl ⊢
    rw [Nat.mul_assoc, ← h6]; omega
  · simp only at hl
    rcases Nat.lt_or_ge c (2 * a) with hc | hc
    · have := Nat.mul_le_mul_right xs.length (Nat.le_of_lt hc)
      rw [Nat.mul_assoc, ← h6] at this
      omega
    · exact hc

theorem repI_end {α : Type} {c T : Nat} {xs : List α} {s : Nat × List α} (hT : T = c * xs.length) (h : RepI c xs T s) (hge : T ≤ s.1) : s.2 = reps c xs := by
  obtain ⟨h1, h2, h3, h4⟩ := h
  rwa [List.take_of_length_le (by omega), List.take_of_length_le (by rw [reps_len]; omega)] at h3

/-! ### Handles of rows, told by name -/

theorem LocP.up {o : Oper} {d d' : D} (h : LocP P o g N M d) (hd : ∀ I v, d.rel I v → d'.rel I v) : LocP P o g N M d' :=
  ⟨fun I a w K Q hs hi hK => h.go I a w K Q hs hi fun v w' J h1 h2 h3 => hK v w' J h1 (hd _ _ h2) h3⟩
theorem LocP.upV {o : Oper} {v : Value} (h : LocP P o g N M (dSlV v)) : LocP P o g N M (dVal v) := h.up fun _ _ h => h.1

theorem specV {Ds : List D} {Min : List Res} {T n : Nat} {α σ : Type} {φ : σ → Prop} {f' : α → List D} {v : σ → Value} {xs : σ → List α} {Rs : σ → List Res}
    (h : Spec P f Ds Min φ (fun s => dVal (v s)) (fun s => rRow (v s) T n f' (xs s) :: Rs s)) : Spec P f Ds Min φ (fun s => dSlV (v s)) (fun s => rRow (v s) T n f' (xs s) :: Rs s) := by
  intro I F w vs hv hi
  refine (h I F w vs hv hi).mono ?_
  rintro e w' ⟨u, rfl, s, h0, J, h1, h2, h3⟩
  refine ⟨u, rfl, s, h0, J, h1, ⟨h2, ?_⟩, h3⟩
  rw [show u = v s from h2]
  exact row_slice h3

theorem run_freezeRowCellV {b kk : Nat} {T' : TypeId} {ds : List D} {C C' : Res → List Res} {F F' : List Res} {α : Type} {T n : Nat} {f' : α → List D} {xs : List α} {v : Value} (hm : Sel (rRow v T n f' xs) M C F) (hc : Sel (rCells b T' ds) F C' F') (hk : ds[kk]? = some (dSlV v))
    (h : Run P f N I0 R g (C' (rCells b T' (ds.set kk (dSl n f' xs)))) k) : Run P f N I0 R g M k :=
  run_freezeUp (dSlV v) (dSl n f' xs) hm hc hk (fun J u h1 h2 => by rw [show u = v from h1.1]; exact h2) h

/-! ### Rows that become immutable at once -/

/-- A turn that gives a row becomes one that gives a row that no longer changes. -/
theorem LocM.frz {o : Oper} {Min : List Res} {T n : Nat} {α : Type} {f' : α → List D} {xs : List α} (h : LocM P o g N Min (fun _ : Value => True) (fun v => dVal v) (fun v => [rRow v T n f' xs])) {r : Res} (hr : Min = [r]) :
    LocM P o g N [r] (fun _ : Unit => True) (fun _ => dSl n f' xs) (fun _ => [rNone]) := by
  subst hr
  constructor
  intro F I a w K Q hs hi hK
  refine h.go F I a w K Q hs hi fun v u w' J _ h1 h2 h3 => ?_
  obtain ⟨J', h4, h5, h6⟩ := row_freeze h3
  refine hK () u w' J' trivial (h1.trans h4) ?_ (none_ok h6)
  rw [show u = v from h2]
  exact h5
theorem LocM.frz0 {o : Oper} {T n : Nat} {α : Type} {f' : α → List D} {xs : List α} (h : LocM P o g N [] (fun _ : Value => True) (fun v => dVal v) (fun v => [rRow v T n f' xs])) : LocP P o g N M (dSl n f' xs) := by
  constructor
  intro I a w K Q hs hi hK
  refine h.go M I a w K Q hs hi fun v u w' J _ h1 h2 h3 => ?_
  obtain ⟨J', h4, h5, h6⟩ := row_freeze h3
  refine hK u w' J' (h1.trans h4) ?_ h6
  rw [show u = v from h2]
  exact h5

end Go.Q

namespace Go.Q

structure Ans where
  known : Prop
  row : List Int
deriving Inhabited
structure Nte where
  kind : Int
  read : Int
  probe : Int
  server : Int
  version : Int
  query : List Int
  values : List Int
  mark : Int
deriving Inhabited
structure Held where
  head : Hd
  rows : List (List Int)
deriving Inhabited
structure Job where
  read : Int
  probe : Int
  version : Int
  query : List Int
  got : List Int
deriving Inhabited
structure Srv where
  id : Int
  scheme : Schm
  up : Prop
  versions : List Held
  jobs : List Job
structure Psn where
  id : Int
  secret : Int
deriving Inhabited

abbrev cAns (a : Ans) : List D := [dB a.known, dInts a.row]
abbrev cNte (n : Nte) : List D := [dInt .i64 n.kind, dInt .i64 n.read, dInt .i64 n.probe, dInt .i64 n.server, dInt .i64 n.version, dInts n.query, dInts n.values, dInt .i64 n.mark]
abbrev cHeld (h : Held) : List D := [dInt .i64 h.head.number, dInt .i64 h.head.p, dInt .i64 h.head.count, dInt .i64 h.head.width, dInt .i64 h.head.root, dRows h.rows]
abbrev cJob (j : Job) : List D := [dInt .i64 j.read, dInt .i64 j.probe, dInt .i64 j.version, dInts j.query, dInts j.got]
abbrev cSrv (v : Srv) : List D := [dInt .i64 v.id, dInt .i64 v.scheme.kind, dInt .i64 v.scheme.servers, dInt .i64 v.scheme.degree, dInt .i64 v.scheme.group, dB v.up, dSl 6 cHeld v.versions, dSl 5 cJob v.jobs]
abbrev cPsn (p : Psn) : List D := [dInt .i64 p.id, dInt .i64 p.secret]
abbrev dHeld (x : Held) : D := dAgg (cHeld x)
abbrev dJob (x : Job) : D := dAgg (cJob x)
abbrev dSrv (x : Srv) : D := dAgg (cSrv x)
abbrev dNte (x : Nte) : D := dAgg (cNte x)
abbrev dPsn (x : Psn) : D := dAgg (cPsn x)

end Go.Q

namespace Go.Q
open Go.Proofs

open Classical
noncomputable abbrev bsF {α : Type} [Inhabited α] (cm : α → Int) (xs : List α) : Nat := bsGo (fun h => cm (xs[h]?.getD default) < 0) 0 xs.length
theorem cloneHlM_spec (xs : List (Held)) (hb : xs.length * 64 ≤ 140737488355328) : Spec Try.prog 52 [dSl 6 cHeld xs] [] (σ := Value) (fun _ => True) (fun v => dVal v) (fun v => [rRow v 80 6 cHeld xs]) := by
  refine spec_of_body Try.func52 rfl rfl (fun I F => ?_)
  refine run_seq ?_
  refine run_fact (s := 0) rfl (fun _ _ h => dSl_len h) (fun hlen => ?_)
  refine run_region ?_
  refine run_op (loc_assign rfl) rfl ?_
  refine run_nil ?_
  refine run_seq ?_
  refine run_seq ?_
  refine run_region ?_
  refine run_op (loc_move rfl) rfl ?_
  refine run_ex (loc_eqlNil rfl) rfl (fun e1 he1 => ?_)
  refine run_nil ?_
  refine run_cond rfl (fun h2 => ?_) (fun h2 => ?_)
  ·
    refine run_seq ?_
    refine run_region ?_
    refine run_op (loc_assign rfl) rfl ?_
    refine run_nil ?_
    refine run_ret (.slice none 0 0) Try.func52 rfl rfl ?_ (trivial) (fun _ _ h => by rw [he1 (by assumption)]; exact nil_ok h)
    exact fun _ _ h => h
  ·
    refine run_skip ?_
    refine run_seq ?_
    refine run_region ?_
    refine run_new (loc_build0 cHeld) rfl (fun b3 _ => ?_)
    refine run_op (loc_move rfl) rfl ?_
    refine run_append rfl (.here) rfl (by rfl) (by first | omega | (unfold lenMax; omega) | assumption | (simp; omega) | (simp [lenMax]; omega)) (by first | omega | (unfold lenMax; omega) | assumption | (simp; omega) | (simp [lenMax]; omega)) rfl (fun v4 => ?_)
    refine run_op (loc_assign rfl) rfl ?_
    refine run_nil ?_
    refine run_ret (v4) Try.func52 rfl rfl ?_ (trivial) (fun _ _ h => h)
    exact fun _ _ h => h

theorem cloneHl_spec (xs : List (Held)) (hb : xs.length * 64 ≤ 140737488355328) : SpecP Try.prog 52 [dSl 6 cHeld xs] (dSl 6 cHeld xs) := spec_freeze (cloneHlM_spec xs hb)
theorem cloneJbM_spec (xs : List (Job)) (hb : xs.length * 72 ≤ 140737488355328) : Spec Try.prog 53 [dSl 5 cJob xs] [] (σ := Value) (fun _ => True) (fun v => dVal v) (fun v => [rRow v 84 5 cJob xs]) := by
  refine spec_of_body Try.func53 rfl rfl (fun I F => ?_)
  refine run_seq ?_
  refine run_fact (s := 0) rfl (fun _ _ h => dSl_len h) (fun hlen => ?_)
  refine run_region ?_
  refine run_op (loc_assign rfl) rfl ?_
  refine run_nil ?_
  refine run_seq ?_
  refine run_seq ?_
  refine run_region ?_
  refine run_op (loc_move rfl) rfl ?_
  refine run_ex (loc_eqlNil rfl) rfl (fun e1 he1 => ?_)
  refine run_nil ?_
  refine run_cond rfl (fun h2 => ?_) (fun h2 => ?_)
  ·
    refine run_seq ?_
    refine run_region ?_
    refine run_op (loc_assign rfl) rfl ?_
    refine run_nil ?_
    refine run_ret (.slice none 0 0) Try.func53 rfl rfl ?_ (trivial) (fun _ _ h => by rw [he1 (by assumption)]; exact nil_ok h)
    exact fun _ _ h => h
  ·
    refine run_skip ?_
    refine run_seq ?_
    refine run_region ?_
    refine run_new (loc_build0 cJob) rfl (fun b3 _ => ?_)
    refine run_op (loc_move rfl) rfl ?_
    refine run_append rfl (.here) rfl (by rfl) (by first | omega | (unfold lenMax; omega) | assumption | (simp; omega) | (simp [lenMax]; omega)) (by first | omega | (unfold lenMax; omega) | assumption | (simp; omega) | (simp [lenMax]; omega)) rfl (fun v4 => ?_)
    refine run_op (loc_assign rfl) rfl ?_
    refine run_nil ?_
    refine run_ret (v4) Try.func53 rfl rfl ?_ (trivial) (fun _ _ h => h)
    exact fun _ _ h => h

theorem cloneJb_spec (xs : List (Job)) (hb : xs.length * 72 ≤ 140737488355328) : SpecP Try.prog 53 [dSl 5 cJob xs] (dSl 5 cJob xs) := spec_freeze (cloneJbM_spec xs hb)
theorem cloneIM_spec (xs : List (Int)) (hb : xs.length * 8 ≤ 140737488355328) : Spec Try.prog 64 [dSl 1 fI xs] [] (σ := Value) (fun _ => True) (fun v => dVal v) (fun v => [rRow v 3 1 fI xs]) := by
  refine spec_of_body Try.func64 rfl rfl (fun I F => ?_)
  refine run_seq ?_
  refine run_fact (s := 0) rfl (fun _ _ h => dSl_len h) (fun hlen => ?_)
  refine run_region ?_
  refine run_op (loc_assign rfl) rfl ?_
  refine run_nil ?_
  refine run_seq ?_
  refine run_seq ?_
  refine run_region ?_
  refine run_op (loc_move rfl) rfl ?_
  refine run_ex (loc_eqlNil rfl) rfl (fun e1 he1 => ?_)
  refine run_nil ?_
  refine run_cond rfl (fun h2 => ?_) (fun h2 => ?_)
  ·
    refine run_seq ?_
    refine run_region ?_
    refine run_op (loc_assign rfl) rfl ?_
    refine run_nil ?_
    refine run_ret (.slice none 0 0) Try.func64 rfl rfl ?_ (trivial) (fun _ _ h => by rw [he1 (by assumption)]; exact nil_ok h)
    exact fun _ _ h => h
  ·
    refine run_skip ?_
    refine run_seq ?_
    refine run_region ?_
    refine run_new (loc_build0 fI) rfl (fun b3 _ => ?_)
    refine run_op (loc_move rfl) rfl ?_
    refine run_append rfl (.here) rfl (by rfl) (by first | omega | (unfold lenMax; omega) | assumption | (simp; omega) | (simp [lenMax]; omega)) (by first | omega | (unfold lenMax; omega) | assumption | (simp; omega) | (simp [lenMax]; omega)) rfl (fun v4 => ?_)
    refine run_op (loc_assign rfl) rfl ?_
    refine run_nil ?_
    refine run_ret (v4) Try.func64 rfl rfl ?_ (trivial) (fun _ _ h => h)
    exact fun _ _ h => h

theorem cloneI_spec (xs : List (Int)) (hb : xs.length * 8 ≤ 140737488355328) : SpecP Try.prog 64 [dSl 1 fI xs] (dSl 1 fI xs) := spec_freeze (cloneIM_spec xs hb)
theorem cloneRM_spec (xs : List (List Int)) (hb : xs.length * 24 ≤ 140737488355328) : Spec Try.prog 84 [dSl 1 fR xs] [] (σ := Value) (fun _ => True) (fun v => dVal v) (fun v => [rRow v 35 1 fR xs]) := by
  refine spec_of_body Try.func84 rfl rfl (fun I F => ?_)
  refine run_seq ?_
  refine run_fact (s := 0) rfl (fun _ _ h => dSl_len h) (fun hlen => ?_)
  refine run_region ?_
  refine run_op (loc_assign rfl) rfl ?_
  refine run_nil ?_
  refine run_seq ?_
  refine run_seq ?_
  refine run_region ?_
  refine run_op (loc_move rfl) rfl ?_
  refine run_ex (loc_eqlNil rfl) rfl (fun e1 he1 => ?_)
  refine run_nil ?_
  refine run_cond rfl (fun h2 => ?_) (fun h2 => ?_)
  ·
    refine run_seq ?_
    refine run_region ?_
    refine run_op (loc_assign rfl) rfl ?_
    refine run_nil ?_
    refine run_ret (.slice none 0 0) Try.func84 rfl rfl ?_ (trivial) (fun _ _ h => by rw [he1 (by assumption)]; exact nil_ok h)
    exact fun _ _ h => h
  ·
    refine run_skip ?_
    refine run_seq ?_
    refine run_region ?_
    refine run_new (loc_build0 fR) rfl (fun b3 _ => ?_)
    refine run_op (loc_move rfl) rfl ?_
    refine run_append rfl (.here) rfl (by rfl) (by first | omega | (unfold lenMax; omega) | assumption | (simp; omega) | (simp [lenMax]; omega)) (by first | omega | (unfold lenMax; omega) | assumption | (simp; omega) | (simp [lenMax]; omega)) rfl (fun v4 => ?_)
    refine run_op (loc_assign rfl) rfl ?_
    refine run_nil ?_
    refine run_ret (v4) Try.func84 rfl rfl ?_ (trivial) (fun _ _ h => h)
    exact fun _ _ h => h

theorem cloneR_spec (xs : List (List Int)) (hb : xs.length * 24 ≤ 140737488355328) : SpecP Try.prog 84 [dSl 1 fR xs] (dSl 1 fR xs) := spec_freeze (cloneRM_spec xs hb)
theorem indexFuncJb_spec (q : Job → Prop) (xs : List (Job)) : SpecP Try.prog 69 [dSl 5 cJob xs, dFun Try.prog (fun x : Job => [dAgg (cJob x)]) (fun x => dB (q x))] (dInt .i64 (idxP q xs)) := by
  refine specP_of_body Try.func69 rfl rfl (fun I M => ?_)
  refine run_seq ?_
  refine run_region ?_
  refine run_op (loc_assign rfl) rfl ?_
  refine run_nil ?_
  refine run_seq ?_
  refine run_seq ?_
  refine run_region ?_
  refine run_op (loc_move rfl) rfl ?_
  first | refine runL_fact (s := 6) rfl (fun _ _ h => dSl_len h) (fun hlen1 => ?_) | skip
  refine run_op (loc_len rfl) rfl ?_
  refine run_op (loc_move rfl) rfl ?_
  refine run_nil ?_
  refine run_block ?_
  refine run_loopC (σ := Nat) (ks := [0, 1, 7]) (.cons rfl (.cons rfl (.cons rfl (.nil)))) (fun k => [(8, dInt .i64 (k : Nat))]) (fun k => k ≤ xs.length ∧ (∀ j, j < k → ¬ q (xs[j]?.getD default))) (fun k => xs.length - k) (0) (⟨by omega, fun j hj => by omega⟩) (.cons rfl (by first | exact fun _ _ h => h | exact d_int (by omega) | exact d_int (by simp) | exact d_intN (by omega) | exact d_any) .nil) ?_
  rintro k ⟨hk, hbk⟩ ih2
  refine run_seq ?_
  refine run_region ?_
  refine run_op (loc_lss rfl rfl) rfl ?_
  refine run_nil ?_
  refine run_seq ?_
  refine run_cond rfl (fun h3 => ?_) (fun h3 => ?_)
  ·
    refine run_skip ?_
    refine run_seq ?_
    refine run_block ?_
    refine run_seq ?_
    refine run_region ?_
    refine run_op (loc_move rfl) rfl ?_
    refine run_op (loc_assign rfl) rfl ?_
    refine run_nil ?_
    refine run_seq ?_
    refine run_region ?_
    refine run_op (loc_move rfl) rfl ?_
    refine run_op (loc_move rfl) rfl ?_
    refine run_op (loc_move rfl) rfl ?_
    first | refine run_op (loc_index rfl rfl (by first | omega | assumption)) rfl ?_ | refine run_op (loc_indexI rfl rfl (by first | omega | assumption)) rfl ?_
    refine run_op (loc_loadN rfl rfl) rfl ?_
    refine run_op (loc_callFun (xs[k]?.getD default) rfl rfl) rfl ?_
    refine run_nil ?_
    refine run_cond rfl (fun h4 => ?_) (fun h4 => ?_)
    ·
      refine run_seq ?_
      refine run_region ?_
      refine run_op (loc_move rfl) rfl ?_
      refine run_op (loc_assign rfl) rfl ?_
      refine run_nil ?_
      refine run_retP Try.func69 rfl rfl ?_
      exact d_int (idxP_at (by omega) hbk (by assumption)).symm
    ·
      refine run_skip ?_
      refine run_inBlock ?_
      refine run_region ?_
      first | refine run_op (loc_add rfl rfl (by first | omega | assumption)) rfl ?_ | refine run_op (loc_addW rfl rfl) rfl ?_
      refine run_op (loc_move rfl) rfl ?_
      refine run_nil ?_
      exact run_againC ih2 (k + 1) (⟨by omega, fun j hj => by by_cases e : j = k; (· subst e; assumption); (· exact hbk j (by omega))⟩) (by omega) (.cons rfl (by first | exact fun _ _ h => h | exact d_int (by omega) | exact d_int (by simp) | exact d_intN (by omega) | exact d_any) .nil) (.cons rfl (fun _ _ x => x) (.cons rfl (fun _ _ x => x) (.cons rfl (fun _ _ x => x) (.nil))))
  ·
    refine run_exit rfl ?_
    refine run_seq ?_
    refine run_region ?_
    refine run_op (loc_assign rfl) rfl ?_
    refine run_nil ?_
    refine run_retP Try.func69 rfl rfl ?_
    exact d_int (idxP_none (forall_getD (fun j hj => hbk j (by omega)))).symm

theorem indexFuncI_spec (q : Int → Prop) (xs : List (Int)) : SpecP Try.prog 106 [dSl 1 fI xs, dFun Try.prog (fun x : Int => [dInt .i64 x]) (fun x => dB (q x))] (dInt .i64 (idxP q xs)) := by
  refine specP_of_body Try.func106 rfl rfl (fun I M => ?_)
  refine run_seq ?_
  refine run_region ?_
  refine run_op (loc_assign rfl) rfl ?_
  refine run_nil ?_
  refine run_seq ?_
  refine run_seq ?_
  refine run_region ?_
  refine run_op (loc_move rfl) rfl ?_
  first | refine runL_fact (s := 6) rfl (fun _ _ h => dSl_len h) (fun hlen1 => ?_) | skip
  refine run_op (loc_len rfl) rfl ?_
  refine run_op (loc_move rfl) rfl ?_
  refine run_nil ?_
  refine run_block ?_
  refine run_loopC (σ := Nat) (ks := [0, 1, 7]) (.cons rfl (.cons rfl (.cons rfl (.nil)))) (fun k => [(8, dInt .i64 (k : Nat))]) (fun k => k ≤ xs.length ∧ (∀ j, j < k → ¬ q (xs[j]?.getD default))) (fun k => xs.length - k) (0) (⟨by omega, fun j hj => by omega⟩) (.cons rfl (by first | exact fun _ _ h => h | exact d_int (by omega) | exact d_int (by simp) | exact d_intN (by omega) | exact d_any) .nil) ?_
  rintro k ⟨hk, hbk⟩ ih2
  refine run_seq ?_
  refine run_region ?_
  refine run_op (loc_lss rfl rfl) rfl ?_
  refine run_nil ?_
  refine run_seq ?_
  refine run_cond rfl (fun h3 => ?_) (fun h3 => ?_)
  ·
    refine run_skip ?_
    refine run_seq ?_
    refine run_block ?_
    refine run_seq ?_
    refine run_region ?_
    refine run_op (loc_move rfl) rfl ?_
    refine run_op (loc_assign rfl) rfl ?_
    refine run_nil ?_
    refine run_seq ?_
    refine run_region ?_
    refine run_op (loc_move rfl) rfl ?_
    refine run_op (loc_move rfl) rfl ?_
    refine run_op (loc_move rfl) rfl ?_
    first | refine run_op (loc_index rfl rfl (by first | omega | assumption)) rfl ?_ | refine run_op (loc_indexI rfl rfl (by first | omega | assumption)) rfl ?_
    refine run_op (loc_load1 rfl) rfl ?_
    refine run_op (loc_callFun (xs[k]?.getD default) rfl rfl) rfl ?_
    refine run_nil ?_
    refine run_cond rfl (fun h4 => ?_) (fun h4 => ?_)
    ·
      refine run_seq ?_
      refine run_region ?_
      refine run_op (loc_move rfl) rfl ?_
      refine run_op (loc_assign rfl) rfl ?_
      refine run_nil ?_
      refine run_retP Try.func106 rfl rfl ?_
      exact d_int (idxP_at (by omega) hbk (by assumption)).symm
    ·
      refine run_skip ?_
      refine run_inBlock ?_
      refine run_region ?_
      first | refine run_op (loc_add rfl rfl (by first | omega | assumption)) rfl ?_ | refine run_op (loc_addW rfl rfl) rfl ?_
      refine run_op (loc_move rfl) rfl ?_
      refine run_nil ?_
      exact run_againC ih2 (k + 1) (⟨by omega, fun j hj => by by_cases e : j = k; (· subst e; assumption); (· exact hbk j (by omega))⟩) (by omega) (.cons rfl (by first | exact fun _ _ h => h | exact d_int (by omega) | exact d_int (by simp) | exact d_intN (by omega) | exact d_any) .nil) (.cons rfl (fun _ _ x => x) (.cons rfl (fun _ _ x => x) (.cons rfl (fun _ _ x => x) (.nil))))
  ·
    refine run_exit rfl ?_
    refine run_seq ?_
    refine run_region ?_
    refine run_op (loc_assign rfl) rfl ?_
    refine run_nil ?_
    refine run_retP Try.func106 rfl rfl ?_
    exact d_int (idxP_none (forall_getD (fun j hj => hbk j (by omega)))).symm

theorem containsFuncJb_spec (q : Job → Prop) (xs : List (Job)) : SpecP Try.prog 34 [dSl 5 cJob xs, dFun Try.prog (fun x : Job => [dAgg (cJob x)]) (fun x => dB (q x))] (dB (∃ x ∈ xs, q x)) := by
  refine specP_of_body Try.func34 rfl rfl (fun I M => ?_)
  refine run_seq ?_
  refine run_region ?_
  refine run_op (loc_assign rfl) rfl ?_
  refine run_nil ?_
  refine run_seq ?_
  refine run_region ?_
  refine run_op (loc_move rfl) rfl ?_
  refine run_op (loc_move rfl) rfl ?_
  refine run_op (loc_call (indexFuncJb_spec q xs) rfl) rfl ?_
  refine run_op (loc_geq rfl rfl) rfl ?_
  refine run_op (loc_assign rfl) rfl ?_
  refine run_nil ?_
  refine run_retP Try.func34 rfl rfl ?_
  exact d_B idxP_nonneg

theorem containsFuncI_spec (q : Int → Prop) (xs : List (Int)) : SpecP Try.prog 95 [dSl 1 fI xs, dFun Try.prog (fun x : Int => [dInt .i64 x]) (fun x => dB (q x))] (dB (∃ x ∈ xs, q x)) := by
  refine specP_of_body Try.func95 rfl rfl (fun I M => ?_)
  refine run_seq ?_
  refine run_region ?_
  refine run_op (loc_assign rfl) rfl ?_
  refine run_nil ?_
  refine run_seq ?_
  refine run_region ?_
  refine run_op (loc_move rfl) rfl ?_
  refine run_op (loc_move rfl) rfl ?_
  refine run_op (loc_call (indexFuncI_spec q xs) rfl) rfl ?_
  refine run_op (loc_geq rfl rfl) rfl ?_
  refine run_op (loc_assign rfl) rfl ?_
  refine run_nil ?_
  refine run_retP Try.func95 rfl rfl ?_
  exact d_B idxP_nonneg

theorem binSearchHl_spec (cm : Held → Int) (xs : List (Held)) (t : Int) : SpecP Try.prog 57 [dSl 6 cHeld xs, dInt .i64 t, dFun Try.prog (fun x : Held => [dAgg (cHeld x), dInt .i64 t]) (fun x => dInt .i64 (cm x))] (dTup [dInt .i64 (bsF cm xs : Nat), dB (bsF cm xs < xs.length ∧ cm (xs[bsF cm xs]?.getD default) = 0)]) := by
  refine specP_of_body Try.func57 rfl rfl (fun I M => ?_)
  refine run_seq ?_
  refine run_region ?_
  refine run_op (loc_assign rfl) rfl ?_
  refine run_op (loc_assign rfl) rfl ?_
  refine run_nil ?_
  refine run_seq ?_
  refine run_region ?_
  refine run_op (loc_move rfl) rfl ?_
  first | refine runL_fact (s := 12) rfl (fun _ _ h => dSl_len h) (fun hlen1 => ?_) | skip
  refine run_op (loc_len rfl) rfl ?_
  refine run_op (loc_assign rfl) rfl ?_
  refine run_nil ?_
  refine run_seq ?_
  refine run_region ?_
  refine run_op (loc_move rfl) rfl ?_
  refine run_op (loc_assign rfl) rfl ?_
  refine run_op (loc_assign rfl) rfl ?_
  refine run_nil ?_
  refine run_seq ?_
  refine run_block ?_
  refine run_loopC (σ := Nat × Nat) (ks := [0, 1, 2, 8]) (.cons rfl (.cons rfl (.cons rfl (.cons rfl (.nil))))) (fun s => [(9, dInt .i64 (s.1 : Nat)), (10, dInt .i64 (s.2 : Nat))]) (fun s => s.1 ≤ s.2 ∧ s.2 ≤ xs.length ∧ bsGo (fun h => cm (xs[h]?.getD default) < 0) s.1 s.2 = bsGo (fun h => cm (xs[h]?.getD default) < 0) 0 xs.length) (fun s => s.2 - s.1) ((0, xs.length)) (⟨by simp, by simp, rfl⟩) (.cons rfl (by first | exact fun _ _ h => h | exact d_int (by omega) | exact d_int (by simp) | exact d_intN (by omega) | exact d_any) (.cons rfl (by first | exact fun _ _ h => h | exact d_int (by omega) | exact d_int (by simp) | exact d_intN (by omega) | exact d_any) .nil)) ?_
  rintro ⟨s1, s2⟩ ⟨hs1, hs2, hs3⟩ ih2
  simp only at hs1 hs2
  refine run_seq ?_
  refine run_seq ?_
  refine run_region ?_
  refine run_op (loc_move rfl) rfl ?_
  refine run_op (loc_move rfl) rfl ?_
  refine run_op (loc_lss rfl rfl) rfl ?_
  refine run_nil ?_
  refine run_cond rfl (fun h3 => ?_) (fun h3 => ?_)
  ·
    refine run_skip ?_
    refine run_block ?_
    refine run_seq ?_
    refine run_region ?_
    refine run_op (loc_move rfl) rfl ?_
    refine run_op (loc_move rfl) rfl ?_
    first | refine run_op (loc_add rfl rfl (by first | omega | assumption)) rfl ?_ | refine run_op (loc_addW rfl rfl) rfl ?_
    first | refine run_op (loc_convU rfl (by first | omega | assumption)) rfl ?_ | refine run_op (loc_convW rfl) rfl ?_
    refine run_op (loc_shrN (c := 1) (q := 2) rfl rfl rfl (by decide) (by first | omega | assumption) (by decide)) rfl ?_
    refine runL_recast (s := 22) rfl (d_int (n := (((s1 + s2) / 2 : Nat) : Int)) (by omega)) ?_
    first | refine run_op (loc_conv rfl (by first | omega | assumption)) rfl ?_ | refine run_op (loc_convW rfl) rfl ?_
    refine run_op (loc_assign rfl) rfl ?_
    refine run_nil ?_
    refine run_seq ?_
    refine run_region ?_
    refine run_op (loc_move rfl) rfl ?_
    refine run_op (loc_move rfl) rfl ?_
    refine run_op (loc_move rfl) rfl ?_
    first | refine run_op (loc_index rfl rfl (by first | omega | assumption)) rfl ?_ | refine run_op (loc_indexI rfl rfl (by first | omega | assumption)) rfl ?_
    refine run_op (loc_loadN rfl rfl) rfl ?_
    refine run_op (loc_move rfl) rfl ?_
    refine run_op (loc_callFun (xs[(s1 + s2) / 2]?.getD default) rfl rfl) rfl ?_
    refine run_op (loc_lss rfl rfl) rfl ?_
    refine run_nil ?_
    refine run_cond rfl (fun h4 => ?_) (fun h4 => ?_)
    ·
      rw [bsGo, if_pos (by omega), if_pos h4] at hs3
      refine run_region ?_
      refine run_op (loc_move rfl) rfl ?_
      first | refine run_op (loc_add rfl rfl (by first | omega | assumption)) rfl ?_ | refine run_op (loc_addW rfl rfl) rfl ?_
      refine run_op (loc_assign rfl) rfl ?_
      refine run_nil ?_
      refine run_inBlock ?_
      exact run_againC ih2 (((s1 + s2) / 2 + 1, s2)) (⟨by simp; omega, hs2, hs3⟩) (by simp; omega) (.cons rfl (by first | exact fun _ _ h => h | exact d_int (by omega) | exact d_int (by simp) | exact d_intN (by omega) | exact d_any) (.cons rfl (by first | exact fun _ _ h => h | exact d_int (by omega) | exact d_int (by simp) | exact d_intN (by omega) | exact d_any) .nil)) (.cons rfl (fun _ _ x => x) (.cons rfl (fun _ _ x => x) (.cons rfl (fun _ _ x => x) (.cons rfl (fun _ _ x => x) (.nil)))))
    ·
      rw [bsGo, if_pos (by omega), if_neg h4] at hs3
      refine run_region ?_
      refine run_op (loc_move rfl) rfl ?_
      refine run_op (loc_assign rfl) rfl ?_
      refine run_nil ?_
      refine run_inBlock ?_
      exact run_againC ih2 ((s1, (s1 + s2) / 2)) (⟨by simp; omega, by simp; omega, hs3⟩) (by simp; omega) (.cons rfl (by first | exact fun _ _ h => h | exact d_int (by omega) | exact d_int (by simp) | exact d_intN (by omega) | exact d_any) (.cons rfl (by first | exact fun _ _ h => h | exact d_int (by omega) | exact d_int (by simp) | exact d_intN (by omega) | exact d_any) .nil)) (.cons rfl (fun _ _ x => x) (.cons rfl (fun _ _ x => x) (.cons rfl (fun _ _ x => x) (.cons rfl (fun _ _ x => x) (.nil)))))
  ·
    refine run_exit rfl ?_
    refine run_seq ?_
    refine run_region ?_
    refine run_op (loc_move rfl) rfl ?_
    refine run_op (loc_move rfl) rfl ?_
    refine run_op (loc_move rfl) rfl ?_
    refine run_op (loc_lss rfl rfl) rfl ?_
    refine run_op (loc_move rfl) rfl ?_
    refine run_gfirst rfl rfl (by first | exact guard_true _ | exact guard_false _ | exact guard_if (guard_true _) | exact guard_if (guard_false _)) (fun hg => loc_move rfl) rfl ?_
    refine run_gop rfl rfl (by first | exact guard_true _ | exact guard_false _ | exact guard_if (guard_true _) | exact guard_if (guard_false _)) (fun hg => loc_move rfl) rfl ?_
    refine run_gop rfl rfl (by first | exact guard_true _ | exact guard_false _ | exact guard_if (guard_true _) | exact guard_if (guard_false _)) (fun hg => loc_move rfl) rfl ?_
    first | refine run_gop rfl rfl (by first | exact guard_true _ | exact guard_false _ | exact guard_if (guard_true _) | exact guard_if (guard_false _)) (fun hg => loc_index rfl rfl (by first | omega | assumption)) rfl ?_ | refine run_gop rfl rfl (by first | exact guard_true _ | exact guard_false _ | exact guard_if (guard_true _) | exact guard_if (guard_false _)) (fun hg => loc_indexI rfl rfl (by first | omega | assumption)) rfl ?_
    refine run_gop rfl rfl (by first | exact guard_true _ | exact guard_false _ | exact guard_if (guard_true _) | exact guard_if (guard_false _)) (fun hg => loc_loadN rfl rfl) rfl ?_
    refine run_gop rfl rfl (by first | exact guard_true _ | exact guard_false _ | exact guard_if (guard_true _) | exact guard_if (guard_false _)) (fun hg => loc_move rfl) rfl ?_
    refine run_gop rfl rfl (by first | exact guard_true _ | exact guard_false _ | exact guard_if (guard_true _) | exact guard_if (guard_false _)) (fun hg => loc_callFun (xs[s1]?.getD default) rfl rfl) rfl ?_
    refine run_gop rfl rfl (by first | exact guard_true _ | exact guard_false _ | exact guard_if (guard_true _) | exact guard_if (guard_false _)) (fun hg => loc_eql rfl rfl) rfl ?_
    refine run_gleave ?_
    refine run_op (loc_and rfl rfl) rfl ?_
    refine run_op (loc_assign rfl) rfl ?_
    refine run_op (loc_assign rfl) rfl ?_
    refine run_nil ?_
    refine run_ret2P Try.func57 rfl rfl rfl ?_
    have hse : s1 = bsF cm xs := by unfold bsF; rw [← hs3]; unfold bsGo; rw [if_neg (by omega)]
    subst hse
    exact d_tup2 (fun _ _ h => h) (d_B (by omega))

instance : TyOver Try.prog 65 25 := ⟨_, 4, Try.func65, by kernel_rfl, by kernel_rfl, by kernel_rfl, by kernel_rfl⟩
theorem insertHl_spec (v : Value) (xs : List (Held)) (i : Nat) (e0 : Held) (hi : i ≤ xs.length) (hb : (xs.length + 1) * 64 ≤ 140737488355328) (hl : xs.length + 1 ≤ 17592186044416) :
    Spec Try.prog 32 [dVal v, dInt .i64 (i : Nat), dSl 6 (fun l : List D => l) [cHeld e0]] [rRow v 80 6 cHeld xs] (σ := Value) (fun _ => True) (fun v => dVal v) (fun v => [rRow v 80 6 cHeld (xs.take i ++ [e0] ++ xs.drop i)]) := by
  refine spec_of_body Try.func32 rfl rfl (fun I F => ?_)
  refine run_recast (s := 2) rfl (d_sl (ys := [e0]) (h := cHeld) rfl) ?_
  by_cases hie : i = xs.length
  · show Run _ _ _ _ _ _ (rRow v 80 6 cHeld xs :: F) _
    refine run_seq ?_
    refine run_region ?_
    refine run_op (loc_assign rfl) rfl ?_
    refine run_nil ?_
    refine run_seq ?_
    refine run_region ?_
    refine run_op (loc_move rfl) rfl ?_
    refine run_op (loc_move rfl) rfl ?_
    refine run_op (loc_sliceRowTop rfl (.here) rfl (by first | omega | assumption)) rfl ?_
    refine run_nil ?_
    refine run_seq ?_
    refine run_region ?_
    refine run_op (loc_move rfl) rfl ?_
    refine run_op (loc_len rfl) rfl ?_
    refine runL_recast (s := 14) rfl (d_int (n := 1) rfl) ?_
    refine run_op (loc_assign rfl) rfl ?_
    refine run_nil ?_
    refine run_seq ?_
    refine run_seq ?_
    refine run_region ?_
    refine run_op (loc_move rfl) rfl ?_
    refine run_op (loc_eql rfl rfl) rfl ?_
    refine run_nil ?_
    refine run_cond rfl (fun h1 => ?_) (fun h1 => ?_)
    · exfalso; simp at h1
    ·
      refine run_skip ?_
      refine run_seq ?_
      refine run_region ?_
      refine run_op (loc_move rfl) rfl ?_
      refine run_op (loc_lenRow rfl (.here)) rfl ?_
      refine run_op (loc_assign rfl) rfl ?_
      refine run_nil ?_
      refine run_seq ?_
      refine run_seq ?_
      refine run_region ?_
      refine run_op (loc_move rfl) rfl ?_
      refine run_op (loc_move rfl) rfl ?_
      refine run_op (loc_eql rfl rfl) rfl ?_
      refine run_nil ?_
      refine run_cond rfl (fun h2 => ?_) (fun h2 => ?_)
      ·
        refine run_seq ?_
        refine run_region ?_
        refine run_op (loc_move rfl) rfl ?_
        refine run_op (loc_move rfl) rfl ?_
        refine run_append rfl (.here) rfl (by rfl) (by first | omega | (unfold lenMax; omega) | assumption | (simp; omega) | (simp [lenMax]; omega)) (by first | omega | (unfold lenMax; omega) | assumption | (simp; omega) | (simp [lenMax]; omega)) rfl (fun v3 => ?_)
        refine run_op (loc_assign rfl) rfl ?_
        refine run_nil ?_
        refine run_ret (v3) Try.func32 rfl rfl ?_ (trivial) (fun _ _ h => by rw [List.take_of_length_le (by omega), List.drop_eq_nil_of_le (by omega), List.append_nil]; exact h)
        exact fun _ _ h => h
      · exfalso; omega
  · refine run_openRow .here (by intro hx; subst hx; simp at hi; exact hie hi) (fun b cap hv hc hm hlx hfn => ?_)
    subst hv
    have hlt : i < xs.length := by omega
    refine run_seq ?_
    refine run_region ?_
    refine run_op (loc_assign rfl) rfl ?_
    refine run_nil ?_
    refine run_seq ?_
    refine run_region ?_
    refine run_op (loc_move rfl) rfl ?_
    refine run_op (loc_move rfl) rfl ?_
    first | refine run_op (loc_sliceOwnFromLt rfl rfl (by first | omega | assumption)) rfl ?_ | refine run_op (loc_sliceOwnFrom rfl rfl (by first | omega | assumption)) rfl ?_
    refine run_nil ?_
    refine run_seq ?_
    refine run_region ?_
    refine run_op (loc_move rfl) rfl ?_
    refine run_op (loc_len rfl) rfl ?_
    refine runL_recast (s := 14) rfl (d_int (n := 1) rfl) ?_
    refine run_op (loc_assign rfl) rfl ?_
    refine run_nil ?_
    refine run_seq ?_
    refine run_seq ?_
    refine run_region ?_
    refine run_op (loc_move rfl) rfl ?_
    refine run_op (loc_eql rfl rfl) rfl ?_
    refine run_nil ?_
    refine run_cond rfl (fun h1 => ?_) (fun h1 => ?_)
    · exfalso; simp at h1
    ·
      refine run_skip ?_
      refine run_seq ?_
      refine run_region ?_
      refine run_op (loc_move rfl) rfl ?_
      refine run_op (loc_lenOwn rfl) rfl ?_
      refine run_op (loc_assign rfl) rfl ?_
      refine run_nil ?_
      refine run_seq ?_
      refine run_seq ?_
      refine run_region ?_
      refine run_op (loc_move rfl) rfl ?_
      refine run_op (loc_move rfl) rfl ?_
      refine run_op (loc_eql rfl rfl) rfl ?_
      refine run_nil ?_
      refine run_cond rfl (fun h2 => ?_) (fun h2 => ?_)
      · exfalso; omega
      ·
        refine run_skip ?_
        refine run_seq ?_
        refine run_seq ?_
        refine run_region ?_
        refine run_op (loc_move rfl) rfl ?_
        refine run_op (loc_move rfl) rfl ?_
        first | refine run_op (loc_add rfl rfl (by first | omega | assumption)) rfl ?_ | refine run_op (loc_addW rfl rfl) rfl ?_
        refine run_op (loc_move rfl) rfl ?_
        refine run_op (loc_capOwn rfl) rfl ?_
        refine run_op (loc_gtr rfl rfl) rfl ?_
        refine run_nil ?_
        refine run_cond rfl (fun h3 => ?_) (fun h3 => ?_)
        ·
          refine run_seq ?_
          refine run_region ?_
          refine run_op (loc_move rfl) rfl ?_
          refine run_op (loc_move rfl) rfl ?_
          refine run_op (loc_sliceOwnTo rfl rfl (by first | omega | assumption)) rfl ?_
          refine run_op (loc_move rfl) rfl ?_
          refine run_op (loc_move rfl) rfl ?_
          first | refine run_op (loc_add rfl rfl (by first | omega | assumption)) rfl ?_ | refine run_op (loc_addW rfl rfl) rfl ?_
          refine run_op (loc_move rfl) rfl ?_
          first | refine run_op (loc_sub rfl rfl (by first | omega | assumption)) rfl ?_ | refine run_op (loc_subW rfl rfl) rfl ?_
          refine run_updG rfl (loc_appendZeros (m := xs.length + 1 - i) rfl (opd_conv rfl (by congr 1; omega)) (by omega) (by simp [junk_length]; omega) rfl (by omega) (by unfold lenMax at *; omega)) (fun s hs => ?_)
          refine run_op (loc_assign rfl) rfl ?_
          refine run_nil ?_
          refine run_shutRow (len := xs.length) (cap := cap) (els' := junk 6 (cap - xs.length)) (.there .here) rfl rfl (by simp [junk_length]; omega) hm hlx ?_
          refine run_freezeRow (s := 0) rfl (.there .here) ?_
          refine run_seq ?_
          refine run_region ?_
          refine run_op (loc_move rfl) rfl ?_
          refine run_op (loc_move rfl) rfl ?_
          first | refine run_op (loc_sliceOwnFromLt rfl rfl (by first | omega | assumption)) rfl ?_ | refine run_op (loc_sliceOwnFrom rfl rfl (by first | omega | assumption)) rfl ?_
          refine run_op (loc_move rfl) rfl ?_
          refine run_updS rfl (.here) (loc_copyImm rfl rfl (by first | omega | (simp only [List.length_append, List.length_map, junk_length]; omega) | (simp only [List.length_append, List.length_map, junk_length]; split <;> omega) | (simp [put, junk_length]; omega))) (fun _ _ => ?_)
          refine run_nil ?_
          refine run_seq ?_
          refine dr_start _ (.none) [⟨[(9, none)], [], none⟩,
              ⟨[(1, none)], [], none⟩,
              ⟨[(7, none)], [], none⟩,
              ⟨[(47, some (1, false)), (48, some (2, false))], [1, 2], none⟩,
              ⟨[(46, some (0, false)), (49, some (3, false))], [0, 1, 2, 3], none⟩,
              ⟨[(0, none)], [], none⟩,
              ⟨[(1, none)], [], none⟩,
              ⟨[(51, some (5, false)), (52, some (6, false))], [5, 6], none⟩,
              ⟨[(50, some (4, false)), (53, some (7, false))], [0, 1, 2, 3, 4, 5, 6, 7], some (0, 0, true)⟩] [_] _ rfl rfl ?_
          refine dq_pure rfl (fun s => .g rfl (.nil)) (fun s hs _ => loc_move rfl) (by exact .nil) ?_
          refine dq_pure rfl (fun s => .g rfl (.nil)) (fun s hs _ => loc_move rfl) (by exact .nil) ?_
          refine dq_pure rfl (fun s => .g rfl (.nil)) (fun s hs _ => loc_move rfl) (by exact .nil) ?_
          first | refine dq_pure rfl (fun s => .op rfl (.op rfl (.nil))) (fun s hs _ => loc_add rfl rfl (by first | omega | assumption)) (by exact .nil) ?_ | refine dq_pure rfl (fun s => .op rfl (.op rfl (.nil))) (fun s hs _ => loc_addW rfl rfl) (by exact .nil) ?_
          first | refine dq_pure rfl (fun s => .op rfl (.op rfl (.nil))) (fun s hs _ => loc_sliceOwnFromLt rfl rfl (by first | omega | assumption)) (by exact .nil) ?_ | refine dq_pure rfl (fun s => .op rfl (.op rfl (.nil))) (fun s hs _ => loc_sliceOwnFrom rfl rfl (by first | omega | assumption)) (by exact .nil) ?_
          refine dq_pure rfl (fun s => .g rfl (.nil)) (fun s hs _ => loc_move rfl) (by exact .nil) ?_
          refine dq_pure rfl (fun s => .g rfl (.nil)) (fun s hs _ => loc_move rfl) (by exact .nil) ?_
          refine dq_pure rfl (fun s => .op rfl (.op rfl (.nil))) (fun s hs _ => loc_sliceFrom rfl rfl (by first | omega | assumption)) (by exact .nil) ?_
          refine dq_write rfl (fun s => .op rfl (.op rfl (.nil))) rfl rfl (fun s hs => loc_copyImm rfl rfl (by first | omega | (simp only [List.length_append, List.length_map, junk_length]; omega) | (simp only [List.length_append, List.length_map, junk_length]; split <;> omega) | (simp [put, junk_length]; omega))) (by exact .nil) ?_
          refine dq_end (rs := [_]) () rfl (fun _ => rfl) (.nil) rfl (fun _ _ => ?_)
          dsimp only [outG, outM, List.map, List.set, id]
          refine run_seq ?_
          refine run_region ?_
          refine run_op (loc_move rfl) rfl ?_
          refine run_op (loc_assign rfl) rfl ?_
          refine run_nil ?_
          refine run_ret (sl s.1 6 0 (xs.length + 1) s.2) Try.func32 rfl rfl ?_ (trivial) (fun _ _ h => inv_shut h ((insert_grow (A := xs.map cHeld) (i := i) (c := s.2) (x := cHeld e0) (by simp; omega) (by omega) (by omega) (by omega) (by rw [List.take_of_length_le (by simp; omega)]; rfl) (by rw [List.take_of_length_le (by simp; omega), List.map_drop]; congr 1) (by simp; omega) (by simp [junk_length])).trans (congrArg (· ++ _) (by simp))) (by simp; omega) (by simp [junk_length]; omega) (by omega) (by simp; unfold lenMax; omega))
          exact fun _ _ h => by rwa [show (i : Int).toNat + (xs.length + 1 - i) = xs.length + 1 by omega] at h
        ·
          refine run_skip ?_
          refine run_seq ?_
          refine run_region ?_
          refine run_op (loc_move rfl) rfl ?_
          refine run_op (loc_move rfl) rfl ?_
          refine run_op (loc_move rfl) rfl ?_
          first | refine run_op (loc_add rfl rfl (by first | omega | assumption)) rfl ?_ | refine run_op (loc_addW rfl rfl) rfl ?_
          refine run_op (loc_sliceOwnTo rfl rfl (by first | omega | assumption)) rfl ?_
          refine run_op (loc_assign rfl) rfl ?_
          refine run_nil ?_
          refine run_seq ?_
          refine run_seq ?_
          refine run_region ?_
          refine run_op (loc_move rfl) rfl ?_
          refine run_op (loc_move rfl) rfl ?_
          refine run_op (loc_move rfl) rfl ?_
          refine run_op (loc_move rfl) rfl ?_
          first | refine run_op (loc_add rfl rfl (by first | omega | assumption)) rfl ?_ | refine run_op (loc_addW rfl rfl) rfl ?_
          first | refine run_op (loc_sliceOwnFromLt rfl rfl (by first | omega | assumption)) rfl ?_ | refine run_op (loc_sliceOwnFrom rfl rfl (by first | omega | assumption)) rfl ?_
          refine run_op (loc_overlaps rfl rfl (by first | exact .here | exact .there .here | exact .there (.there .here) | exact .there (.there (.there .here)) | exact .there (.there (.there (.there .here))) | exact .there (.there (.there (.there (.there .here))))) (by simp only [List.length_append, List.length_map, junk_length]; omega)) rfl ?_
          refine run_op (loc_not rfl) rfl ?_
          refine run_nil ?_
          refine run_cond rfl (fun h4 => ?_) (fun h4 => ?_)
          ·
            refine run_seq ?_
            refine dr_start _ (.none) [⟨[(0, none)], [], none⟩,
                ⟨[(1, none)], [], none⟩,
                ⟨[(7, none)], [], none⟩,
                ⟨[(70, some (1, false)), (71, some (2, false))], [1, 2], none⟩,
                ⟨[(69, some (0, false)), (72, some (3, false))], [0, 1, 2, 3], none⟩,
                ⟨[(0, none)], [], none⟩,
                ⟨[(1, none)], [], none⟩,
                ⟨[(74, some (5, false)), (75, some (6, false))], [5, 6], none⟩,
                ⟨[(73, some (4, false)), (76, some (7, false))], [0, 1, 2, 3, 4, 5, 6, 7], some (0, 0, true)⟩] [_] _ rfl rfl ?_
            refine dq_pure rfl (fun s => .g rfl (.nil)) (fun s hs _ => loc_move rfl) (by exact .nil) ?_
            refine dq_pure rfl (fun s => .g rfl (.nil)) (fun s hs _ => loc_move rfl) (by exact .nil) ?_
            refine dq_pure rfl (fun s => .g rfl (.nil)) (fun s hs _ => loc_move rfl) (by exact .nil) ?_
            first | refine dq_pure rfl (fun s => .op rfl (.op rfl (.nil))) (fun s hs _ => loc_add rfl rfl (by first | omega | assumption)) (by exact .nil) ?_ | refine dq_pure rfl (fun s => .op rfl (.op rfl (.nil))) (fun s hs _ => loc_addW rfl rfl) (by exact .nil) ?_
            first | refine dq_pure rfl (fun s => .op rfl (.op rfl (.nil))) (fun s hs _ => loc_sliceOwnFromLt rfl rfl (by first | omega | assumption)) (by exact .nil) ?_ | refine dq_pure rfl (fun s => .op rfl (.op rfl (.nil))) (fun s hs _ => loc_sliceOwnFrom rfl rfl (by first | omega | assumption)) (by exact .nil) ?_
            refine dq_pure rfl (fun s => .g rfl (.nil)) (fun s hs _ => loc_move rfl) (by exact .nil) ?_
            refine dq_pure rfl (fun s => .g rfl (.nil)) (fun s hs _ => loc_move rfl) (by exact .nil) ?_
            first | refine dq_pure rfl (fun s => .op rfl (.op rfl (.nil))) (fun s hs _ => loc_sliceOwnFromLt rfl rfl (by first | omega | assumption)) (by exact .nil) ?_ | refine dq_pure rfl (fun s => .op rfl (.op rfl (.nil))) (fun s hs _ => loc_sliceOwnFrom rfl rfl (by first | omega | assumption)) (by exact .nil) ?_
            refine dq_write rfl (fun s => .op rfl (.op rfl (.nil))) rfl rfl (fun s hs => loc_copyOwn rfl rfl (by first | omega | (simp only [List.length_append, List.length_map, junk_length]; omega) | (simp only [List.length_append, List.length_map, junk_length]; split <;> omega) | (simp [put, junk_length]; omega)) (one_part (by first | omega | (split <;> omega)))) (by exact .nil) ?_
            refine dq_end (rs := [_]) () rfl (fun _ => rfl) (.nil) rfl (fun _ _ => ?_)
            dsimp only [outG, outM, List.map, List.set, id]
            refine run_seq ?_
            refine run_region ?_
            refine run_op (loc_move rfl) rfl ?_
            refine run_op (loc_move rfl) rfl ?_
            first | refine run_op (loc_sliceOwnFromLt rfl rfl (by first | omega | assumption)) rfl ?_ | refine run_op (loc_sliceOwnFrom rfl rfl (by first | omega | assumption)) rfl ?_
            refine run_op (loc_move rfl) rfl ?_
            refine run_updS rfl (.here) (loc_copyImm rfl rfl (by first | omega | (simp only [List.length_append, List.length_map, junk_length]; omega) | (simp only [List.length_append, List.length_map, junk_length]; split <;> omega) | (simp [put, junk_length]; omega))) (fun _ _ => ?_)
            refine run_nil ?_
            refine run_seq ?_
            refine run_region ?_
            refine run_op (loc_move rfl) rfl ?_
            refine run_op (loc_assign rfl) rfl ?_
            refine run_nil ?_
            refine run_ret (sl b 6 0 (xs.length + 1) cap) Try.func32 rfl rfl ?_ (trivial) (fun _ _ h => inv_shut h ((insert_list (A := xs.map cHeld) (i := i) (x := cHeld e0) (by simp; omega) (by omega) (by omega) (by omega) (by simp; omega) (by rw [List.take_of_length_le (by simp; omega)]; rfl) (by simp [junk_length]; omega)).trans (congrArg (· ++ _) (by simp))) (by simp; omega) (by simp [junk_length]; omega) (by omega) (by simp; unfold lenMax; omega))
            exact fun _ _ h => h
          · exfalso; exact h4 (fun h => h)

theorem deleteHl_spec (v : Value) (xs : List (Held)) (i j : Nat) (hi : i < j) (hj : j ≤ xs.length) :
    Spec Try.prog 38 [dVal v, dInt .i64 (i : Nat), dInt .i64 (j : Nat)] [rRow v 80 6 cHeld xs] (σ := Value) (fun _ => True) (fun v => dVal v) (fun v => [rRow v 80 6 cHeld (xs.take i ++ xs.drop j)]) := by
  refine spec_of_body Try.func38 rfl rfl (fun I F => ?_)
  refine run_openRow .here (by intro hx; subst hx; simp at hj; omega) (fun b cap hv hc hm hlx hfn => ?_)
  subst hv
  refine run_seq ?_
  refine run_region ?_
  refine run_op (loc_assign rfl) rfl ?_
  refine run_nil ?_
  refine run_seq ?_
  refine run_region ?_
  refine run_op (loc_move rfl) rfl ?_
  refine run_op (loc_move rfl) rfl ?_
  refine run_op (loc_move rfl) rfl ?_
  refine run_op (loc_move rfl) rfl ?_
  refine run_op (loc_lenOwn rfl) rfl ?_
  refine run_op (loc_sliceOwn3 rfl rfl rfl rfl (by first | omega | assumption)) rfl ?_
  refine run_nil ?_
  refine run_seq ?_
  refine run_seq ?_
  refine run_region ?_
  refine run_op (loc_move rfl) rfl ?_
  refine run_op (loc_move rfl) rfl ?_
  refine run_op (loc_eql rfl rfl) rfl ?_
  refine run_nil ?_
  refine run_cond rfl (fun h1 => ?_) (fun h1 => ?_)
  · exfalso; omega
  ·
    refine run_skip ?_
    refine run_seq ?_
    refine run_region ?_
    refine run_op (loc_move rfl) rfl ?_
    refine run_op (loc_lenOwn rfl) rfl ?_
    refine run_op (loc_assign rfl) rfl ?_
    refine run_nil ?_
    refine run_seq ?_
    refine dr_start _ (.none) [⟨[(0, none)], [], none⟩,
        ⟨[(1, none)], [], none⟩,
        ⟨[(20, some (0, false)), (21, some (1, false))], [0, 1], none⟩,
        ⟨[(0, none)], [], none⟩,
        ⟨[(2, none)], [], none⟩,
        ⟨[(23, some (3, false)), (24, some (4, false))], [3, 4], none⟩,
        ⟨[(22, some (2, false)), (25, some (5, false))], [0, 1, 2, 3, 4, 5], some (0, 0, true)⟩,
        ⟨[(26, some (6, false))], [0, 1, 2, 3, 4, 5, 6], none⟩] [_] _ rfl rfl ?_
    refine dq_pure rfl (fun s => .g rfl (.nil)) (fun s hs _ => loc_move rfl) (by exact .nil) ?_
    refine dq_pure rfl (fun s => .g rfl (.nil)) (fun s hs _ => loc_move rfl) (by exact .nil) ?_
    refine dq_pure rfl (fun s => .op rfl (.op rfl (.nil))) (fun s hs _ => loc_sliceOwnTo rfl rfl (by first | omega | assumption)) (by exact .nil) ?_
    refine dq_pure rfl (fun s => .g rfl (.nil)) (fun s hs _ => loc_move rfl) (by exact .nil) ?_
    refine dq_pure rfl (fun s => .g rfl (.nil)) (fun s hs _ => loc_move rfl) (by exact .nil) ?_
    first | refine dq_pure rfl (fun s => .op rfl (.op rfl (.nil))) (fun s hs _ => loc_sliceOwnFromLt rfl rfl (by first | omega | assumption)) (by exact .nil) ?_ | refine dq_pure rfl (fun s => .op rfl (.op rfl (.nil))) (fun s hs _ => loc_sliceOwnFrom rfl rfl (by first | omega | assumption)) (by exact .nil) ?_
    refine dq_write rfl (fun s => .op rfl (.op rfl (.nil))) rfl rfl (fun s hs => loc_appendOwn rfl rfl (by first | omega | (simp only [List.length_append, List.length_map, junk_length]; omega) | (simp only [List.length_append, List.length_map, junk_length]; split <;> omega) | (simp [put, junk_length]; omega)) (by first | omega | (simp only [List.length_append, List.length_map, junk_length]; omega) | (simp only [List.length_append, List.length_map, junk_length]; split <;> omega) | (simp [put, junk_length]; omega)) rfl (one_part (by first | omega | (split <;> omega)))) (by exact .nil) ?_
    refine dq_pure rfl (fun s => .op rfl (.nil)) (fun s hs _ => loc_assign rfl) (by exact .nil) ?_
    refine dq_end (rs := [_]) () rfl (fun _ => rfl) (.nil) rfl (fun _ _ => ?_)
    dsimp only [outG, outM, List.map, List.set, id]
    refine run_seq ?_
    rw [show (i : Int).toNat + (xs.length - (j : Int).toNat) = i + (xs.length - j) by omega]
    refine run_region ?_
    refine run_op (loc_move rfl) rfl ?_
    refine run_op (loc_move rfl) rfl ?_
    refine run_op (loc_lenOwn rfl) rfl ?_
    refine run_op (loc_move rfl) rfl ?_
    first | refine run_op (loc_sliceOwnLt rfl rfl rfl (by first | omega | assumption)) rfl ?_ | refine run_op (loc_sliceOwn rfl rfl rfl (by first | omega | assumption)) rfl ?_
    refine run_updS0 (.here) (loc_clearOwn rfl (by first | omega | (simp only [List.length_append, List.length_map, junk_length]; omega) | (simp only [List.length_append, List.length_map, junk_length]; split <;> omega) | (simp [put, junk_length]; omega)) rfl (by simp [Value.cells, Value.oneCell'])) (fun _ _ => ?_)
    refine run_nil ?_
    refine run_seq ?_
    refine run_region ?_
    refine run_op (loc_move rfl) rfl ?_
    refine run_op (loc_assign rfl) rfl ?_
    refine run_nil ?_
    refine run_ret (sl b 6 0 (i + (xs.length - j)) cap) Try.func38 rfl rfl ?_ (trivial) (fun _ _ h => by rw [if_neg (by omega)] at h; exact inv_shut h ((delete_list (A := xs.map cHeld) (i := i) (j := j) (by omega) (by simp; omega) (by omega) (fun hm => by split <;> omega) (by simp) (by simp; omega) (by omega)).trans (congrArg (· ++ _) (by simp))) (by simp; omega) (by simp [junk_length]; omega) (by omega) (by simp; unfold lenMax at *; omega))
    exact fun _ _ h => h

theorem deleteJb_spec (v : Value) (xs : List (Job)) (i j : Nat) (hi : i < j) (hj : j ≤ xs.length) :
    Spec Try.prog 47 [dVal v, dInt .i64 (i : Nat), dInt .i64 (j : Nat)] [rRow v 84 5 cJob xs] (σ := Value) (fun _ => True) (fun v => dVal v) (fun v => [rRow v 84 5 cJob (xs.take i ++ xs.drop j)]) := by
  refine spec_of_body Try.func47 rfl rfl (fun I F => ?_)
  refine run_openRow .here (by intro hx; subst hx; simp at hj; omega) (fun b cap hv hc hm hlx hfn => ?_)
  subst hv
  refine run_seq ?_
  refine run_region ?_
  refine run_op (loc_assign rfl) rfl ?_
  refine run_nil ?_
  refine run_seq ?_
  refine run_region ?_
  refine run_op (loc_move rfl) rfl ?_
  refine run_op (loc_move rfl) rfl ?_
  refine run_op (loc_move rfl) rfl ?_
  refine run_op (loc_move rfl) rfl ?_
  refine run_op (loc_lenOwn rfl) rfl ?_
  refine run_op (loc_sliceOwn3 rfl rfl rfl rfl (by first | omega | assumption)) rfl ?_
  refine run_nil ?_
  refine run_seq ?_
  refine run_seq ?_
  refine run_region ?_
  refine run_op (loc_move rfl) rfl ?_
  refine run_op (loc_move rfl) rfl ?_
  refine run_op (loc_eql rfl rfl) rfl ?_
  refine run_nil ?_
  refine run_cond rfl (fun h1 => ?_) (fun h1 => ?_)
  · exfalso; omega
  ·
    refine run_skip ?_
    refine run_seq ?_
    refine run_region ?_
    refine run_op (loc_move rfl) rfl ?_
    refine run_op (loc_lenOwn rfl) rfl ?_
    refine run_op (loc_assign rfl) rfl ?_
    refine run_nil ?_
    refine run_seq ?_
    refine dr_start _ (.none) [⟨[(0, none)], [], none⟩,
        ⟨[(1, none)], [], none⟩,
        ⟨[(20, some (0, false)), (21, some (1, false))], [0, 1], none⟩,
        ⟨[(0, none)], [], none⟩,
        ⟨[(2, none)], [], none⟩,
        ⟨[(23, some (3, false)), (24, some (4, false))], [3, 4], none⟩,
        ⟨[(22, some (2, false)), (25, some (5, false))], [0, 1, 2, 3, 4, 5], some (0, 0, true)⟩,
        ⟨[(26, some (6, false))], [0, 1, 2, 3, 4, 5, 6], none⟩] [_] _ rfl rfl ?_
    refine dq_pure rfl (fun s => .g rfl (.nil)) (fun s hs _ => loc_move rfl) (by exact .nil) ?_
    refine dq_pure rfl (fun s => .g rfl (.nil)) (fun s hs _ => loc_move rfl) (by exact .nil) ?_
    refine dq_pure rfl (fun s => .op rfl (.op rfl (.nil))) (fun s hs _ => loc_sliceOwnTo rfl rfl (by first | omega | assumption)) (by exact .nil) ?_
    refine dq_pure rfl (fun s => .g rfl (.nil)) (fun s hs _ => loc_move rfl) (by exact .nil) ?_
    refine dq_pure rfl (fun s => .g rfl (.nil)) (fun s hs _ => loc_move rfl) (by exact .nil) ?_
    first | refine dq_pure rfl (fun s => .op rfl (.op rfl (.nil))) (fun s hs _ => loc_sliceOwnFromLt rfl rfl (by first | omega | assumption)) (by exact .nil) ?_ | refine dq_pure rfl (fun s => .op rfl (.op rfl (.nil))) (fun s hs _ => loc_sliceOwnFrom rfl rfl (by first | omega | assumption)) (by exact .nil) ?_
    refine dq_write rfl (fun s => .op rfl (.op rfl (.nil))) rfl rfl (fun s hs => loc_appendOwn rfl rfl (by first | omega | (simp only [List.length_append, List.length_map, junk_length]; omega) | (simp only [List.length_append, List.length_map, junk_length]; split <;> omega) | (simp [put, junk_length]; omega)) (by first | omega | (simp only [List.length_append, List.length_map, junk_length]; omega) | (simp only [List.length_append, List.length_map, junk_length]; split <;> omega) | (simp [put, junk_length]; omega)) rfl (one_part (by first | omega | (split <;> omega)))) (by exact .nil) ?_
    refine dq_pure rfl (fun s => .op rfl (.nil)) (fun s hs _ => loc_assign rfl) (by exact .nil) ?_
    refine dq_end (rs := [_]) () rfl (fun _ => rfl) (.nil) rfl (fun _ _ => ?_)
    dsimp only [outG, outM, List.map, List.set, id]
    refine run_seq ?_
    rw [show (i : Int).toNat + (xs.length - (j : Int).toNat) = i + (xs.length - j) by omega]
    refine run_region ?_
    refine run_op (loc_move rfl) rfl ?_
    refine run_op (loc_move rfl) rfl ?_
    refine run_op (loc_lenOwn rfl) rfl ?_
    refine run_op (loc_move rfl) rfl ?_
    first | refine run_op (loc_sliceOwnLt rfl rfl rfl (by first | omega | assumption)) rfl ?_ | refine run_op (loc_sliceOwn rfl rfl rfl (by first | omega | assumption)) rfl ?_
    refine run_updS0 (.here) (loc_clearOwn rfl (by first | omega | (simp only [List.length_append, List.length_map, junk_length]; omega) | (simp only [List.length_append, List.length_map, junk_length]; split <;> omega) | (simp [put, junk_length]; omega)) rfl (by simp [Value.cells, Value.oneCell'])) (fun _ _ => ?_)
    refine run_nil ?_
    refine run_seq ?_
    refine run_region ?_
    refine run_op (loc_move rfl) rfl ?_
    refine run_op (loc_assign rfl) rfl ?_
    refine run_nil ?_
    refine run_ret (sl b 5 0 (i + (xs.length - j)) cap) Try.func47 rfl rfl ?_ (trivial) (fun _ _ h => by rw [if_neg (by omega)] at h; exact inv_shut h ((delete_list (A := xs.map cJob) (i := i) (j := j) (by omega) (by simp; omega) (by omega) (fun hm => by split <;> omega) (by simp) (by simp; omega) (by omega)).trans (congrArg (· ++ _) (by simp))) (by simp; omega) (by simp [junk_length]; omega) (by omega) (by simp; unfold lenMax at *; omega))
    exact fun _ _ h => h

theorem isNaN_spec (x : Int) : SpecP Try.prog 88 [dInt .i64 x] (dB False) := by
  refine specP_of_body Try.func88 rfl rfl (fun I M => ?_)
  refine run_seq ?_
  refine run_region ?_
  refine run_op (loc_assign rfl) rfl ?_
  refine run_nil ?_
  refine run_seq ?_
  refine run_region ?_
  refine run_op (loc_move rfl) rfl ?_
  refine run_op (loc_move rfl) rfl ?_
  refine run_op (loc_neq rfl rfl) rfl ?_
  refine run_op (loc_assign rfl) rfl ?_
  refine run_nil ?_
  refine run_retP Try.func88 rfl rfl ?_
  exact d_B (by simp)

theorem compare_spec (x y : Int) : SpecP Try.prog 59 [dInt .i64 x, dInt .i64 y] (dInt .i64 (cmpI x y)) := by
  refine specP_of_body Try.func59 rfl rfl (fun I M => ?_)
  refine run_seq ?_
  refine run_region ?_
  refine run_op (loc_assign rfl) rfl ?_
  refine run_nil ?_
  refine run_seq ?_
  refine run_region ?_
  refine run_op (loc_move rfl) rfl ?_
  refine run_op (loc_call (isNaN_spec _) rfl) rfl ?_
  refine run_op (loc_assign rfl) rfl ?_
  refine run_nil ?_
  refine run_seq ?_
  refine run_region ?_
  refine run_op (loc_move rfl) rfl ?_
  refine run_op (loc_call (isNaN_spec _) rfl) rfl ?_
  refine run_op (loc_assign rfl) rfl ?_
  refine run_nil ?_
  refine run_seq ?_
  refine run_seq ?_
  refine run_region ?_
  refine run_op (loc_move rfl) rfl ?_
  refine run_nil ?_
  refine run_cond rfl (fun h1 => ?_) (fun h1 => ?_)
  · exfalso; exact h1
  ·
    refine run_skip ?_
    refine run_seq ?_
    refine run_seq ?_
    refine run_region ?_
    refine run_op (loc_move rfl) rfl ?_
    refine run_nil ?_
    refine run_cond rfl (fun h2 => ?_) (fun h2 => ?_)
    · exfalso; exact h2
    ·
      refine run_skip ?_
      refine run_seq ?_
      refine run_seq ?_
      refine run_region ?_
      refine run_op (loc_move rfl) rfl ?_
      refine run_op (loc_move rfl) rfl ?_
      refine run_op (loc_lss rfl rfl) rfl ?_
      refine run_nil ?_
      refine run_cond rfl (fun h3 => ?_) (fun h3 => ?_)
      ·
        refine run_seq ?_
        refine run_region ?_
        refine run_op (loc_assign rfl) rfl ?_
        refine run_nil ?_
        refine run_retP Try.func59 rfl rfl ?_
        exact d_int (by unfold cmpI; rw [if_pos (by omega)])
      ·
        refine run_skip ?_
        refine run_seq ?_
        refine run_seq ?_
        refine run_region ?_
        refine run_op (loc_move rfl) rfl ?_
        refine run_op (loc_move rfl) rfl ?_
        refine run_op (loc_gtr rfl rfl) rfl ?_
        refine run_nil ?_
        refine run_cond rfl (fun h4 => ?_) (fun h4 => ?_)
        ·
          refine run_seq ?_
          refine run_region ?_
          refine run_op (loc_assign rfl) rfl ?_
          refine run_nil ?_
          refine run_retP Try.func59 rfl rfl ?_
          exact d_int (by unfold cmpI; rw [if_neg (by omega), if_pos (by omega)])
        ·
          refine run_skip ?_
          refine run_seq ?_
          refine run_region ?_
          refine run_op (loc_assign rfl) rfl ?_
          refine run_nil ?_
          refine run_retP Try.func59 rfl rfl ?_
          exact d_int (by unfold cmpI; rw [if_neg (by omega), if_neg (by omega)])

end Go.Q
