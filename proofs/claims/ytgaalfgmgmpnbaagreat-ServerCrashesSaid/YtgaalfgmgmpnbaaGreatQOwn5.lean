/- Loops and joins at which most slots stay as they are: what is proved here holds of every program. -/
import Derived.Test.YtgaalfgmgmpnbaaGreatQApi
import Derived.Laws.Bits64
import Derived.Laws.Shifts
import Derived.Test.YtgaalfgmgmpnbaaGreatQTypes
set_option linter.unusedVariables false
set_option linter.unusedSimpArgs false
namespace Go.Q

variable {P : Program} {f : FuncId} {N : Nat} {I0 : Imm} {R : Goal} {g : G} {M : List Res} {k : List Item}

/-- Some slots of many. -/
inductive Restr (g : G) : List Nat → G → Prop where
  | nil : Restr g [] []
  | cons {s : Nat} {d : D} {ks : List Nat} {g0 : G} : look g s = some d → Restr g ks g0 → Restr g (s :: ks) ((s, d) :: g0)

@[reducible] def app : G → G → G
  | [], h => h
  | x :: e, h => x :: app e h

theorem Restr.keep {g g0 : G} {ks : List Nat} (h : Restr g ks g0) : Keep g g0 := by
  induction h with
  | nil => exact .nil
  | cons h1 _ ih => exact .cons h1 (fun _ _ x => x) ih

theorem Keep.app {g e g0 : G} (h1 : Keep g e) (h2 : Keep g g0) : Keep g (app e g0) := by
  induction h1 with
  | nil => exact h2
  | cons a b _ ih => exact .cons a b ih

/-- A loop: 'E' says the slots that it turns, 'g0' those that stay. -/
theorem run_loopE {c : Code} {σ : Type} {ks : List Nat} {g0 : G} (hr : Restr g ks g0) (E : σ → G) (Mo : σ → List Res) (φ : σ → Prop) (μ : σ → Nat) (s0 : σ) (h0 : φ s0) (hg : Keep g (E s0)) (hM : M = Mo s0)
    (round : ∀ s, φ s → (∀ s', φ s' → μ s' < μ s → Run P f N I0 R (app (E s') g0) (Mo s') (.inLoop c :: k)) → Run P f N I0 R (app (E s) g0) (Mo s) (.code c :: .inLoop c :: k)) :
    Run P f N I0 R g M (.code (.loop c) :: k) :=
  run_loop' (fun s => app (E s) g0) Mo φ μ s0 h0 (hg.app hr.keep) hM round

/-- .. and what is owned stays, too. -/
theorem run_loopC {c : Code} {σ : Type} {ks : List Nat} {g0 : G} (hr : Restr g ks g0) (E : σ → G) (φ : σ → Prop) (μ : σ → Nat) (s0 : σ) (h0 : φ s0) (hg : Keep g (E s0))
    (round : ∀ s, φ s → (∀ s', φ s' → μ s' < μ s → Run P f N I0 R (app (E s') g0) M (.inLoop c :: k)) → Run P f N I0 R (app (E s) g0) M (.code c :: .inLoop c :: k)) :
    Run P f N I0 R g M (.code (.loop c) :: k) :=
  run_loop' (fun s => app (E s) g0) (fun _ => M) φ μ s0 h0 (hg.app hr.keep) rfl round

theorem run_againE {c : Code} {σ : Type} {E : σ → G} {g0 : G} {Mo : σ → List Res} {φ : σ → Prop} {μ : σ → Nat} {m : Nat}
    (ih : ∀ s', φ s' → μ s' < m → Run P f N I0 R (app (E s') g0) (Mo s') (.inLoop c :: k)) (s' : σ) (hφ : φ s') (hμ : μ s' < m) (hg : Keep g (E s')) (h0 : Keep g g0) (hM : M = Mo s') : Run P f N I0 R g M (.inLoop c :: k) :=
  run_keep (hg.app h0) (hM ▸ ih s' hφ hμ)

theorem run_againC {c : Code} {σ : Type} {E : σ → G} {g0 : G} {φ : σ → Prop} {μ : σ → Nat} {m : Nat}
    (ih : ∀ s', φ s' → μ s' < m → Run P f N I0 R (app (E s') g0) M (.inLoop c :: k)) (s' : σ) (hφ : φ s') (hμ : μ s' < m) (hg : Keep g (E s')) (h0 : Keep g g0) : Run P f N I0 R g M (.inLoop c :: k) :=
  run_keep (hg.app h0) (ih s' hφ hμ)

theorem run_joinC {c : Code} {σ : Type} {ks : List Nat} {g0 : G} (hr : Restr g ks g0) (E : σ → G) (φ : σ → Prop)
    (h2 : (∀ s, φ s → Run P f N I0 R (app (E s) g0) M k) → Run P f N I0 R g M (.code c :: k)) (h1 : ∀ s, φ s → Run P f N I0 R (app (E s) g0) M k) : Run P f N I0 R g M (.code c :: k) := h2 h1

theorem run_atC {σ : Type} {E : σ → G} {g0 : G} {φ : σ → Prop} (j : ∀ s, φ s → Run P f N I0 R (app (E s) g0) M k) (s : σ) (hφ : φ s) (hg : Keep g (E s)) (h0 : Keep g g0) : Run P f N I0 R g M k :=
  run_keep (hg.app h0) (j s hφ)

@[reducible] def appR : List Res → List Res → List Res
  | [], F => F
  | r :: A, F => r :: appR A F

/-- A resource to the front. -/
theorem run_front {r : Res} {C : Res → List Res} {F : List Res} (hm : Sel r M C F) (h : Run P f N I0 R g (r :: F) k) : Run P f N I0 R g M k :=
  run_weaken (fun _ _ _ hs hi => ⟨hs, hi.perm hm.perm.1⟩) h
/-- A loop that turns what stands first among what is owned. -/
theorem run_loopF {c : Code} {σ : Type} {ks : List Nat} {g0 : G} {F : List Res} (hr : Restr g ks g0) (E : σ → G) (A : σ → List Res) (φ : σ → Prop) (μ : σ → Nat) (s0 : σ) (h0 : φ s0) (hg : Keep g (E s0)) (hM : M = appR (A s0) F)
    (round : ∀ s, φ s → (∀ s', φ s' → μ s' < μ s → Run P f N I0 R (app (E s') g0) (appR (A s') F) (.inLoop c :: k)) → Run P f N I0 R (app (E s) g0) (appR (A s) F) (.code c :: .inLoop c :: k)) :
    Run P f N I0 R g M (.code (.loop c) :: k) :=
  run_loop' (fun s => app (E s) g0) (fun s => appR (A s) F) φ μ s0 h0 (hg.app hr.keep) hM round
theorem run_againF {c : Code} {σ : Type} {E : σ → G} {g0 : G} {A : σ → List Res} {F : List Res} {φ : σ → Prop} {μ : σ → Nat} {m : Nat}
    (ih : ∀ s', φ s' → μ s' < m → Run P f N I0 R (app (E s') g0) (appR (A s') F) (.inLoop c :: k)) (s' : σ) (hφ : φ s') (hμ : μ s' < m) (hg : Keep g (E s')) (h0 : Keep g g0) (hM : M = appR (A s') F) : Run P f N I0 R g M (.inLoop c :: k) :=
  run_keep (hg.app h0) (hM ▸ ih s' hφ hμ)
theorem run_joinF {c : Code} {σ : Type} {ks : List Nat} {g0 : G} (F : List Res) (hr : Restr g ks g0) (E : σ → G) (A : σ → List Res) (φ : σ → Prop)
    (hF : ∃ A0, M = appR A0 F) (h2 : (∀ s, φ s → Run P f N I0 R (app (E s) g0) (appR (A s) F) k) → Run P f N I0 R g M (.code c :: k)) (h1 : ∀ s, φ s → Run P f N I0 R (app (E s) g0) (appR (A s) F) k) : Run P f N I0 R g M (.code c :: k) := h2 h1
theorem run_atF {σ : Type} {E : σ → G} {g0 : G} {A : σ → List Res} {F : List Res} {φ : σ → Prop} (j : ∀ s, φ s → Run P f N I0 R (app (E s) g0) (appR (A s) F) k) (s : σ) (hφ : φ s) (hM : M = appR (A s) F) (hg : Keep g (E s)) (h0 : Keep g g0) : Run P f N I0 R g M k :=
  run_keep (hg.app h0) (hM ▸ j s hφ)

/-- What is known of each cell, told otherwise. -/
inductive Ups : List D → List D → Prop where
  | nil : Ups [] []
  | cons {d e : D} {ds es : List D} : (∀ I v, d.rel I v → e.rel I v) → Ups ds es → Ups (d :: ds) (e :: es)

theorem Ups.rel {ds es : List D} (h : Ups ds es) : ∀ {I : Imm} {vs : List Value}, relL ds I vs → relL es I vs := by
  induction h with
  | nil => intro I vs h; exact h
  | cons h1 _ ih =>
    intro I vs h
    cases vs with
    | nil => cases h
    | cons v vs => exact ⟨h1 _ _ h.1, ih h.2⟩

theorem d_aggU {ds es : List D} (h : Ups ds es) : ∀ I v, (dAgg ds).rel I v → (dAgg es).rel I v := fun _ _ ⟨cs, e, r⟩ => ⟨cs, e, h.rel r⟩
end Go.Q

namespace Go.Q
open Classical

/-- The first index at which something holds, or -1. -/
noncomputable def idxP {α : Type} (q : α → Prop) : List α → Int
  | [] => -1
  | x :: xs => if q x then 0 else (if idxP q xs < 0 then -1 else idxP q xs + 1)

theorem idxP_none {α : Type} {q : α → Prop} : ∀ {xs : List α}, (∀ x ∈ xs, ¬ q x) → idxP q xs = -1
  | [], _ => rfl
  | x :: xs, h => by
    have h1 := h x (List.mem_cons_self ..)
    have h2 := idxP_none (xs := xs) fun y hy => h y (List.mem_cons_of_mem _ hy)
    simp [idxP, h1, h2]

theorem idxP_at {α : Type} [Inhabited α] {q : α → Prop} : ∀ {xs : List α} {i : Nat}, i < xs.length → (∀ j, j < i → ¬ q (xs[j]?.getD default)) → q (xs[i]?.getD default) → idxP q xs = i
  | x :: xs, 0, _, _, h => by
    have : q x := by simpa using h
    simp [idxP, this]
  | x :: xs, i + 1, hi, hb, h => by
    have h1 : ¬ q x := by simpa using hb 0 (by omega)
    have h2 := idxP_at (xs := xs) (i := i) (by simpa using hi) (fun j hj => by simpa using hb (j + 1) (by omega)) (by simpa using h)
    simp only [idxP, if_neg h1, h2]
    rw [if_neg (by omega)]
    omega

theorem idxP_nonneg {α : Type} {q : α → Prop} : ∀ {xs : List α}, 0 ≤ idxP q xs ↔ ∃ x ∈ xs, q x
  | [] => by simp [idxP]
  | x :: xs => by
    have ih := idxP_nonneg (q := q) (xs := xs)
    by_cases h : q x
    · simp [idxP, h]
    · by_cases h2 : idxP q xs < 0
      · have : ¬ ∃ x ∈ xs, q x := fun e => by have := ih.2 e; omega
        simp only [idxP, if_neg h, if_pos h2]
        simp only [List.mem_cons, exists_eq_or_imp, h, false_or]
        exact ⟨fun h => by omega, fun h => absurd h this⟩
      · have : ∃ x ∈ xs, q x := ih.1 (by omega)
        simp only [idxP, if_neg h, if_neg h2]
        simp only [List.mem_cons, exists_eq_or_imp, h, false_or]
        exact ⟨fun _ => this, fun _ => by omega⟩

/-- The binary search between i and j. -/
noncomputable def bsGo (lt : Nat → Prop) (i j : Nat) : Nat :=
  if i < j then (if lt ((i + j) / 2) then bsGo lt ((i + j) / 2 + 1) j else bsGo lt i ((i + j) / 2)) else i
termination_by j - i

theorem bsGo_le (lt : Nat → Prop) (i j : Nat) (h : i ≤ j) : i ≤ bsGo lt i j ∧ bsGo lt i j ≤ j := by
  fun_induction bsGo lt i j <;> omega

theorem bsGo_at {lt : Nat → Prop} {i j k : Nat} (hij : i ≤ j) (hi : i ≤ k) (hj : k ≤ j) (h1 : ∀ a, a < k → lt a) (h2 : ∀ a, k ≤ a → a < j → ¬ lt a) : bsGo lt i j = k := by
  fun_induction bsGo lt i j with
  | case1 i j h hl ih =>
    refine ih (by omega) ?_ hj h2
    by_cases c : k ≤ (i + j) / 2
    · exact absurd hl (h2 _ c (by omega))
    · omega
  | case2 i j h hl ih =>
    refine ih (by omega) hi ?_ (fun a ha hb => h2 a ha (by omega))
    by_cases c : (i + j) / 2 < k
    · exact absurd (h1 _ c) hl
    · omega
  | case3 i j h => omega

/-- How many, from the first on. -/
noncomputable def lead {α : Type} (q : α → Prop) : List α → Nat
  | [] => 0
  | x :: xs => if q x then lead q xs + 1 else 0

theorem lead_le {α : Type} (q : α → Prop) : ∀ xs : List α, lead q xs ≤ xs.length
  | [] => Nat.le_refl _
  | x :: xs => by have := lead_le q xs; simp only [lead]; split <;> simp <;> omega

theorem lead_lt {α : Type} [Inhabited α] {q : α → Prop} : ∀ {xs : List α} (j : Nat), j < lead q xs → q (xs[j]?.getD default)
  | [], j, h => by simp [lead] at h
  | x :: xs, j, h => by
    simp only [lead] at h
    split at h
    · rename_i hq
      cases j with
      | zero => simpa using hq
      | succ j => simpa using lead_lt (xs := xs) j (by omega)
    · omega

theorem lead_end {α : Type} [Inhabited α] {q : α → Prop} : ∀ {xs : List α}, lead q xs < xs.length → ¬ q (xs[lead q xs]?.getD default)
  | [], h => by simp [lead] at h
  | x :: xs, h => by
    simp only [lead] at h ⊢
    split
    · rename_i hq
      rw [if_pos hq] at h
      simpa using lead_end (xs := xs) (by simpa using h)
    · rename_i hq; simpa using hq

theorem take_snoc {α : Type} [Inhabited α] {xs : List α} {k : Nat} (h : k < xs.length) : xs.take (k + 1) = xs.take k ++ [xs[k]?.getD default] := by
  rw [List.take_add_one, List.getElem?_eq_getElem h]
  simp

theorem forall_getD {α : Type} [Inhabited α] {p : α → Prop} {xs : List α} (h : ∀ j, j < xs.length → p (xs[j]?.getD default)) : ∀ x ∈ xs, p x := by
  intro x hx
  obtain ⟨i, hi⟩ := List.getElem?_of_mem hx
  have h1 := (List.getElem?_eq_some_iff.1 hi).1
  have h2 := h i h1
  rw [hi] at h2
  exact h2

def cmpI (x y : Int) : Int := if x < y then -1 else if y < x then 1 else 0

theorem list_extD {α : Type} [Inhabited α] {xs ys : List α} (h : xs.length = ys.length) (he : ∀ j, j < xs.length → xs[j]?.getD default = ys[j]?.getD default) : xs = ys := by
  apply List.ext_getElem h
  intro i h1 h2
  have := he i h1
  simpa [h1, h2] using this

end Go.Q

namespace Go.Q
variable {P : Program} {g : G} {N : Nat} {M : List Res} {dst : Option Tmp} {ty : TypeId} {pos : String} {after : Array Edge} {gd : Option (Nat × Bool)} {t t' : TypeId} {x y : Operand} {k kd : IntKind} {m n : Int}

theorem u64_in {m : Int} (h : 0 ≤ m ∧ m < 18446744073709551616) : IntKind.u64.wrap m = m := by rw [IntKind.wrap_u64]; omega

theorem loc_convU {s : TypeId} {k0 : IntKind} [h1 : TyInt P s k0] [h2 : TyInt P t .u64] (hx : opd g x = some (dInt kd m)) (h : 0 ≤ m ∧ m < 18446744073709551616) : LocP P ⟨dst, .convert s t x, ty, pos, after, gd⟩ g N M (dInt .u64 m) :=
  (loc_convW hx).conv (by rw [u64_in h])
theorem loc_shr {c : Nat} (hx : opd g x = some (dInt k m)) (hy : opd g y = some (dInt kd (c : Nat))) (hc : (Nat.blt c 64 && Nat.blt c k.bits) = true) : LocP P ⟨dst, .binOp .shr t x y t', ty, pos, after, gd⟩ g N M (dInt k (m.fdiv (2 ^ c))) :=
  locP_of_run fun I a w hs _ => by
    have h1 : a.eval x = .int k m := opd_sound hs hx
    have h2 : a.eval y = .int kd c := opd_sound hs hy
    have e : eqGuard .shr t x y (.int k m) (.int kd c) = pure () := by unfold eqGuard; rfl
    simp only [Bool.and_eq_true, Nat.blt_eq] at hc
    have hn : ¬ ((c : Int) < 0) := by omega
    refine ⟨.int k (m.fdiv (2 ^ c)), ?_, rfl⟩
    have h3 : Int.toNat (c : Int) = c := by omega
    have h4 : (binOp .shr t (.int k m) (.int kd c)).run P w = .ok (.int k (m.fdiv (2 ^ c))) w := by
      simp only [binOp, Op.shift]
      rw [if_neg hn]
      simp [Nat.min_eq_left (Nat.le_of_lt hc.2)]
    simp [execOp, h1, h2, e, h4]

theorem loc_shrN {c : Nat} {q : Int} (hx : opd g x = some (dInt k m)) (hy : opd g y = some (dInt kd (c : Nat))) (hc : (Nat.blt c 64 && Nat.blt c k.bits) = true) (hq : (2 : Int) ^ c = q) (h : 0 ≤ m) (hq0 : 0 ≤ q) : LocP P ⟨dst, .binOp .shr t x y t', ty, pos, after, gd⟩ g N M (dInt k (m / q)) :=
  (loc_shr hx hy hc).conv (by rw [hq, Int.fdiv_eq_ediv_of_nonneg _ hq0])

end Go.Q

namespace Go.Q
open Classical

variable {P : Program} {f : FuncId} {N : Nat} {I0 : Imm} {g : G} {M : List Res} {k : List Item} {R : Goal}
variable {dst : Option Tmp} {ty : TypeId} {pos : String} {after : Array Edge} {gd : Option (Nat × Bool)}

/-- A list some times over. -/
def reps {α : Type} : Nat → List α → List α
  | 0, _ => []
  | c + 1, xs => xs ++ reps c xs

structure RepI {α : Type} (c : Nat) (xs : List α) (T : Nat) (s : Nat × List α) : Prop where
  len : s.2.length = T
  le : s.1 ≤ T
  eq : s.2.take s.1 = (reps c xs).take s.1
  mul : s.1 < T → 0 < s.1 ∧ ∃ a, s.1 = a * xs.length ∧ a ≤ c

/-! ### Handles of rows, told by name -/

theorem LocP.up {o : Oper} {d d' : D} (h : LocP P o g N M d) (hd : ∀ I v, d.rel I v → d'.rel I v) : LocP P o g N M d' :=
  ⟨fun I a w K Q hs hi hK => h.go I a w K Q hs hi fun v w' J h1 h2 h3 => hK v w' J h1 (hd _ _ h2) h3⟩
theorem LocP.upV {o : Oper} {v : Value} (h : LocP P o g N M (dSlV v)) : LocP P o g N M (dVal v) := h.up fun _ _ h => h.1

theorem run_freezeRowCellV {b kk : Nat} {T' : TypeId} {ds : List D} {C C' : Res → List Res} {F F' : List Res} {α : Type} {T n : Nat} {f' : α → List D} {xs : List α} {v : Value} (hm : Sel (rRow v T n f' xs) M C F) (hc : Sel (rCells b T' ds) F C' F') (hk : ds[kk]? = some (dSlV v))
    (h : Run P f N I0 R g (C' (rCells b T' (ds.set kk (dSl n f' xs)))) k) : Run P f N I0 R g M k :=
  run_freezeUp (dSlV v) (dSl n f' xs) hm hc hk (fun J u h1 h2 => by rw [show u = v from h1.1]; exact h2) h

/-! ### Rows that become immutable at once -/

/-- A turn that gives a row becomes one that gives a row that no longer changes. -/
theorem LocM.frz {o : Oper} {Min : List Res} {T n : Nat} {α : Type} {f' : α → List D} {xs : List α} (h : LocM P o g N Min (fun _ : Value => True) (fun v => dVal v) (fun v => [rRow v T n f' xs])) {r : Res} (hr : Min = [r]) :
    LocM P o g N [r] (fun _ : Unit => True) (fun _ => dSl n f' xs) (fun _ => [rNone]) := by
  subst hr
  constructor
  intro F I a w K Q hs hi hK
  refine h.go F I a w K Q hs hi fun v u w' J _ h1 h2 h3 => ?_
  obtain ⟨J', h4, h5, h6⟩ := row_freeze h3
  refine hK () u w' J' trivial (h1.trans h4) ?_ (none_ok h6)
  rw [show u = v from h2]
  exact h5
theorem LocM.frz0 {o : Oper} {T n : Nat} {α : Type} {f' : α → List D} {xs : List α} (h : LocM P o g N [] (fun _ : Value => True) (fun v => dVal v) (fun v => [rRow v T n f' xs])) : LocP P o g N M (dSl n f' xs) := by
  constructor
  intro I a w K Q hs hi hK
  refine h.go M I a w K Q hs hi fun v u w' J _ h1 h2 h3 => ?_
  obtain ⟨J', h4, h5, h6⟩ := row_freeze h3
  refine hK u w' J' (h1.trans h4) ?_ h6
  rw [show u = v from h2]
  exact h5

end Go.Q

namespace Go.Q

structure Ans where
  known : Prop
  row : List Int
deriving Inhabited
structure Nte where
  kind : Int
  read : Int
  probe : Int
  server : Int
  version : Int
  query : List Int
  values : List Int
  mark : Int
deriving Inhabited
structure Held where
  head : Hd
  rows : List (List Int)
deriving Inhabited
structure Job where
  read : Int
  probe : Int
  version : Int
  query : List Int
  got : List Int
deriving Inhabited
structure Srv where
  id : Int
  scheme : Schm
  up : Prop
  versions : List Held
  jobs : List Job
structure Psn where
  id : Int
  secret : Int
deriving Inhabited

abbrev cNte (n : Nte) : List D := [dInt .i64 n.kind, dInt .i64 n.read, dInt .i64 n.probe, dInt .i64 n.server, dInt .i64 n.version, dInts n.query, dInts n.values, dInt .i64 n.mark]
abbrev cHeld (h : Held) : List D := [dInt .i64 h.head.number, dInt .i64 h.head.p, dInt .i64 h.head.count, dInt .i64 h.head.width, dInt .i64 h.head.root, dRows h.rows]
abbrev cJob (j : Job) : List D := [dInt .i64 j.read, dInt .i64 j.probe, dInt .i64 j.version, dInts j.query, dInts j.got]
abbrev cSrv (v : Srv) : List D := [dInt .i64 v.id, dInt .i64 v.scheme.kind, dInt .i64 v.scheme.servers, dInt .i64 v.scheme.degree, dInt .i64 v.scheme.group, dB v.up, dSl 6 cHeld v.versions, dSl 5 cJob v.jobs]
abbrev cPsn (p : Psn) : List D := [dInt .i64 p.id, dInt .i64 p.secret]
abbrev dHeld (x : Held) : D := dAgg (cHeld x)
abbrev dJob (x : Job) : D := dAgg (cJob x)
abbrev dSrv (x : Srv) : D := dAgg (cSrv x)
abbrev dNte (x : Nte) : D := dAgg (cNte x)
abbrev dPsn (x : Psn) : D := dAgg (cPsn x)

end Go.Q

namespace Go.Q
open Go.Proofs

open Classical
noncomputable abbrev bsF {α : Type} [Inhabited α] (cm : α → Int) (xs : List α) : Nat := bsGo (fun h => cm (xs[h]?.getD default) < 0) 0 xs.length
theorem cloneIM_spec (xs : List (Int)) (hb : xs.length * 8 ≤ 140737488355328) : Spec Tryz.prog 87 [dSl 1 fI xs] [] (σ := Value) (fun _ => True) (fun v => dVal v) (fun v => [rRow v 3 1 fI xs]) := by
  refine spec_of_body Tryz.func87 rfl rfl (fun I F => ?_)
  refine run_seq ?_
  refine run_fact (s := 0) rfl (fun _ _ h => dSl_len h) (fun hlen => ?_)
  refine run_region ?_
  refine run_op (loc_assign rfl) rfl ?_
  refine run_nil ?_
  refine run_seq ?_
  refine run_seq ?_
  refine run_region ?_
  refine run_op (loc_move rfl) rfl ?_
  refine run_ex (loc_eqlNil rfl) rfl (fun e1 he1 => ?_)
  refine run_nil ?_
  refine run_cond rfl (fun h2 => ?_) (fun h2 => ?_)
  ·
    refine run_seq ?_
    refine run_region ?_
    refine run_op (loc_assign rfl) rfl ?_
    refine run_nil ?_
    refine run_ret (.slice none 0 0) Tryz.func87 rfl rfl ?_ (trivial) (fun _ _ h => by rw [he1 (by assumption)]; exact nil_ok h)
    exact fun _ _ h => h
  ·
    refine run_skip ?_
    refine run_seq ?_
    refine run_region ?_
    refine run_new (loc_build0 fI) rfl (fun b3 _ => ?_)
    refine run_op (loc_move rfl) rfl ?_
    refine run_append rfl (.here) rfl (by rfl) (by first | omega | (unfold lenMax; omega) | assumption | (simp; omega) | (simp [lenMax]; omega)) (by first | omega | (unfold lenMax; omega) | assumption | (simp; omega) | (simp [lenMax]; omega)) rfl (fun v4 => ?_)
    refine run_op (loc_assign rfl) rfl ?_
    refine run_nil ?_
    refine run_ret (v4) Tryz.func87 rfl rfl ?_ (trivial) (fun _ _ h => h)
    exact fun _ _ h => h

theorem cloneI_spec (xs : List (Int)) (hb : xs.length * 8 ≤ 140737488355328) : SpecP Tryz.prog 87 [dSl 1 fI xs] (dSl 1 fI xs) := spec_freeze (cloneIM_spec xs hb)
theorem cloneHlM_spec (xs : List (Held)) (hb : xs.length * 64 ≤ 140737488355328) : Spec Tryz.prog 92 [dSl 6 cHeld xs] [] (σ := Value) (fun _ => True) (fun v => dVal v) (fun v => [rRow v 89 6 cHeld xs]) := by
  refine spec_of_body Tryz.func92 rfl rfl (fun I F => ?_)
  refine run_seq ?_
  refine run_fact (s := 0) rfl (fun _ _ h => dSl_len h) (fun hlen => ?_)
  refine run_region ?_
  refine run_op (loc_assign rfl) rfl ?_
  refine run_nil ?_
  refine run_seq ?_
  refine run_seq ?_
  refine run_region ?_
  refine run_op (loc_move rfl) rfl ?_
  refine run_ex (loc_eqlNil rfl) rfl (fun e1 he1 => ?_)
  refine run_nil ?_
  refine run_cond rfl (fun h2 => ?_) (fun h2 => ?_)
  ·
    refine run_seq ?_
    refine run_region ?_
    refine run_op (loc_assign rfl) rfl ?_
    refine run_nil ?_
    refine run_ret (.slice none 0 0) Tryz.func92 rfl rfl ?_ (trivial) (fun _ _ h => by rw [he1 (by assumption)]; exact nil_ok h)
    exact fun _ _ h => h
  ·
    refine run_skip ?_
    refine run_seq ?_
    refine run_region ?_
    refine run_new (loc_build0 cHeld) rfl (fun b3 _ => ?_)
    refine run_op (loc_move rfl) rfl ?_
    refine run_append rfl (.here) rfl (by rfl) (by first | omega | (unfold lenMax; omega) | assumption | (simp; omega) | (simp [lenMax]; omega)) (by first | omega | (unfold lenMax; omega) | assumption | (simp; omega) | (simp [lenMax]; omega)) rfl (fun v4 => ?_)
    refine run_op (loc_assign rfl) rfl ?_
    refine run_nil ?_
    refine run_ret (v4) Tryz.func92 rfl rfl ?_ (trivial) (fun _ _ h => h)
    exact fun _ _ h => h

theorem cloneJbM_spec (xs : List (Job)) (hb : xs.length * 72 ≤ 140737488355328) : Spec Tryz.prog 93 [dSl 5 cJob xs] [] (σ := Value) (fun _ => True) (fun v => dVal v) (fun v => [rRow v 93 5 cJob xs]) := by
  refine spec_of_body Tryz.func93 rfl rfl (fun I F => ?_)
  refine run_seq ?_
  refine run_fact (s := 0) rfl (fun _ _ h => dSl_len h) (fun hlen => ?_)
  refine run_region ?_
  refine run_op (loc_assign rfl) rfl ?_
  refine run_nil ?_
  refine run_seq ?_
  refine run_seq ?_
  refine run_region ?_
  refine run_op (loc_move rfl) rfl ?_
  refine run_ex (loc_eqlNil rfl) rfl (fun e1 he1 => ?_)
  refine run_nil ?_
  refine run_cond rfl (fun h2 => ?_) (fun h2 => ?_)
  ·
    refine run_seq ?_
    refine run_region ?_
    refine run_op (loc_assign rfl) rfl ?_
    refine run_nil ?_
    refine run_ret (.slice none 0 0) Tryz.func93 rfl rfl ?_ (trivial) (fun _ _ h => by rw [he1 (by assumption)]; exact nil_ok h)
    exact fun _ _ h => h
  ·
    refine run_skip ?_
    refine run_seq ?_
    refine run_region ?_
    refine run_new (loc_build0 cJob) rfl (fun b3 _ => ?_)
    refine run_op (loc_move rfl) rfl ?_
    refine run_append rfl (.here) rfl (by rfl) (by first | omega | (unfold lenMax; omega) | assumption | (simp; omega) | (simp [lenMax]; omega)) (by first | omega | (unfold lenMax; omega) | assumption | (simp; omega) | (simp [lenMax]; omega)) rfl (fun v4 => ?_)
    refine run_op (loc_assign rfl) rfl ?_
    refine run_nil ?_
    refine run_ret (v4) Tryz.func93 rfl rfl ?_ (trivial) (fun _ _ h => h)
    exact fun _ _ h => h

theorem cloneRM_spec (xs : List (List Int)) (hb : xs.length * 24 ≤ 140737488355328) : Spec Tryz.prog 131 [dSl 1 fR xs] [] (σ := Value) (fun _ => True) (fun v => dVal v) (fun v => [rRow v 44 1 fR xs]) := by
  refine spec_of_body Tryz.func131 rfl rfl (fun I F => ?_)
  refine run_seq ?_
  refine run_fact (s := 0) rfl (fun _ _ h => dSl_len h) (fun hlen => ?_)
  refine run_region ?_
  refine run_op (loc_assign rfl) rfl ?_
  refine run_nil ?_
  refine run_seq ?_
  refine run_seq ?_
  refine run_region ?_
  refine run_op (loc_move rfl) rfl ?_
  refine run_ex (loc_eqlNil rfl) rfl (fun e1 he1 => ?_)
  refine run_nil ?_
  refine run_cond rfl (fun h2 => ?_) (fun h2 => ?_)
  ·
    refine run_seq ?_
    refine run_region ?_
    refine run_op (loc_assign rfl) rfl ?_
    refine run_nil ?_
    refine run_ret (.slice none 0 0) Tryz.func131 rfl rfl ?_ (trivial) (fun _ _ h => by rw [he1 (by assumption)]; exact nil_ok h)
    exact fun _ _ h => h
  ·
    refine run_skip ?_
    refine run_seq ?_
    refine run_region ?_
    refine run_new (loc_build0 fR) rfl (fun b3 _ => ?_)
    refine run_op (loc_move rfl) rfl ?_
    refine run_append rfl (.here) rfl (by rfl) (by first | omega | (unfold lenMax; omega) | assumption | (simp; omega) | (simp [lenMax]; omega)) (by first | omega | (unfold lenMax; omega) | assumption | (simp; omega) | (simp [lenMax]; omega)) rfl (fun v4 => ?_)
    refine run_op (loc_assign rfl) rfl ?_
    refine run_nil ?_
    refine run_ret (v4) Tryz.func131 rfl rfl ?_ (trivial) (fun _ _ h => h)
    exact fun _ _ h => h

theorem indexFuncJb_spec (q : Job → Prop) (xs : List (Job)) : SpecP Tryz.prog 100 [dSl 5 cJob xs, dFun Tryz.prog (fun x : Job => [dAgg (cJob x)]) (fun x => dB (q x))] (dInt .i64 (idxP q xs)) := by
  refine specP_of_body Tryz.func100 rfl rfl (fun I M => ?_)
  refine run_seq ?_
  refine run_region ?_
  refine run_op (loc_assign rfl) rfl ?_
  refine run_nil ?_
  refine run_seq ?_
  refine run_seq ?_
  refine run_region ?_
  refine run_op (loc_move rfl) rfl ?_
  first | refine runL_fact (s := 6) rfl (fun _ _ h => dSl_len h) (fun hlen1 => ?_) | skip
  refine run_op (loc_len rfl) rfl ?_
  refine run_op (loc_move rfl) rfl ?_
  refine run_nil ?_
  refine run_block ?_
  refine run_loopC (σ := Nat) (ks := [0, 1, 7]) (.cons rfl (.cons rfl (.cons rfl (.nil)))) (fun k => [(8, dInt .i64 (k : Nat))]) (fun k => k ≤ xs.length ∧ (∀ j, j < k → ¬ q (xs[j]?.getD default))) (fun k => xs.length - k) (0) (⟨by omega, fun j hj => by omega⟩) (.cons rfl (by first | exact fun _ _ h => h | exact d_int (by omega) | exact d_int (by simp) | exact d_intN (by omega) | exact d_any) .nil) ?_
  rintro k ⟨hk, hbk⟩ ih2
  refine run_seq ?_
  refine run_region ?_
  refine run_op (loc_lss rfl rfl) rfl ?_
  refine run_nil ?_
  refine run_seq ?_
  refine run_cond rfl (fun h3 => ?_) (fun h3 => ?_)
  ·
    refine run_skip ?_
    refine run_seq ?_
    refine run_block ?_
    refine run_seq ?_
    refine run_region ?_
    refine run_op (loc_move rfl) rfl ?_
    refine run_op (loc_assign rfl) rfl ?_
    refine run_nil ?_
    refine run_seq ?_
    refine run_region ?_
    refine run_op (loc_move rfl) rfl ?_
    refine run_op (loc_move rfl) rfl ?_
    refine run_op (loc_move rfl) rfl ?_
    first | refine run_op (loc_index rfl rfl (by first | omega | assumption)) rfl ?_ | refine run_op (loc_indexI rfl rfl (by first | omega | assumption)) rfl ?_
    refine run_op (loc_loadN rfl rfl) rfl ?_
    refine run_op (loc_callFun (xs[k]?.getD default) rfl rfl) rfl ?_
    refine run_nil ?_
    refine run_cond rfl (fun h4 => ?_) (fun h4 => ?_)
    ·
      refine run_seq ?_
      refine run_region ?_
      refine run_op (loc_move rfl) rfl ?_
      refine run_op (loc_assign rfl) rfl ?_
      refine run_nil ?_
      refine run_retP Tryz.func100 rfl rfl ?_
      exact d_int (idxP_at (by omega) hbk (by assumption)).symm
    ·
      refine run_skip ?_
      refine run_inBlock ?_
      refine run_region ?_
      first | refine run_op (loc_add rfl rfl (by first | omega | assumption)) rfl ?_ | refine run_op (loc_addW rfl rfl) rfl ?_
      refine run_op (loc_move rfl) rfl ?_
      refine run_nil ?_
      exact run_againC ih2 (k + 1) (⟨by omega, fun j hj => by by_cases e : j = k; (· subst e; assumption); (· exact hbk j (by omega))⟩) (by omega) (.cons rfl (by first | exact fun _ _ h => h | exact d_int (by omega) | exact d_int (by simp) | exact d_intN (by omega) | exact d_any) .nil) (.cons rfl (fun _ _ x => x) (.cons rfl (fun _ _ x => x) (.cons rfl (fun _ _ x => x) (.nil))))
  ·
    refine run_exit rfl ?_
    refine run_seq ?_
    refine run_region ?_
    refine run_op (loc_assign rfl) rfl ?_
    refine run_nil ?_
    refine run_retP Tryz.func100 rfl rfl ?_
    exact d_int (idxP_none (forall_getD (fun j hj => hbk j (by omega)))).symm

theorem indexFuncI_spec (q : Int → Prop) (xs : List (Int)) : SpecP Tryz.prog 173 [dSl 1 fI xs, dFun Tryz.prog (fun x : Int => [dInt .i64 x]) (fun x => dB (q x))] (dInt .i64 (idxP q xs)) := by
  refine specP_of_body Tryz.func173 rfl rfl (fun I M => ?_)
  refine run_seq ?_
  refine run_region ?_
  refine run_op (loc_assign rfl) rfl ?_
  refine run_nil ?_
  refine run_seq ?_
  refine run_seq ?_
  refine run_region ?_
  refine run_op (loc_move rfl) rfl ?_
  first | refine runL_fact (s := 6) rfl (fun _ _ h => dSl_len h) (fun hlen1 => ?_) | skip
  refine run_op (loc_len rfl) rfl ?_
  refine run_op (loc_move rfl) rfl ?_
  refine run_nil ?_
  refine run_block ?_
  refine run_loopC (σ := Nat) (ks := [0, 1, 7]) (.cons rfl (.cons rfl (.cons rfl (.nil)))) (fun k => [(8, dInt .i64 (k : Nat))]) (fun k => k ≤ xs.length ∧ (∀ j, j < k → ¬ q (xs[j]?.getD default))) (fun k => xs.length - k) (0) (⟨by omega, fun j hj => by omega⟩) (.cons rfl (by first | exact fun _ _ h => h | exact d_int (by omega) | exact d_int (by simp) | exact d_intN (by omega) | exact d_any) .nil) ?_
  rintro k ⟨hk, hbk⟩ ih2
  refine run_seq ?_
  refine run_region ?_
  refine run_op (loc_lss rfl rfl) rfl ?_
  refine run_nil ?_
  refine run_seq ?_
  refine run_cond rfl (fun h3 => ?_) (fun h3 => ?_)
  ·
    refine run_skip ?_
    refine run_seq ?_
    refine run_block ?_
    refine run_seq ?_
    refine run_region ?_
    refine run_op (loc_move rfl) rfl ?_
    refine run_op (loc_assign rfl) rfl ?_
    refine run_nil ?_
    refine run_seq ?_
    refine run_region ?_
    refine run_op (loc_move rfl) rfl ?_
    refine run_op (loc_move rfl) rfl ?_
    refine run_op (loc_move rfl) rfl ?_
    first | refine run_op (loc_index rfl rfl (by first | omega | assumption)) rfl ?_ | refine run_op (loc_indexI rfl rfl (by first | omega | assumption)) rfl ?_
    refine run_op (loc_load1 rfl) rfl ?_
    refine run_op (loc_callFun (xs[k]?.getD default) rfl rfl) rfl ?_
    refine run_nil ?_
    refine run_cond rfl (fun h4 => ?_) (fun h4 => ?_)
    ·
      refine run_seq ?_
      refine run_region ?_
      refine run_op (loc_move rfl) rfl ?_
      refine run_op (loc_assign rfl) rfl ?_
      refine run_nil ?_
      refine run_retP Tryz.func173 rfl rfl ?_
      exact d_int (idxP_at (by omega) hbk (by assumption)).symm
    ·
      refine run_skip ?_
      refine run_inBlock ?_
      refine run_region ?_
      first | refine run_op (loc_add rfl rfl (by first | omega | assumption)) rfl ?_ | refine run_op (loc_addW rfl rfl) rfl ?_
      refine run_op (loc_move rfl) rfl ?_
      refine run_nil ?_
      exact run_againC ih2 (k + 1) (⟨by omega, fun j hj => by by_cases e : j = k; (· subst e; assumption); (· exact hbk j (by omega))⟩) (by omega) (.cons rfl (by first | exact fun _ _ h => h | exact d_int (by omega) | exact d_int (by simp) | exact d_intN (by omega) | exact d_any) .nil) (.cons rfl (fun _ _ x => x) (.cons rfl (fun _ _ x => x) (.cons rfl (fun _ _ x => x) (.nil))))
  ·
    refine run_exit rfl ?_
    refine run_seq ?_
    refine run_region ?_
    refine run_op (loc_assign rfl) rfl ?_
    refine run_nil ?_
    refine run_retP Tryz.func173 rfl rfl ?_
    exact d_int (idxP_none (forall_getD (fun j hj => hbk j (by omega)))).symm

theorem containsFuncJb_spec (q : Job → Prop) (xs : List (Job)) : SpecP Tryz.prog 45 [dSl 5 cJob xs, dFun Tryz.prog (fun x : Job => [dAgg (cJob x)]) (fun x => dB (q x))] (dB (∃ x ∈ xs, q x)) := by
  refine specP_of_body Tryz.func45 rfl rfl (fun I M => ?_)
  refine run_seq ?_
  refine run_region ?_
  refine run_op (loc_assign rfl) rfl ?_
  refine run_nil ?_
  refine run_seq ?_
  refine run_region ?_
  refine run_op (loc_move rfl) rfl ?_
  refine run_op (loc_move rfl) rfl ?_
  refine run_op (loc_call (indexFuncJb_spec q xs) rfl) rfl ?_
  refine run_op (loc_geq rfl rfl) rfl ?_
  refine run_op (loc_assign rfl) rfl ?_
  refine run_nil ?_
  refine run_retP Tryz.func45 rfl rfl ?_
  exact d_B idxP_nonneg

theorem containsFuncI_spec (q : Int → Prop) (xs : List (Int)) : SpecP Tryz.prog 138 [dSl 1 fI xs, dFun Tryz.prog (fun x : Int => [dInt .i64 x]) (fun x => dB (q x))] (dB (∃ x ∈ xs, q x)) := by
  refine specP_of_body Tryz.func138 rfl rfl (fun I M => ?_)
  refine run_seq ?_
  refine run_region ?_
  refine run_op (loc_assign rfl) rfl ?_
  refine run_nil ?_
  refine run_seq ?_
  refine run_region ?_
  refine run_op (loc_move rfl) rfl ?_
  refine run_op (loc_move rfl) rfl ?_
  refine run_op (loc_call (indexFuncI_spec q xs) rfl) rfl ?_
  refine run_op (loc_geq rfl rfl) rfl ?_
  refine run_op (loc_assign rfl) rfl ?_
  refine run_nil ?_
  refine run_retP Tryz.func138 rfl rfl ?_
  exact d_B idxP_nonneg

theorem binSearchHl_spec (cm : Held → Int) (xs : List (Held)) (t : Int) : SpecP Tryz.prog 95 [dSl 6 cHeld xs, dInt .i64 t, dFun Tryz.prog (fun x : Held => [dAgg (cHeld x), dInt .i64 t]) (fun x => dInt .i64 (cm x))] (dTup [dInt .i64 (bsF cm xs : Nat), dB (bsF cm xs < xs.length ∧ cm (xs[bsF cm xs]?.getD default) = 0)]) := by
  refine specP_of_body Tryz.func95 rfl rfl (fun I M => ?_)
  refine run_seq ?_
  refine run_region ?_
  refine run_op (loc_assign rfl) rfl ?_
  refine run_op (loc_assign rfl) rfl ?_
  refine run_nil ?_
  refine run_seq ?_
  refine run_region ?_
  refine run_op (loc_move rfl) rfl ?_
  first | refine runL_fact (s := 12) rfl (fun _ _ h => dSl_len h) (fun hlen1 => ?_) | skip
  refine run_op (loc_len rfl) rfl ?_
  refine run_op (loc_assign rfl) rfl ?_
  refine run_nil ?_
  refine run_seq ?_
  refine run_region ?_
  refine run_op (loc_move rfl) rfl ?_
  refine run_op (loc_assign rfl) rfl ?_
  refine run_op (loc_assign rfl) rfl ?_
  refine run_nil ?_
  refine run_seq ?_
  refine run_block ?_
  refine run_loopC (σ := Nat × Nat) (ks := [0, 1, 2, 8]) (.cons rfl (.cons rfl (.cons rfl (.cons rfl (.nil))))) (fun s => [(9, dInt .i64 (s.1 : Nat)), (10, dInt .i64 (s.2 : Nat))]) (fun s => s.1 ≤ s.2 ∧ s.2 ≤ xs.length ∧ bsGo (fun h => cm (xs[h]?.getD default) < 0) s.1 s.2 = bsGo (fun h => cm (xs[h]?.getD default) < 0) 0 xs.length) (fun s => s.2 - s.1) ((0, xs.length)) (⟨by simp, by simp, rfl⟩) (.cons rfl (by first | exact fun _ _ h => h | exact d_int (by omega) | exact d_int (by simp) | exact d_intN (by omega) | exact d_any) (.cons rfl (by first | exact fun _ _ h => h | exact d_int (by omega) | exact d_int (by simp) | exact d_intN (by omega) | exact d_any) .nil)) ?_
  rintro ⟨s1, s2⟩ ⟨hs1, hs2, hs3⟩ ih2
  simp only at hs1 hs2
  refine run_seq ?_
  refine run_seq ?_
  refine run_region ?_
  refine run_op (loc_move rfl) rfl ?_
  refine run_op (loc_move rfl) rfl ?_
  refine run_op (loc_lss rfl rfl) rfl ?_
  refine run_nil ?_
  refine run_cond rfl (fun h3 => ?_) (fun h3 => ?_)
  ·
    refine run_skip ?_
    refine run_block ?_
    refine run_seq ?_
    refine run_region ?_
    refine run_op (loc_move rfl) rfl ?_
    refine run_op (loc_move rfl) rfl ?_
    first | refine run_op (loc_add rfl rfl (by first | omega | assumption)) rfl ?_ | refine run_op (loc_addW rfl rfl) rfl ?_
    first | refine run_op (loc_convU rfl (by first | omega | assumption)) rfl ?_ | refine run_op (loc_convW rfl) rfl ?_
    refine run_op (loc_shrN (c := 1) (q := 2) rfl rfl rfl (by decide) (by first | omega | assumption) (by decide)) rfl ?_
    refine runL_recast (s := 22) rfl (d_int (n := (((s1 + s2) / 2 : Nat) : Int)) (by omega)) ?_
    first | refine run_op (loc_conv rfl (by first | omega | assumption)) rfl ?_ | refine run_op (loc_convW rfl) rfl ?_
    refine run_op (loc_assign rfl) rfl ?_
    refine run_nil ?_
    refine run_seq ?_
    refine run_region ?_
    refine run_op (loc_move rfl) rfl ?_
    refine run_op (loc_move rfl) rfl ?_
    refine run_op (loc_move rfl) rfl ?_
    first | refine run_op (loc_index rfl rfl (by first | omega | assumption)) rfl ?_ | refine run_op (loc_indexI rfl rfl (by first | omega | assumption)) rfl ?_
    refine run_op (loc_loadN rfl rfl) rfl ?_
    refine run_op (loc_move rfl) rfl ?_
    refine run_op (loc_callFun (xs[(s1 + s2) / 2]?.getD default) rfl rfl) rfl ?_
    refine run_op (loc_lss rfl rfl) rfl ?_
    refine run_nil ?_
    refine run_cond rfl (fun h4 => ?_) (fun h4 => ?_)
    ·
      rw [bsGo, if_pos (by omega), if_pos h4] at hs3
      refine run_region ?_
      refine run_op (loc_move rfl) rfl ?_
      first | refine run_op (loc_add rfl rfl (by first | omega | assumption)) rfl ?_ | refine run_op (loc_addW rfl rfl) rfl ?_
      refine run_op (loc_assign rfl) rfl ?_
      refine run_nil ?_
      refine run_inBlock ?_
      exact run_againC ih2 (((s1 + s2) / 2 + 1, s2)) (⟨by simp; omega, hs2, hs3⟩) (by simp; omega) (.cons rfl (by first | exact fun _ _ h => h | exact d_int (by omega) | exact d_int (by simp) | exact d_intN (by omega) | exact d_any) (.cons rfl (by first | exact fun _ _ h => h | exact d_int (by omega) | exact d_int (by simp) | exact d_intN (by omega) | exact d_any) .nil)) (.cons rfl (fun _ _ x => x) (.cons rfl (fun _ _ x => x) (.cons rfl (fun _ _ x => x) (.cons rfl (fun _ _ x => x) (.nil)))))
    ·
      rw [bsGo, if_pos (by omega), if_neg h4] at hs3
      refine run_region ?_
      refine run_op (loc_move rfl) rfl ?_
      refine run_op (loc_assign rfl) rfl ?_
      refine run_nil ?_
      refine run_inBlock ?_
      exact run_againC ih2 ((s1, (s1 + s2) / 2)) (⟨by simp; omega, by simp; omega, hs3⟩) (by simp; omega) (.cons rfl (by first | exact fun _ _ h => h | exact d_int (by omega) | exact d_int (by simp) | exact d_intN (by omega) | exact d_any) (.cons rfl (by first | exact fun _ _ h => h | exact d_int (by omega) | exact d_int (by simp) | exact d_intN (by omega) | exact d_any) .nil)) (.cons rfl (fun _ _ x => x) (.cons rfl (fun _ _ x => x) (.cons rfl (fun _ _ x => x) (.cons rfl (fun _ _ x => x) (.nil)))))
  ·
    refine run_exit rfl ?_
    refine run_seq ?_
    refine run_region ?_
    refine run_op (loc_move rfl) rfl ?_
    refine run_op (loc_move rfl) rfl ?_
    refine run_op (loc_move rfl) rfl ?_
    refine run_op (loc_lss rfl rfl) rfl ?_
    refine run_op (loc_move rfl) rfl ?_
    refine run_gfirst rfl rfl (by first | exact guard_true _ | exact guard_false _ | exact guard_if (guard_true _) | exact guard_if (guard_false _)) (fun hg => loc_move rfl) rfl ?_
    refine run_gop rfl rfl (by first | exact guard_true _ | exact guard_false _ | exact guard_if (guard_true _) | exact guard_if (guard_false _)) (fun hg => loc_move rfl) rfl ?_
    refine run_gop rfl rfl (by first | exact guard_true _ | exact guard_false _ | exact guard_if (guard_true _) | exact guard_if (guard_false _)) (fun hg => loc_move rfl) rfl ?_
    first | refine run_gop rfl rfl (by first | exact guard_true _ | exact guard_false _ | exact guard_if (guard_true _) | exact guard_if (guard_false _)) (fun hg => loc_index rfl rfl (by first | omega | assumption)) rfl ?_ | refine run_gop rfl rfl (by first | exact guard_true _ | exact guard_false _ | exact guard_if (guard_true _) | exact guard_if (guard_false _)) (fun hg => loc_indexI rfl rfl (by first | omega | assumption)) rfl ?_
    refine run_gop rfl rfl (by first | exact guard_true _ | exact guard_false _ | exact guard_if (guard_true _) | exact guard_if (guard_false _)) (fun hg => loc_loadN rfl rfl) rfl ?_
    refine run_gop rfl rfl (by first | exact guard_true _ | exact guard_false _ | exact guard_if (guard_true _) | exact guard_if (guard_false _)) (fun hg => loc_move rfl) rfl ?_
    refine run_gop rfl rfl (by first | exact guard_true _ | exact guard_false _ | exact guard_if (guard_true _) | exact guard_if (guard_false _)) (fun hg => loc_callFun (xs[s1]?.getD default) rfl rfl) rfl ?_
    refine run_gop rfl rfl (by first | exact guard_true _ | exact guard_false _ | exact guard_if (guard_true _) | exact guard_if (guard_false _)) (fun hg => loc_eql rfl rfl) rfl ?_
    refine run_gleave ?_
    refine run_op (loc_and rfl rfl) rfl ?_
    refine run_op (loc_assign rfl) rfl ?_
    refine run_op (loc_assign rfl) rfl ?_
    refine run_nil ?_
    refine run_ret2P Tryz.func95 rfl rfl rfl ?_
    have hse : s1 = bsF cm xs := by unfold bsF; rw [← hs3]; unfold bsGo; rw [if_neg (by omega)]
    subst hse
    exact d_tup2 (fun _ _ h => h) (d_B (by omega))

instance : TyOver Tryz.prog 111 33 := ⟨_, 4, Tryz.func111, by kernel_rfl, by kernel_rfl, by kernel_rfl, by kernel_rfl⟩
theorem insertHl_spec (v : Value) (xs : List (Held)) (i : Nat) (e0 : Held) (hi : i ≤ xs.length) (hb : (xs.length + 1) * 64 ≤ 140737488355328) (hl : xs.length + 1 ≤ 17592186044416) :
    Spec Tryz.prog 56 [dVal v, dInt .i64 (i : Nat), dSl 6 (fun l : List D => l) [cHeld e0]] [rRow v 89 6 cHeld xs] (σ := Value) (fun _ => True) (fun v => dVal v) (fun v => [rRow v 89 6 cHeld (xs.take i ++ [e0] ++ xs.drop i)]) := by
  refine spec_of_body Tryz.func56 rfl rfl (fun I F => ?_)
  refine run_recast (s := 2) rfl (d_sl (ys := [e0]) (h := cHeld) rfl) ?_
  by_cases hie : i = xs.length
  · show Run _ _ _ _ _ _ (rRow v 89 6 cHeld xs :: F) _
    refine run_seq ?_
    refine run_region ?_
    refine run_op (loc_assign rfl) rfl ?_
    refine run_nil ?_
    refine run_seq ?_
    refine run_region ?_
    refine run_op (loc_move rfl) rfl ?_
    refine run_op (loc_move rfl) rfl ?_
    refine run_op (loc_sliceRowTop rfl (.here) rfl (by first | omega | assumption)) rfl ?_
    refine run_nil ?_
    refine run_seq ?_
    refine run_region ?_
    refine run_op (loc_move rfl) rfl ?_
    refine run_op (loc_len rfl) rfl ?_
    refine runL_recast (s := 14) rfl (d_int (n := 1) rfl) ?_
    refine run_op (loc_assign rfl) rfl ?_
    refine run_nil ?_
    refine run_seq ?_
    refine run_seq ?_
    refine run_region ?_
    refine run_op (loc_move rfl) rfl ?_
    refine run_op (loc_eql rfl rfl) rfl ?_
    refine run_nil ?_
    refine run_cond rfl (fun h1 => ?_) (fun h1 => ?_)
    · exfalso; simp at h1
    ·
      refine run_skip ?_
      refine run_seq ?_
      refine run_region ?_
      refine run_op (loc_move rfl) rfl ?_
      refine run_op (loc_lenRow rfl (.here)) rfl ?_
      refine run_op (loc_assign rfl) rfl ?_
      refine run_nil ?_
      refine run_seq ?_
      refine run_seq ?_
      refine run_region ?_
      refine run_op (loc_move rfl) rfl ?_
      refine run_op (loc_move rfl) rfl ?_
      refine run_op (loc_eql rfl rfl) rfl ?_
      refine run_nil ?_
      refine run_cond rfl (fun h2 => ?_) (fun h2 => ?_)
      ·
        refine run_seq ?_
        refine run_region ?_
        refine run_op (loc_move rfl) rfl ?_
        refine run_op (loc_move rfl) rfl ?_
        refine run_append rfl (.here) rfl (by rfl) (by first | omega | (unfold lenMax; omega) | assumption | (simp; omega) | (simp [lenMax]; omega)) (by first | omega | (unfold lenMax; omega) | assumption | (simp; omega) | (simp [lenMax]; omega)) rfl (fun v3 => ?_)
        refine run_op (loc_assign rfl) rfl ?_
        refine run_nil ?_
        refine run_ret (v3) Tryz.func56 rfl rfl ?_ (trivial) (fun _ _ h => by rw [List.take_of_length_le (by omega), List.drop_eq_nil_of_le (by omega), List.append_nil]; exact h)
        exact fun _ _ h => h
      · exfalso; omega
  · refine run_openRow .here (by intro hx; subst hx; simp at hi; exact hie hi) (fun b cap hv hc hm hlx hfn => ?_)
    subst hv
    have hlt : i < xs.length := by omega
    refine run_seq ?_
    refine run_region ?_
    refine run_op (loc_assign rfl) rfl ?_
    refine run_nil ?_
    refine run_seq ?_
    refine run_region ?_
    refine run_op (loc_move rfl) rfl ?_
    refine run_op (loc_move rfl) rfl ?_
    first | refine run_op (loc_sliceOwnFromLt rfl rfl (by first | omega | assumption)) rfl ?_ | refine run_op (loc_sliceOwnFrom rfl rfl (by first | omega | assumption)) rfl ?_
    refine run_nil ?_
    refine run_seq ?_
    refine run_region ?_
    refine run_op (loc_move rfl) rfl ?_
    refine run_op (loc_len rfl) rfl ?_
    refine runL_recast (s := 14) rfl (d_int (n := 1) rfl) ?_
    refine run_op (loc_assign rfl) rfl ?_
    refine run_nil ?_
    refine run_seq ?_
    refine run_seq ?_
    refine run_region ?_
    refine run_op (loc_move rfl) rfl ?_
    refine run_op (loc_eql rfl rfl) rfl ?_
    refine run_nil ?_
    refine run_cond rfl (fun h1 => ?_) (fun h1 => ?_)
    · exfalso; simp at h1
    ·
      refine run_skip ?_
      refine run_seq ?_
      refine run_region ?_
      refine run_op (loc_move rfl) rfl ?_
      refine run_op (loc_lenOwn rfl) rfl ?_
      refine run_op (loc_assign rfl) rfl ?_
      refine run_nil ?_
      refine run_seq ?_
      refine run_seq ?_
      refine run_region ?_
      refine run_op (loc_move rfl) rfl ?_
      refine run_op (loc_move rfl) rfl ?_
      refine run_op (loc_eql rfl rfl) rfl ?_
      refine run_nil ?_
      refine run_cond rfl (fun h2 => ?_) (fun h2 => ?_)
      · exfalso; omega
      ·
        refine run_skip ?_
        refine run_seq ?_
        refine run_seq ?_
        refine run_region ?_
        refine run_op (loc_move rfl) rfl ?_
        refine run_op (loc_move rfl) rfl ?_
        first | refine run_op (loc_add rfl rfl (by first | omega | assumption)) rfl ?_ | refine run_op (loc_addW rfl rfl) rfl ?_
        refine run_op (loc_move rfl) rfl ?_
        refine run_op (loc_capOwn rfl) rfl ?_
        refine run_op (loc_gtr rfl rfl) rfl ?_
        refine run_nil ?_
        refine run_cond rfl (fun h3 => ?_) (fun h3 => ?_)
        ·
          refine run_seq ?_
          refine run_region ?_
          refine run_op (loc_move rfl) rfl ?_
          refine run_op (loc_move rfl) rfl ?_
          refine run_op (loc_sliceOwnTo rfl rfl (by first | omega | assumption)) rfl ?_
          refine run_op (loc_move rfl) rfl ?_
          refine run_op (loc_move rfl) rfl ?_
          first | refine run_op (loc_add rfl rfl (by first | omega | assumption)) rfl ?_ | refine run_op (loc_addW rfl rfl) rfl ?_
          refine run_op (loc_move rfl) rfl ?_
          first | refine run_op (loc_sub rfl rfl (by first | omega | assumption)) rfl ?_ | refine run_op (loc_subW rfl rfl) rfl ?_
          refine run_updG rfl (loc_appendZeros (m := xs.length + 1 - i) rfl (opd_conv rfl (by congr 1; omega)) (by omega) (by simp [junk_length]; omega) rfl (by omega) (by unfold lenMax at *; omega)) (fun s hs => ?_)
          refine run_op (loc_assign rfl) rfl ?_
          refine run_nil ?_
          refine run_shutRow (len := xs.length) (cap := cap) (els' := junk 6 (cap - xs.length)) (.there .here) rfl rfl (by simp [junk_length]; omega) hm hlx ?_
          refine run_freezeRow (s := 0) rfl (.there .here) ?_
          refine run_seq ?_
          refine run_region ?_
          refine run_op (loc_move rfl) rfl ?_
          refine run_op (loc_move rfl) rfl ?_
          first | refine run_op (loc_sliceOwnFromLt rfl rfl (by first | omega | assumption)) rfl ?_ | refine run_op (loc_sliceOwnFrom rfl rfl (by first | omega | assumption)) rfl ?_
          refine run_op (loc_move rfl) rfl ?_
          refine run_updS rfl (.here) (loc_copyImm rfl rfl (by first | omega | (simp only [List.length_append, List.length_map, junk_length]; omega) | (simp only [List.length_append, List.length_map, junk_length]; split <;> omega) | (simp [put, junk_length]; omega))) (fun _ _ => ?_)
          refine run_nil ?_
          refine run_seq ?_
          refine dr_start _ (.none) [⟨[(9, none)], [], none⟩,
              ⟨[(1, none)], [], none⟩,
              ⟨[(7, none)], [], none⟩,
              ⟨[(47, some (1, false)), (48, some (2, false))], [1, 2], none⟩,
              ⟨[(46, some (0, false)), (49, some (3, false))], [0, 1, 2, 3], none⟩,
              ⟨[(0, none)], [], none⟩,
              ⟨[(1, none)], [], none⟩,
              ⟨[(51, some (5, false)), (52, some (6, false))], [5, 6], none⟩,
              ⟨[(50, some (4, false)), (53, some (7, false))], [0, 1, 2, 3, 4, 5, 6, 7], some (0, 0, true)⟩] [_] _ rfl rfl ?_
          refine dq_pure rfl (fun s => .g rfl (.nil)) (fun s hs _ => loc_move rfl) (by exact .nil) ?_
          refine dq_pure rfl (fun s => .g rfl (.nil)) (fun s hs _ => loc_move rfl) (by exact .nil) ?_
          refine dq_pure rfl (fun s => .g rfl (.nil)) (fun s hs _ => loc_move rfl) (by exact .nil) ?_
          first | refine dq_pure rfl (fun s => .op rfl (.op rfl (.nil))) (fun s hs _ => loc_add rfl rfl (by first | omega | assumption)) (by exact .nil) ?_ | refine dq_pure rfl (fun s => .op rfl (.op rfl (.nil))) (fun s hs _ => loc_addW rfl rfl) (by exact .nil) ?_
          first | refine dq_pure rfl (fun s => .op rfl (.op rfl (.nil))) (fun s hs _ => loc_sliceOwnFromLt rfl rfl (by first | omega | assumption)) (by exact .nil) ?_ | refine dq_pure rfl (fun s => .op rfl (.op rfl (.nil))) (fun s hs _ => loc_sliceOwnFrom rfl rfl (by first | omega | assumption)) (by exact .nil) ?_
          refine dq_pure rfl (fun s => .g rfl (.nil)) (fun s hs _ => loc_move rfl) (by exact .nil) ?_
          refine dq_pure rfl (fun s => .g rfl (.nil)) (fun s hs _ => loc_move rfl) (by exact .nil) ?_
          refine dq_pure rfl (fun s => .op rfl (.op rfl (.nil))) (fun s hs _ => loc_sliceFrom rfl rfl (by first | omega | assumption)) (by exact .nil) ?_
          refine dq_write rfl (fun s => .op rfl (.op rfl (.nil))) rfl rfl (fun s hs => loc_copyImm rfl rfl (by first | omega | (simp only [List.length_append, List.length_map, junk_length]; omega) | (simp only [List.length_append, List.length_map, junk_length]; split <;> omega) | (simp [put, junk_length]; omega))) (by exact .nil) ?_
          refine dq_end (rs := [_]) () rfl (fun _ => rfl) (.nil) rfl (fun _ => rfl) (fun _ _ => ?_)
          dsimp only [outG, outM, List.map, List.set, id]
          refine run_seq ?_
          refine run_region ?_
          refine run_op (loc_move rfl) rfl ?_
          refine run_op (loc_assign rfl) rfl ?_
          refine run_nil ?_
          refine run_ret (sl s.1 6 0 (xs.length + 1) s.2) Tryz.func56 rfl rfl ?_ (trivial) (fun _ _ h => inv_shut h ((insert_grow (A := xs.map cHeld) (i := i) (c := s.2) (x := cHeld e0) (by simp; omega) (by omega) (by omega) (by omega) (by rw [List.take_of_length_le (by simp; omega)]; rfl) (by rw [List.take_of_length_le (by simp; omega), List.map_drop]; congr 1) (by simp; omega) (by simp [junk_length])).trans (congrArg (· ++ _) (by simp))) (by simp; omega) (by simp [junk_length]; omega) (by omega) (by simp; unfold lenMax; omega))
          exact fun _ _ h => by rwa [show (i : Int).toNat + (xs.length + 1 - i) = xs.length + 1 by omega] at h
        ·
          refine run_skip ?_
          refine run_seq ?_
          refine run_region ?_
          refine run_op (loc_move rfl) rfl ?_
          refine run_op (loc_move rfl) rfl ?_
          refine run_op (loc_move rfl) rfl ?_
          first | refine run_op (loc_add rfl rfl (by first | omega | assumption)) rfl ?_ | refine run_op (loc_addW rfl rfl) rfl ?_
          refine run_op (loc_sliceOwnTo rfl rfl (by first | omega | assumption)) rfl ?_
          refine run_op (loc_assign rfl) rfl ?_
          refine run_nil ?_
          refine run_seq ?_
          refine run_seq ?_
          refine run_region ?_
          refine run_op (loc_move rfl) rfl ?_
          refine run_op (loc_move rfl) rfl ?_
          refine run_op (loc_move rfl) rfl ?_
          refine run_op (loc_move rfl) rfl ?_
          first | refine run_op (loc_add rfl rfl (by first | omega | assumption)) rfl ?_ | refine run_op (loc_addW rfl rfl) rfl ?_
          first | refine run_op (loc_sliceOwnFromLt rfl rfl (by first | omega | assumption)) rfl ?_ | refine run_op (loc_sliceOwnFrom rfl rfl (by first | omega | assumption)) rfl ?_
          refine run_op (loc_overlaps rfl rfl (by first | exact .here | exact .there .here | exact .there (.there .here) | exact .there (.there (.there .here)) | exact .there (.there (.there (.there .here))) | exact .there (.there (.there (.there (.there .here))))) (by simp only [List.length_append, List.length_map, junk_length]; omega)) rfl ?_
          refine run_op (loc_not rfl) rfl ?_
          refine run_nil ?_
          refine run_cond rfl (fun h4 => ?_) (fun h4 => ?_)
          ·
            refine run_seq ?_
            refine dr_start _ (.none) [⟨[(0, none)], [], none⟩,
                ⟨[(1, none)], [], none⟩,
                ⟨[(7, none)], [], none⟩,
                ⟨[(70, some (1, false)), (71, some (2, false))], [1, 2], none⟩,
                ⟨[(69, some (0, false)), (72, some (3, false))], [0, 1, 2, 3], none⟩,
                ⟨[(0, none)], [], none⟩,
                ⟨[(1, none)], [], none⟩,
                ⟨[(74, some (5, false)), (75, some (6, false))], [5, 6], none⟩,
                ⟨[(73, some (4, false)), (76, some (7, false))], [0, 1, 2, 3, 4, 5, 6, 7], some (0, 0, true)⟩] [_] _ rfl rfl ?_
            refine dq_pure rfl (fun s => .g rfl (.nil)) (fun s hs _ => loc_move rfl) (by exact .nil) ?_
            refine dq_pure rfl (fun s => .g rfl (.nil)) (fun s hs _ => loc_move rfl) (by exact .nil) ?_
            refine dq_pure rfl (fun s => .g rfl (.nil)) (fun s hs _ => loc_move rfl) (by exact .nil) ?_
            first | refine dq_pure rfl (fun s => .op rfl (.op rfl (.nil))) (fun s hs _ => loc_add rfl rfl (by first | omega | assumption)) (by exact .nil) ?_ | refine dq_pure rfl (fun s => .op rfl (.op rfl (.nil))) (fun s hs _ => loc_addW rfl rfl) (by exact .nil) ?_
            first | refine dq_pure rfl (fun s => .op rfl (.op rfl (.nil))) (fun s hs _ => loc_sliceOwnFromLt rfl rfl (by first | omega | assumption)) (by exact .nil) ?_ | refine dq_pure rfl (fun s => .op rfl (.op rfl (.nil))) (fun s hs _ => loc_sliceOwnFrom rfl rfl (by first | omega | assumption)) (by exact .nil) ?_
            refine dq_pure rfl (fun s => .g rfl (.nil)) (fun s hs _ => loc_move rfl) (by exact .nil) ?_
            refine dq_pure rfl (fun s => .g rfl (.nil)) (fun s hs _ => loc_move rfl) (by exact .nil) ?_
            first | refine dq_pure rfl (fun s => .op rfl (.op rfl (.nil))) (fun s hs _ => loc_sliceOwnFromLt rfl rfl (by first | omega | assumption)) (by exact .nil) ?_ | refine dq_pure rfl (fun s => .op rfl (.op rfl (.nil))) (fun s hs _ => loc_sliceOwnFrom rfl rfl (by first | omega | assumption)) (by exact .nil) ?_
            refine dq_write rfl (fun s => .op rfl (.op rfl (.nil))) rfl rfl (fun s hs => loc_copyOwn rfl rfl (by first | omega | (simp only [List.length_append, List.length_map, junk_length]; omega) | (simp only [List.length_append, List.length_map, junk_length]; split <;> omega) | (simp [put, junk_length]; omega)) (one_part (by first | omega | (split <;> omega)))) (by exact .nil) ?_
            refine dq_end (rs := [_]) () rfl (fun _ => rfl) (.nil) rfl (fun _ => rfl) (fun _ _ => ?_)
            dsimp only [outG, outM, List.map, List.set, id]
            refine run_seq ?_
            refine run_region ?_
            refine run_op (loc_move rfl) rfl ?_
            refine run_op (loc_move rfl) rfl ?_
            first | refine run_op (loc_sliceOwnFromLt rfl rfl (by first | omega | assumption)) rfl ?_ | refine run_op (loc_sliceOwnFrom rfl rfl (by first | omega | assumption)) rfl ?_
            refine run_op (loc_move rfl) rfl ?_
            refine run_updS rfl (.here) (loc_copyImm rfl rfl (by first | omega | (simp only [List.length_append, List.length_map, junk_length]; omega) | (simp only [List.length_append, List.length_map, junk_length]; split <;> omega) | (simp [put, junk_length]; omega))) (fun _ _ => ?_)
            refine run_nil ?_
            refine run_seq ?_
            refine run_region ?_
            refine run_op (loc_move rfl) rfl ?_
            refine run_op (loc_assign rfl) rfl ?_
            refine run_nil ?_
            refine run_ret (sl b 6 0 (xs.length + 1) cap) Tryz.func56 rfl rfl ?_ (trivial) (fun _ _ h => inv_shut h ((insert_list (A := xs.map cHeld) (i := i) (x := cHeld e0) (by simp; omega) (by omega) (by omega) (by omega) (by simp; omega) (by rw [List.take_of_length_le (by simp; omega)]; rfl) (by simp [junk_length]; omega)).trans (congrArg (· ++ _) (by simp))) (by simp; omega) (by simp [junk_length]; omega) (by omega) (by simp; unfold lenMax; omega))
            exact fun _ _ h => h
          · exfalso; exact h4 (fun h => h)

theorem deleteJb_spec (v : Value) (xs : List (Job)) (i j : Nat) (hi : i < j) (hj : j ≤ xs.length) :
    Spec Tryz.prog 52 [dVal v, dInt .i64 (i : Nat), dInt .i64 (j : Nat)] [rRow v 93 5 cJob xs] (σ := Value) (fun _ => True) (fun v => dVal v) (fun v => [rRow v 93 5 cJob (xs.take i ++ xs.drop j)]) := by
  refine spec_of_body Tryz.func52 rfl rfl (fun I F => ?_)
  refine run_openRow .here (by intro hx; subst hx; simp at hj; omega) (fun b cap hv hc hm hlx hfn => ?_)
  subst hv
  refine run_seq ?_
  refine run_region ?_
  refine run_op (loc_assign rfl) rfl ?_
  refine run_nil ?_
  refine run_seq ?_
  refine run_region ?_
  refine run_op (loc_move rfl) rfl ?_
  refine run_op (loc_move rfl) rfl ?_
  refine run_op (loc_move rfl) rfl ?_
  refine run_op (loc_move rfl) rfl ?_
  refine run_op (loc_lenOwn rfl) rfl ?_
  refine run_op (loc_sliceOwn3 rfl rfl rfl rfl (by first | omega | assumption)) rfl ?_
  refine run_nil ?_
  refine run_seq ?_
  refine run_seq ?_
  refine run_region ?_
  refine run_op (loc_move rfl) rfl ?_
  refine run_op (loc_move rfl) rfl ?_
  refine run_op (loc_eql rfl rfl) rfl ?_
  refine run_nil ?_
  refine run_cond rfl (fun h1 => ?_) (fun h1 => ?_)
  · exfalso; omega
  ·
    refine run_skip ?_
    refine run_seq ?_
    refine run_region ?_
    refine run_op (loc_move rfl) rfl ?_
    refine run_op (loc_lenOwn rfl) rfl ?_
    refine run_op (loc_assign rfl) rfl ?_
    refine run_nil ?_
    refine run_seq ?_
    refine dr_start _ (.none) [⟨[(0, none)], [], none⟩,
        ⟨[(1, none)], [], none⟩,
        ⟨[(20, some (0, false)), (21, some (1, false))], [0, 1], none⟩,
        ⟨[(0, none)], [], none⟩,
        ⟨[(2, none)], [], none⟩,
        ⟨[(23, some (3, false)), (24, some (4, false))], [3, 4], none⟩,
        ⟨[(22, some (2, false)), (25, some (5, false))], [0, 1, 2, 3, 4, 5], some (0, 0, true)⟩,
        ⟨[(26, some (6, false))], [0, 1, 2, 3, 4, 5, 6], none⟩] [_] _ rfl rfl ?_
    refine dq_pure rfl (fun s => .g rfl (.nil)) (fun s hs _ => loc_move rfl) (by exact .nil) ?_
    refine dq_pure rfl (fun s => .g rfl (.nil)) (fun s hs _ => loc_move rfl) (by exact .nil) ?_
    refine dq_pure rfl (fun s => .op rfl (.op rfl (.nil))) (fun s hs _ => loc_sliceOwnTo rfl rfl (by first | omega | assumption)) (by exact .nil) ?_
    refine dq_pure rfl (fun s => .g rfl (.nil)) (fun s hs _ => loc_move rfl) (by exact .nil) ?_
    refine dq_pure rfl (fun s => .g rfl (.nil)) (fun s hs _ => loc_move rfl) (by exact .nil) ?_
    first | refine dq_pure rfl (fun s => .op rfl (.op rfl (.nil))) (fun s hs _ => loc_sliceOwnFromLt rfl rfl (by first | omega | assumption)) (by exact .nil) ?_ | refine dq_pure rfl (fun s => .op rfl (.op rfl (.nil))) (fun s hs _ => loc_sliceOwnFrom rfl rfl (by first | omega | assumption)) (by exact .nil) ?_
    refine dq_write rfl (fun s => .op rfl (.op rfl (.nil))) rfl rfl (fun s hs => loc_appendOwn rfl rfl (by first | omega | (simp only [List.length_append, List.length_map, junk_length]; omega) | (simp only [List.length_append, List.length_map, junk_length]; split <;> omega) | (simp [put, junk_length]; omega)) (by first | omega | (simp only [List.length_append, List.length_map, junk_length]; omega) | (simp only [List.length_append, List.length_map, junk_length]; split <;> omega) | (simp [put, junk_length]; omega)) rfl (one_part (by first | omega | (split <;> omega)))) (by exact .nil) ?_
    refine dq_pure rfl (fun s => .op rfl (.nil)) (fun s hs _ => loc_assign rfl) (by exact .nil) ?_
    refine dq_end (rs := [_]) () rfl (fun _ => rfl) (.nil) rfl (fun _ => rfl) (fun _ _ => ?_)
    dsimp only [outG, outM, List.map, List.set, id]
    refine run_seq ?_
    rw [show (i : Int).toNat + (xs.length - (j : Int).toNat) = i + (xs.length - j) by omega]
    refine run_region ?_
    refine run_op (loc_move rfl) rfl ?_
    refine run_op (loc_move rfl) rfl ?_
    refine run_op (loc_lenOwn rfl) rfl ?_
    refine run_op (loc_move rfl) rfl ?_
    first | refine run_op (loc_sliceOwnLt rfl rfl rfl (by first | omega | assumption)) rfl ?_ | refine run_op (loc_sliceOwn rfl rfl rfl (by first | omega | assumption)) rfl ?_
    refine run_updS0 (.here) (loc_clearOwn rfl (by first | omega | (simp only [List.length_append, List.length_map, junk_length]; omega) | (simp only [List.length_append, List.length_map, junk_length]; split <;> omega) | (simp [put, junk_length]; omega)) rfl (by simp [Value.cells, Value.oneCell'])) (fun _ _ => ?_)
    refine run_nil ?_
    refine run_seq ?_
    refine run_region ?_
    refine run_op (loc_move rfl) rfl ?_
    refine run_op (loc_assign rfl) rfl ?_
    refine run_nil ?_
    refine run_ret (sl b 5 0 (i + (xs.length - j)) cap) Tryz.func52 rfl rfl ?_ (trivial) (fun _ _ h => by rw [if_neg (by omega)] at h; exact inv_shut h ((delete_list (A := xs.map cJob) (i := i) (j := j) (by omega) (by simp; omega) (by omega) (fun hm => by split <;> omega) (by simp) (by simp; omega) (by omega)).trans (congrArg (· ++ _) (by simp))) (by simp; omega) (by simp [junk_length]; omega) (by omega) (by simp; unfold lenMax at *; omega))
    exact fun _ _ h => h

theorem deleteHl_spec (v : Value) (xs : List (Held)) (i j : Nat) (hi : i < j) (hj : j ≤ xs.length) :
    Spec Tryz.prog 58 [dVal v, dInt .i64 (i : Nat), dInt .i64 (j : Nat)] [rRow v 89 6 cHeld xs] (σ := Value) (fun _ => True) (fun v => dVal v) (fun v => [rRow v 89 6 cHeld (xs.take i ++ xs.drop j)]) := by
  refine spec_of_body Tryz.func58 rfl rfl (fun I F => ?_)
  refine run_openRow .here (by intro hx; subst hx; simp at hj; omega) (fun b cap hv hc hm hlx hfn => ?_)
  subst hv
  refine run_seq ?_
  refine run_region ?_
  refine run_op (loc_assign rfl) rfl ?_
  refine run_nil ?_
  refine run_seq ?_
  refine run_region ?_
  refine run_op (loc_move rfl) rfl ?_
  refine run_op (loc_move rfl) rfl ?_
  refine run_op (loc_move rfl) rfl ?_
  refine run_op (loc_move rfl) rfl ?_
  refine run_op (loc_lenOwn rfl) rfl ?_
  refine run_op (loc_sliceOwn3 rfl rfl rfl rfl (by first | omega | assumption)) rfl ?_
  refine run_nil ?_
  refine run_seq ?_
  refine run_seq ?_
  refine run_region ?_
  refine run_op (loc_move rfl) rfl ?_
  refine run_op (loc_move rfl) rfl ?_
  refine run_op (loc_eql rfl rfl) rfl ?_
  refine run_nil ?_
  refine run_cond rfl (fun h1 => ?_) (fun h1 => ?_)
  · exfalso; omega
  ·
    refine run_skip ?_
    refine run_seq ?_
    refine run_region ?_
    refine run_op (loc_move rfl) rfl ?_
    refine run_op (loc_lenOwn rfl) rfl ?_
    refine run_op (loc_assign rfl) rfl ?_
    refine run_nil ?_
    refine run_seq ?_
    refine dr_start _ (.none) [⟨[(0, none)], [], none⟩,
        ⟨[(1, none)], [], none⟩,
        ⟨[(20, some (0, false)), (21, some (1, false))], [0, 1], none⟩,
        ⟨[(0, none)], [], none⟩,
        ⟨[(2, none)], [], none⟩,
        ⟨[(23, some (3, false)), (24, some (4, false))], [3, 4], none⟩,
        ⟨[(22, some (2, false)), (25, some (5, false))], [0, 1, 2, 3, 4, 5], some (0, 0, true)⟩,
        ⟨[(26, some (6, false))], [0, 1, 2, 3, 4, 5, 6], none⟩] [_] _ rfl rfl ?_
    refine dq_pure rfl (fun s => .g rfl (.nil)) (fun s hs _ => loc_move rfl) (by exact .nil) ?_
    refine dq_pure rfl (fun s => .g rfl (.nil)) (fun s hs _ => loc_move rfl) (by exact .nil) ?_
    refine dq_pure rfl (fun s => .op rfl (.op rfl (.nil))) (fun s hs _ => loc_sliceOwnTo rfl rfl (by first | omega | assumption)) (by exact .nil) ?_
    refine dq_pure rfl (fun s => .g rfl (.nil)) (fun s hs _ => loc_move rfl) (by exact .nil) ?_
    refine dq_pure rfl (fun s => .g rfl (.nil)) (fun s hs _ => loc_move rfl) (by exact .nil) ?_
    first | refine dq_pure rfl (fun s => .op rfl (.op rfl (.nil))) (fun s hs _ => loc_sliceOwnFromLt rfl rfl (by first | omega | assumption)) (by exact .nil) ?_ | refine dq_pure rfl (fun s => .op rfl (.op rfl (.nil))) (fun s hs _ => loc_sliceOwnFrom rfl rfl (by first | omega | assumption)) (by exact .nil) ?_
    refine dq_write rfl (fun s => .op rfl (.op rfl (.nil))) rfl rfl (fun s hs => loc_appendOwn rfl rfl (by first | omega | (simp only [List.length_append, List.length_map, junk_length]; omega) | (simp only [List.length_append, List.length_map, junk_length]; split <;> omega) | (simp [put, junk_length]; omega)) (by first | omega | (simp only [List.length_append, List.length_map, junk_length]; omega) | (simp only [List.length_append, List.length_map, junk_length]; split <;> omega) | (simp [put, junk_length]; omega)) rfl (one_part (by first | omega | (split <;> omega)))) (by exact .nil) ?_
    refine dq_pure rfl (fun s => .op rfl (.nil)) (fun s hs _ => loc_assign rfl) (by exact .nil) ?_
    refine dq_end (rs := [_]) () rfl (fun _ => rfl) (.nil) rfl (fun _ => rfl) (fun _ _ => ?_)
    dsimp only [outG, outM, List.map, List.set, id]
    refine run_seq ?_
    rw [show (i : Int).toNat + (xs.length - (j : Int).toNat) = i + (xs.length - j) by omega]
    refine run_region ?_
    refine run_op (loc_move rfl) rfl ?_
    refine run_op (loc_move rfl) rfl ?_
    refine run_op (loc_lenOwn rfl) rfl ?_
    refine run_op (loc_move rfl) rfl ?_
    first | refine run_op (loc_sliceOwnLt rfl rfl rfl (by first | omega | assumption)) rfl ?_ | refine run_op (loc_sliceOwn rfl rfl rfl (by first | omega | assumption)) rfl ?_
    refine run_updS0 (.here) (loc_clearOwn rfl (by first | omega | (simp only [List.length_append, List.length_map, junk_length]; omega) | (simp only [List.length_append, List.length_map, junk_length]; split <;> omega) | (simp [put, junk_length]; omega)) rfl (by simp [Value.cells, Value.oneCell'])) (fun _ _ => ?_)
    refine run_nil ?_
    refine run_seq ?_
    refine run_region ?_
    refine run_op (loc_move rfl) rfl ?_
    refine run_op (loc_assign rfl) rfl ?_
    refine run_nil ?_
    refine run_ret (sl b 6 0 (i + (xs.length - j)) cap) Tryz.func58 rfl rfl ?_ (trivial) (fun _ _ h => by rw [if_neg (by omega)] at h; exact inv_shut h ((delete_list (A := xs.map cHeld) (i := i) (j := j) (by omega) (by simp; omega) (by omega) (fun hm => by split <;> omega) (by simp) (by simp; omega) (by omega)).trans (congrArg (· ++ _) (by simp))) (by simp; omega) (by simp [junk_length]; omega) (by omega) (by simp; unfold lenMax at *; omega))
    exact fun _ _ h => h

theorem isNaN_spec (x : Int) : SpecP Tryz.prog 137 [dInt .i64 x] (dB False) := by
  refine specP_of_body Tryz.func137 rfl rfl (fun I M => ?_)
  refine run_seq ?_
  refine run_region ?_
  refine run_op (loc_assign rfl) rfl ?_
  refine run_nil ?_
  refine run_seq ?_
  refine run_region ?_
  refine run_op (loc_move rfl) rfl ?_
  refine run_op (loc_move rfl) rfl ?_
  refine run_op (loc_neq rfl rfl) rfl ?_
  refine run_op (loc_assign rfl) rfl ?_
  refine run_nil ?_
  refine run_retP Tryz.func137 rfl rfl ?_
  exact d_B (by simp)

theorem compare_spec (x y : Int) : SpecP Tryz.prog 97 [dInt .i64 x, dInt .i64 y] (dInt .i64 (cmpI x y)) := by
  refine specP_of_body Tryz.func97 rfl rfl (fun I M => ?_)
  refine run_seq ?_
  refine run_region ?_
  refine run_op (loc_assign rfl) rfl ?_
  refine run_nil ?_
  refine run_seq ?_
  refine run_region ?_
  refine run_op (loc_move rfl) rfl ?_
  refine run_op (loc_call (isNaN_spec _) rfl) rfl ?_
  refine run_op (loc_assign rfl) rfl ?_
  refine run_nil ?_
  refine run_seq ?_
  refine run_region ?_
  refine run_op (loc_move rfl) rfl ?_
  refine run_op (loc_call (isNaN_spec _) rfl) rfl ?_
  refine run_op (loc_assign rfl) rfl ?_
  refine run_nil ?_
  refine run_seq ?_
  refine run_seq ?_
  refine run_region ?_
  refine run_op (loc_move rfl) rfl ?_
  refine run_nil ?_
  refine run_cond rfl (fun h1 => ?_) (fun h1 => ?_)
  · exfalso; exact h1
  ·
    refine run_skip ?_
    refine run_seq ?_
    refine run_seq ?_
    refine run_region ?_
    refine run_op (loc_move rfl) rfl ?_
    refine run_nil ?_
    refine run_cond rfl (fun h2 => ?_) (fun h2 => ?_)
    · exfalso; exact h2
    ·
      refine run_skip ?_
      refine run_seq ?_
      refine run_seq ?_
      refine run_region ?_
      refine run_op (loc_move rfl) rfl ?_
      refine run_op (loc_move rfl) rfl ?_
      refine run_op (loc_lss rfl rfl) rfl ?_
      refine run_nil ?_
      refine run_cond rfl (fun h3 => ?_) (fun h3 => ?_)
      ·
        refine run_seq ?_
        refine run_region ?_
        refine run_op (loc_assign rfl) rfl ?_
        refine run_nil ?_
        refine run_retP Tryz.func97 rfl rfl ?_
        exact d_int (by unfold cmpI; rw [if_pos (by omega)])
      ·
        refine run_skip ?_
        refine run_seq ?_
        refine run_seq ?_
        refine run_region ?_
        refine run_op (loc_move rfl) rfl ?_
        refine run_op (loc_move rfl) rfl ?_
        refine run_op (loc_gtr rfl rfl) rfl ?_
        refine run_nil ?_
        refine run_cond rfl (fun h4 => ?_) (fun h4 => ?_)
        ·
          refine run_seq ?_
          refine run_region ?_
          refine run_op (loc_assign rfl) rfl ?_
          refine run_nil ?_
          refine run_retP Tryz.func97 rfl rfl ?_
          exact d_int (by unfold cmpI; rw [if_neg (by omega), if_pos (by omega)])
        ·
          refine run_skip ?_
          refine run_seq ?_
          refine run_region ?_
          refine run_op (loc_assign rfl) rfl ?_
          refine run_nil ?_
          refine run_retP Tryz.func97 rfl rfl ?_
          exact d_int (by unfold cmpI; rw [if_neg (by omega), if_neg (by omega)])

end Go.Q

namespace Go.Q
open Classical

theorem fe_mod (x y p : Int) : (x * (y % p)) % p = x * y % p := by rw [Int.mul_emod, Int.emod_emod, ← Int.mul_emod]
theorem fm_mod (x y p : Int) : (x % p * y) % p = x * y % p := by rw [Int.mul_emod, Int.emod_emod, ← Int.mul_emod]
theorem pow_emod (a p : Int) : ∀ n : Nat, (a % p) ^ n % p = a ^ n % p
  | 0 => by simp
  | n + 1 => by rw [Int.pow_succ, Int.pow_succ, Int.mul_emod, pow_emod a p n, Int.emod_emod, ← Int.mul_emod]
theorem mod_bd {p : Int} (x : Int) (h : 0 < p) : 0 ≤ x % p ∧ x % p < p := ⟨Int.emod_nonneg _ (by omega), Int.emod_lt_of_pos _ h⟩

/-- The power, asL it is reckoned: x times a to the n. -/
def powM (p a : Int) (n : Nat) : Int := a ^ n % p
theorem pow_even (a : Int) (n : Nat) : (a * a) ^ n = a ^ (2 * n) := by
  rw [Int.pow_mul]
  congr 1
  rw [show a ^ 2 = a * a by rw [show (2 : Nat) = 1 + 1 from rfl, Int.pow_succ, Int.pow_succ, Int.pow_zero, Int.one_mul]]
theorem pow_step0 (p x a : Int) (n : Nat) (h : n % 2 = 0) : x * (a * a % p) ^ (n / 2) % p = x * a ^ n % p := by
  rw [← fe_mod, pow_emod, fe_mod, pow_even, show 2 * (n / 2) = n by omega]
theorem pow_step1 (p x a : Int) (n : Nat) (h : n % 2 = 1) : x * a % p * (a * a % p) ^ (n / 2) % p = x * a ^ n % p := by
  rw [fm_mod, ← fe_mod, pow_emod, fe_mod, pow_even, Int.mul_assoc]
  congr 2
  rw [show n = 2 * (n / 2) + 1 by omega, Int.pow_succ, Int.mul_comm, show (2 * (n / 2) + 1) / 2 = n / 2 by omega]

/-- A list times x, added to another. -/
def addT (p x : Int) : List Int → List Int → List Int
  | t :: ts, a :: asL => (t + x * a % p) % p :: addT p x ts asL
  | ts, [] => ts
  | [], _ :: _ => []
theorem addT_nil (p x : Int) (ts : List Int) : addT p x ts [] = ts := by cases ts <;> rfl
theorem addT_len (p x : Int) : ∀ ts asL : List Int, (addT p x ts asL).length = ts.length
  | t :: ts, a :: asL => by simp [addT, addT_len p x ts asL]
  | [], [] => rfl
  | t :: ts, [] => rfl
  | [], _ :: _ => rfl
theorem addT_get (p x : Int) : ∀ (ts asL : List Int) (k : Nat), asL.length ≤ k → (addT p x ts asL)[k]?.getD default = ts[k]?.getD default
  | t :: ts, a :: asL, k, h => by
    cases k with
    | zero => simp at h
    | succ k => simpa [addT] using addT_get p x ts asL k (by simpa using h)
  | [], [], k, h => rfl
  | t :: ts, [], k, h => rfl
  | [], _ :: _, k, h => rfl
theorem addT_take (p x : Int) : ∀ (ts asL : List Int) (k : Nat), k < asL.length → k < ts.length → addT p x ts (asL.take (k + 1)) = (addT p x ts (asL.take k)).set k ((ts[k]?.getD default + x * (asL[k]?.getD default) % p) % p)
  | t :: ts, a :: asL, 0, _, _ => by simp [addT, addT_nil]
  | t :: ts, a :: asL, k + 1, h1, h2 => by
    have := addT_take p x ts asL k (by simpa using h1) (by simpa using h2)
    simp only [List.take_succ_cons, addT, this, List.set_cons_succ]
    simp
theorem addT_has {p x : Int} (hp : 0 < p) : ∀ {ts asL : List Int}, (∀ t ∈ ts, hasP p t) → ∀ t ∈ addT p x ts asL, hasP p t
  | t :: ts, a :: asL, h, u, hu => by
    simp only [addT, List.mem_cons] at hu
    rcases hu with rfl | hu
    · exact mod_bd _ hp
    · exact addT_has hp (fun v hv => h v (List.mem_cons_of_mem _ hv)) u hu
  | [], [], h, u, hu => h u hu
  | t :: ts, [], h, u, hu => h u hu
  | [], _ :: _, h, u, hu => (by cases hu)

/-! ### Tapes -/

end Go.Q

namespace Go.Q
open Classical

end Go.Q

namespace Go.Q
open Classical

end Go.Q

namespace Go.Q
variable {P : Program} {N : Nat} {g : G} {M : List Res}
variable {dst : Option Tmp} {ty : TypeId} {pos : String} {after : Array Edge} {gd : Option (Nat × Bool)}
theorem LocM.rowV {o : Oper} {Min : List Res} {T n : Nat} {α : Type} {φ : Value → Prop} {f' : α → List D} {ys : List α} (h : LocM P o g N Min φ (fun v => dVal v) (fun v => [rRow v T n f' ys])) :
    LocM P o g N Min φ (fun v => dSlV v) (fun v => [rRow v T n f' ys]) := by
  constructor
  intro F I a w K Q hs hi hK
  refine h.go F I a w K Q hs hi fun v u w' J h0 h1 h2 h3 => hK v u w' J h0 h1 ⟨h2, ?_⟩ h3
  rw [show u = v from h2]
  exact row_slice h3

variable {f : FuncId} {I0 : Imm} {R : Goal} {k : List Item}
end Go.Q

namespace Go.Q
variable {P : Program} {N : Nat} {g : G} {M : List Res}
variable {dst : Option Tmp} {ty : TypeId} {pos : String} {after : Array Edge} {gd : Option (Nat × Bool)}

theorem single_flat : ∀ ds : List D, (ds.map fun d => [d]).flatten = ds
  | [] => rfl
  | d :: ds => by rw [List.map_cons, List.flatten_cons, single_flat ds]; rfl

theorem inv_flat {I : Imm} {b T n : Nat} {els : List (List D)} {F : List Res} {w : World} (h : Inv I (rBuf b T n els :: F) w) : Inv I (rBuf b T 1 (els.flatten.map fun d => [d]) :: F) w := by
  refine ⟨h.os, h.tape, h.output, h.imm, fun r hr => ?_, h.apart⟩
  rcases List.mem_cons.1 hr with rfl | hr
  · obtain ⟨hb, o, h3, cs, h4, h5, h6⟩ := h.own _ (List.mem_cons_self ..)
    exact ⟨hb, o, h3, cs, h4, fun e he => by obtain ⟨d, _, rfl⟩ := List.mem_map.1 he; rfl, by rw [single_flat]; exact h6⟩
  · exact h.own r (List.mem_cons_of_mem _ hr)
theorem inv_unflat {I : Imm} {b T n : Nat} {els : List (List D)} {fl : List D} {F : List Res} {w : World} (hl : ∀ e ∈ els, e.length = n) (hf : els.flatten = fl) (h : Inv I (rBuf b T 1 (fl.map fun d => [d]) :: F) w) : Inv I (rBuf b T n els :: F) w := by
  subst hf
  refine ⟨h.os, h.tape, h.output, h.imm, fun r hr => ?_, h.apart⟩
  rcases List.mem_cons.1 hr with rfl | hr
  · obtain ⟨hb, o, h3, cs, h4, h5, h6⟩ := h.own _ (List.mem_cons_self ..)
    rw [single_flat] at h6
    exact ⟨hb, o, h3, cs, h4, hl, h6⟩
  · exact h.own r (List.mem_cons_of_mem _ hr)

theorem flatten_get {n : Nat} : ∀ {els : List (List D)} {q o : Nat} {ds : List D} {d : D}, (∀ e ∈ els, e.length = n) → els[q]? = some ds → ds[o]? = some d → els.flatten[q * n + o]? = some d
  | e :: els, 0, o, ds, d, hl, hq, ho => by
    simp at hq
    subst hq
    rw [Nat.zero_mul, Nat.zero_add, List.flatten_cons, List.getElem?_append_left (List.getElem?_eq_some_iff.1 ho).1]
    exact ho
  | e :: els, q + 1, o, ds, d, hl, hq, ho => by
    have he := hl e (List.mem_cons_self ..)
    rw [List.flatten_cons, List.getElem?_append_right (by rw [he, Nat.add_mul]; omega), he, show (q + 1) * n + o - n = q * n + o by rw [Nat.add_mul]; omega]
    exact flatten_get (fun x hx => hl x (List.mem_cons_of_mem _ hx)) (by simpa using hq) ho
theorem flatten_set {n : Nat} : ∀ {els : List (List D)} {q o : Nat} {ds : List D} {d : D}, (∀ e ∈ els, e.length = n) → els[q]? = some ds → o < n → (els.set q (ds.set o d)).flatten = els.flatten.set (q * n + o) d
  | e :: els, 0, o, ds, d, hl, hq, ho => by
    have he := hl e (List.mem_cons_self ..)
    simp at hq
    subst hq
    rw [Nat.zero_mul, Nat.zero_add, List.set_cons_zero, List.flatten_cons, List.flatten_cons, List.set_append_left _ _ (by omega)]
  | e :: els, q + 1, o, ds, d, hl, hq, ho => by
    have he := hl e (List.mem_cons_self ..)
    rw [List.set_cons_succ, List.flatten_cons, List.flatten_cons, List.set_append_right _ _ (by rw [he, Nat.add_mul]; omega), he, show (q + 1) * n + o - n = q * n + o by rw [Nat.add_mul]; omega]
    rw [flatten_set (fun x hx => hl x (List.mem_cons_of_mem _ hx)) (by simpa using hq) ho]

theorem buf_lens {I : Imm} {b T n : Nat} {els : List (List D)} {F : List Res} {w : World} (h : Inv I (rBuf b T n els :: F) w) : ∀ e ∈ els, e.length = n := by
  obtain ⟨hb, o, h3, cs, h4, h5, h6⟩ := h.own _ (List.mem_cons_self ..)
  exact h5

theorem loc_loadBufF {t T n b q o : Nat} [ht : TyV P t false 1] {x : Operand} {els : List (List D)} {ds : List D} {d : D} (hx : opd g x = some (dVal (ptr b (q * n + o)))) (hm : In (rBuf b T n els) M) (hq : els[q]? = some ds) (ho : ds[o]? = some d) :
    LocP P ⟨dst, .load t x, ty, pos, after, gd⟩ g N M d :=
  locP_of_run fun I a w hs hinv => by
    have hp : a.eval x = .pointer (some ⟨b, q * n + o, none⟩) := opd_sound hs hx
    obtain ⟨cs, hb, h5, h6⟩ := own_buf hinv hm.mem
    obtain ⟨v, hv, hd⟩ := relL_get h6 _ d (flatten_get h5 hq ho)
    refine ⟨v, ?_, hd⟩
    have hc : w.cell? ⟨b, q * n + o, none⟩ = some v := by simp [World.cell?, hb]; simpa using hv
    have hl : (load (⟨b, q * n + o, none⟩ : Addr)).run P w = .ok v w := by rw [run_load, hc]
    simp [execOp, hp, Instr.loadAt, Instr.sureAddr, loadVar, run_isAgg ht, -run_load, hl]

theorem loc_storeBufF {t T n b q o : Nat} [ht : TyV P t false 1] {x y : Operand} {els : List (List D)} {ds : List D} {d : D} [hone : One d] (hx : opd g x = some (dVal (ptr b (q * n + o)))) (hy : opd g y = some d) (hq : els[q]? = some ds) (ho : o < n) :
    LocM P ⟨none, .store t x y, ty, pos, after, gd⟩ g N [rBuf b T n els] (fun _ : Unit => True) (fun _ => dTop) (fun _ => [rBuf b T n (els.set q (ds.set o d))]) := by
  constructor
  intro F I a w K Q hs hi hK
  have hl := buf_lens hi
  have hds : ds.length = n := hl ds (List.mem_of_getElem? hq)
  have hlen : q * n + o < (els.flatten.map fun d => [d]).length := by
    have h1 : ds[o]? = some ds[o] := List.getElem?_eq_getElem (by omega)
    have := (List.getElem?_eq_some_iff.1 (flatten_get hl hq h1)).1
    rw [List.length_map]
    exact this
  refine (loc_storeBuf1 (q := q * n + o) (T := T) (els := els.flatten.map fun d => [d]) (by rw [Nat.mul_one]; exact hx) hy hlen).go F I a w K Q hs (inv_flat hi) fun u v w' J h0 h1 h2 h3 => hK u v w' J h0 h1 h2 ?_
  refine inv_unflat ?_ (flatten_set hl hq ho) (n := n) (fl := els.flatten.set (q * n + o) d) ?_
  · intro e he
    rcases List.mem_or_eq_of_mem_set he with he | rfl
    · exact hl e he
    · rw [List.length_set]; exact hds
  · rw [List.map_set]; exact h3
end Go.Q
