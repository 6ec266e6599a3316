/- Function values that turn what the call owns: what is proved here holds of every program. -/
import Derived.Test.YtmapjpdgjefnoaaQOps6
set_option linter.unusedVariables false
set_option linter.unusedSimpArgs false
namespace Go.Q
open Classical

variable {P : Program} {f : FuncId} {N : Nat} {I0 : Imm} {g : G} {M : List Res} {k : List Item} {R : Ending → World → Prop}
variable {dst : Option Tmp} {ty : TypeId} {pos : String} {after : Array Edge} {gd : Option (Nat × Bool)}

/-- A function value: called with 'i' in the state s it answers q i and leaves a state that follows. -/
def dFunS (P : Program) {ι σ : Type} (Ds : ι → List D) (Rs : σ → List Res) (A : ι → σ → Prop) (Step : σ → ι → σ → Prop) (q : ι → Prop) : D :=
  ⟨fun I v => ∃ fn cap, v = .func (.func fn) #[] cap ∧ TyFn P fn ∧ ∀ i s (J : Imm) (M : List Res) (w : World) (vs : List Value), A i s → I.le J → relL (Ds i) J vs → Inv J (Rs s ++ M) w →
      Calls P fn (vs.toArray ++ cap) w fun e w' => ∃ v, e = .returned v ∧ ∃ J', J.le J' ∧ (dB (q i)).rel J' v ∧ ∃ s', Step s i s' ∧ Inv J' (Rs s' ++ M) w',
   fun h ⟨fn, cap, e, h1, h2⟩ => ⟨fn, cap, e, h1, fun i s J' M w vs ha hle => h2 i s J' M w vs ha (h.trans hle)⟩⟩

theorem clo_funS {fn : FuncId} {ι σ : Type} {Cs : List D} {Ds : ι → List D} {Rs : σ → List Res} {A : ι → σ → Prop} {Step : σ → ι → σ → Prop} {q : ι → Prop} [hf : TyFn P fn]
    (h : ∀ i s, A i s → Spec P fn (Ds i ++ Cs) (Rs s) (Step s i) (fun _ => dB (q i)) Rs) : ∀ I v, (dClo fn Cs).rel I v → (dFunS P Ds Rs A Step q).rel I v := by
  rintro I v ⟨cap, rfl, hr⟩
  refine ⟨fn, cap, rfl, hf, fun i s J M w vs ha hle hv hi => ?_⟩
  have := h i s ha J M w (vs ++ cap.toList) (relL_append hv (relL_mono hle hr)) hi
  rw [toArray_app] at this
  refine this.mono ?_
  rintro e w' ⟨v, rfl, s', h1, J', h2, h3, h4⟩
  exact ⟨v, rfl, J', h2, h3, s', h1, h4⟩

/-- A pure one. -/
theorem fun_funS {ι : Type} {Ds : ι → List D} {q : ι → Prop} : ∀ I v, (dFun P Ds (fun i => dB (q i))).rel I v → (dFunS P Ds (fun _ : Unit => []) (fun _ _ => True) (fun _ _ _ => True) q).rel I v := by
  rintro I v ⟨fn, cap, rfl, hf, h⟩
  refine ⟨fn, cap, rfl, hf, fun i s J M w vs _ hle hv hi => ?_⟩
  refine (h i J M w vs hle hv hi).mono ?_
  rintro e w' ⟨v, rfl, J', h1, h2, h3⟩
  exact ⟨v, rfl, J', h1, h2, (), trivial, h3⟩

theorem loc_callFunS {c : Operand} {xs : List Operand} {ats : Array TypeId} {ι σ : Type} {Ds : ι → List D} {Rs : σ → List Res} {A : ι → σ → Prop} {Step : σ → ι → σ → Prop} {q : ι → Prop} (i : ι) (s : σ) (ha : A i s) (hc : opd g c = some (dFunS P Ds Rs A Step q)) (hx : opds g xs = some (Ds i)) :
    LocM P ⟨dst, .call ⟨.value c, xs.toArray, ats⟩, ty, pos, after, gd⟩ g N (Rs s) (Step s i) (fun _ => dB (q i)) Rs := by
  constructor
  intro F I a w K Q hsl hi hK
  obtain ⟨fn, cap, hv, hf, h⟩ := opd_sound hsl hc
  unfold Oper.wp
  rw [execOp_call_slot hv, run_callFunc hf]
  refine Calls.mono (h i s I F w _ ha I.le_refl (opds_sound hsl hx) hi) ?_
  rintro e w' ⟨v, rfl, J, h1, h2, s', h3, h4⟩
  exact hK s' v w' J h3 h1 h2 h4

/-- An operation that turns what lies behind the first. -/
theorem run_opU {ops : Array Oper} {rest : List Oper} {dst : Tmp} {op : Op} {r0 : Res} {Min F : List Res} {σ : Type} {φ : σ → Prop} {d : σ → D} {Mout : σ → List Res}
    (hN : Nat.blt dst N = true) (hd : LocM P ⟨some dst, op, ty, pos, after, none⟩ g N Min φ d Mout) (h : ∀ s, φ s → RunL P f N I0 R ((dst, d s) :: g) (r0 :: (Mout s ++ F)) ops rest k) :
    RunL P f N I0 R g (r0 :: (Min ++ F)) ops (⟨some dst, op, ty, pos, after, none⟩ :: rest) k := by
  constructor
  intro I a w b cs hb hk hl hs hi
  have hp : (r0 :: (Min ++ F)).Perm (Min ++ (r0 :: F)) := List.perm_middle.symm
  refine wpList_plain rfl fun K hK => ?_
  refine hd.go (r0 :: F) I a w K _ hs (hi.perm hp) fun s v w' J hφ hle hv hi' => hK _ _ ?_
  exact (h s hφ).go J _ w' b cs hb hk (hl.trans hle) ((hs.mono hle).put hv (by simpa [Nat.blt_eq] using hN)) (hi'.perm List.perm_middle)

/-- One state after the other. -/
def stepsL {ι σ : Type} (Step : σ → ι → σ → Prop) : σ → List ι → σ → Prop
  | s, [], s' => s' = s
  | s, x :: xs, s' => ∃ s1, Step s x s1 ∧ stepsL Step s1 xs s'

theorem stepsL_snoc {ι σ : Type} {Step : σ → ι → σ → Prop} : ∀ {xs : List ι} {s s1 s2 : σ} {x : ι}, stepsL Step s xs s1 → Step s1 x s2 → stepsL Step s (xs ++ [x]) s2
  | [], s, s1, s2, x, h1, h2 => ⟨s2, by rw [show s1 = s from h1] at h2; exact h2, rfl⟩
  | y :: ys, s, s1, s2, x, ⟨s3, h3, h4⟩, h2 => ⟨s3, h3, stepsL_snoc h4 h2⟩

theorem stepsL_app {ι σ : Type} {Step : σ → ι → σ → Prop} : ∀ {xs ys : List ι} {s s1 s2 : σ}, stepsL Step s xs s1 → stepsL Step s1 ys s2 → stepsL Step s (xs ++ ys) s2
  | [], ys, s, s1, s2, h1, h2 => by rw [show s1 = s from h1] at h2; exact h2
  | y :: xs, ys, s, s1, s2, ⟨s3, h3, h4⟩, h2 => ⟨s3, h3, stepsL_app h4 h2⟩

noncomputable def flt {α : Type} (q : α → Prop) : List α → List α
  | [] => []
  | x :: xs => if q x then x :: flt q xs else flt q xs

theorem flt_app {α : Type} (q : α → Prop) : ∀ xs ys : List α, flt q (xs ++ ys) = flt q xs ++ flt q ys
  | [], ys => rfl
  | x :: xs, ys => by simp only [List.cons_append, flt, flt_app q xs ys]; split <;> simp
theorem flt_len {α : Type} (q : α → Prop) : ∀ xs : List α, (flt q xs).length ≤ xs.length
  | [] => Nat.le_refl _
  | x :: xs => by have := flt_len q xs; simp only [flt]; split <;> simp <;> omega
theorem flt_none {α : Type} {q : α → Prop} : ∀ {xs : List α}, (∀ x ∈ xs, ¬ q x) → flt q xs = []
  | [], _ => rfl
  | x :: xs, h => by rw [flt, if_neg (h x (List.mem_cons_self ..)), flt_none (fun y hy => h y (List.mem_cons_of_mem _ hy))]
theorem flt_all {α : Type} {q : α → Prop} : ∀ {xs : List α}, (∀ x ∈ xs, q x) → flt q xs = xs
  | [], _ => rfl
  | x :: xs, h => by rw [flt, if_pos (h x (List.mem_cons_self ..)), flt_all (fun y hy => h y (List.mem_cons_of_mem _ hy))]
theorem mem_flt {α : Type} {q : α → Prop} : ∀ {xs : List α} {x : α}, x ∈ flt q xs ↔ x ∈ xs ∧ q x
  | [], x => by simp [flt]
  | y :: ys, x => by
    simp only [flt]
    split
    · rename_i h
      rw [List.mem_cons, mem_flt, List.mem_cons]
      constructor
      · rintro (rfl | ⟨h1, h2⟩)
        · exact ⟨.inl rfl, h⟩
        · exact ⟨.inr h1, h2⟩
      · rintro ⟨rfl | h1, h2⟩
        · exact .inl rfl
        · exact .inr ⟨h1, h2⟩
    · rename_i h
      rw [mem_flt, List.mem_cons]
      constructor
      · rintro ⟨h1, h2⟩
        exact ⟨.inr h1, h2⟩
      · rintro ⟨rfl | h1, h2⟩
        · exact absurd h2 h
        · exact ⟨h1, h2⟩
theorem flt_take {α : Type} [Inhabited α] (q : α → Prop) {xs : List α} {k : Nat} (h : k < xs.length) : flt q (xs.take (k + 1)) = flt q (xs.take k) ++ if q (xs[k]?.getD default) then [xs[k]?.getD default] else [] := by
  rw [List.take_add_one, List.getElem?_eq_getElem h, flt_app]
  simp [flt]

theorem run_opC {ops : Array Oper} {rest : List Oper} {dst : Tmp} {op : Op} {r0 : Res} {Min F : List Res} {σ : Type} {r1 : σ → Res} {φ : σ → Prop} {d : σ → D} {Mout : σ → List Res}
    (hN : Nat.blt dst N = true) (hd : LocM P ⟨some dst, op, ty, pos, after, none⟩ g N (r0 :: Min) φ d (fun s => r1 s :: Mout s)) (h : ∀ s, φ s → RunL P f N I0 R ((dst, d s) :: g) (r1 s :: (Mout s ++ F)) ops rest k) :
    RunL P f N I0 R g (r0 :: (Min ++ F)) ops (⟨some dst, op, ty, pos, after, none⟩ :: rest) k :=
  run_opM (Min := r0 :: Min) (Mout := fun s => r1 s :: Mout s) hd hN h

theorem buf_get {α : Type} [Inhabited α] {f' : α → List D} {xs : List α} {J : List (List D)} {q i : Nat} (hi : i < xs.length) (hq : q = i) : (xs.map f' ++ J)[q]? = some (f' (xs[i]?.getD default)) := by
  subst hq
  rw [List.getElem?_append_left (by simpa using hi), List.getElem?_map, List.getElem?_eq_getElem hi]
  rfl

/-- What DeleteFunc has made of its elements, in the middle. -/
theorem delf_get {α : Type} [Inhabited α] {f' : α → List D} {A B xs : List α} {J : List (List D)} {q j : Nat} (hj : j < xs.length) (hq : q = j) (hl : A.length + B.length = j) : ((A ++ B ++ xs.drop j).map f' ++ J)[q]? = some (f' (xs[j]?.getD default)) := by
  rw [buf_get (i := j) (by simp; omega) hq, List.getElem?_append_right (by simp; omega), List.getElem?_drop]
  simp [hl]

theorem drop_cons' {α : Type} [Inhabited α] {xs : List α} {j : Nat} (hj : j < xs.length) : xs.drop j = xs[j]?.getD default :: xs.drop (j + 1) := by
  rw [List.drop_eq_getElem_cons hj, List.getElem?_eq_getElem hj]
  rfl

theorem delf_store {α : Type} [Inhabited α] {f' : α → List D} {A B xs : List α} {J : List (List D)} {q j : Nat} (hj : j < xs.length) (hq : q = A.length) (hB : 0 < B.length) :
    ((A ++ B ++ xs.drop j).map f' ++ J).set q (f' (xs[j]?.getD default)) = ((A ++ [xs[j]?.getD default]) ++ (B.drop 1 ++ [xs[j]?.getD default]) ++ xs.drop (j + 1)).map f' ++ J := by
  subst hq
  match B, hB with
  | b :: B, _ =>
    rw [drop_cons' hj]
    simp [List.set_append]

theorem delf_skip {α : Type} [Inhabited α] {f' : α → List D} {A B xs : List α} {J : List (List D)} {j : Nat} (hj : j < xs.length) :
    (A ++ B ++ xs.drop j).map f' ++ J = (A ++ (B ++ [xs[j]?.getD default]) ++ xs.drop (j + 1)).map f' ++ J := by
  rw [drop_cons' hj]
  simp

theorem delf_start {α : Type} [Inhabited α] {f' : α → List D} {xs : List α} {q : α → Prop} {J : List (List D)} {i : Nat} (hi : i < xs.length) (hb : ∀ j, j < i → q (xs[j]?.getD default)) (h : ¬ q (xs[i]?.getD default)) :
    xs.map f' ++ J = (flt q (xs.take (i + 1)) ++ [xs[i]?.getD default] ++ xs.drop (i + 1)).map f' ++ J := by
  rw [flt_take q hi, if_neg h, flt_all (forall_getD (fun j hj => by
    simp at hj
    have := hb j (by omega)
    rwa [List.getElem?_take, if_pos (by omega)]))]
  congr 2
  rw [List.append_nil, ← take_snoc hi, List.take_append_drop]

theorem delf_end {α : Type} {f' : α → List D} {A B xs : List α} {J : List (List D)} {n q m j : Nat} (hj : xs.length ≤ j) (hq : q = A.length) (hm : m = B.length) : put ((A ++ B ++ xs.drop j).map f' ++ J) q (junk n m) = A.map f' ++ (junk n m ++ J) := by
  rw [hq, hm, List.drop_eq_nil_of_le hj, List.append_nil, List.map_append, List.append_assoc]
  unfold put
  rw [List.take_left' (by simp), junk_length, List.append_assoc]
  congr 2
  rw [← List.append_assoc, List.drop_append, List.drop_eq_nil_of_le (by simp), List.nil_append]
  simp

theorem idxP_ge {α : Type} (q : α → Prop) : ∀ xs : List α, -1 ≤ idxP q xs
  | [] => by simp [idxP]
  | x :: xs => by have := idxP_ge q xs; simp only [idxP]; split <;> (try split) <;> omega

theorem idxP_neg {α : Type} {q : α → Prop} {xs : List α} (h : idxP q xs < 0) : ∀ x ∈ xs, ¬ q x := fun x hx hq => by
  have := idxP_nonneg.2 ⟨x, hx, hq⟩
  omega

theorem idxP_get {α : Type} [Inhabited α] {q : α → Prop} : ∀ {xs : List α} (i : Nat), idxP q xs = i → i < xs.length ∧ (∀ j, j < i → ¬ q (xs[j]?.getD default)) ∧ q (xs[i]?.getD default)
  | [], i, h => by simp [idxP] at h
  | x :: xs, i, h => by
    by_cases hx : q x
    · simp only [idxP, if_pos hx] at h
      have : i = 0 := by omega
      subst this
      exact ⟨by simp, fun j hj => by omega, by simpa using hx⟩
    · by_cases hn : idxP q xs < 0
      · simp only [idxP, if_neg hx, if_pos hn] at h; omega
      · simp only [idxP, if_neg hx, if_neg hn] at h
        match i, h with
        | 0, h => omega
        | i + 1, h =>
          obtain ⟨h1, h2, h3⟩ := idxP_get (q := q) (xs := xs) i (by omega)
          refine ⟨by simpa using h1, fun j hj => ?_, by simpa using h3⟩
          cases j with
          | zero => simpa using hx
          | succ j => simpa using h2 j (by omega)

/-- A row of which the handle is written out is opened. -/
theorem run_openSl {α : Type} {b len cap : Nat} {T n : Nat} {f' : α → List D} {xs : List α} {C : Res → List Res} {F : List Res} (hm : Sel (rRow (.slice (some ⟨b, 0, none⟩) len cap) T n f' xs) M C F)
    (h : len = xs.length → xs.length ≤ cap → cap ≤ maxLen → xs.length ≤ lenMax → Run P f N I0 R g (C (rBuf b T n (xs.map f' ++ junk n (cap - xs.length)))) k) : Run P f N I0 R g M k := by
  constructor
  intro I a w b' cs hb hk hl hs hi
  obtain ⟨h3, h4, h5, h6, h7, h8⟩ := row_open (hi.perm hm.perm.1)
  exact (h h3 h4 h5 h6).go I a w b' cs hb hk hl hs (h8.perm (hm.perm.2 _))

/-- A list some times over. -/
def reps {α : Type} : Nat → List α → List α
  | 0, _ => []
  | c + 1, xs => xs ++ reps c xs

theorem reps_len {α : Type} (xs : List α) : ∀ c, (reps c xs).length = c * xs.length
  | 0 => by simp [reps]
  | c + 1 => by rw [reps, List.length_append, reps_len xs c, Nat.add_mul]; omega

theorem reps_one {α : Type} (x : α) : ∀ c, reps c [x] = List.replicate c x
  | 0 => rfl
  | c + 1 => by rw [reps, reps_one x c]; rfl

theorem reps_snoc {α : Type} (xs : List α) : ∀ c, reps (c + 1) xs = reps c xs ++ xs
  | 0 => by simp [reps]
  | c + 1 => by
    show xs ++ reps (c + 1) xs = (xs ++ reps c xs) ++ xs
    rw [reps_snoc xs c, List.append_assoc]

theorem reps_add {α : Type} (xs : List α) : ∀ a b, reps (a + b) xs = reps a xs ++ reps b xs
  | 0, b => by simp [reps]
  | a + 1, b => by rw [show a + 1 + b = (a + b) + 1 by omega, reps, reps_add xs a b, reps, List.append_assoc]

/-- Where a doubling has come to: 'n' elements, m times the list, or all of it. -/
theorem reps_step {α : Type} {xs ys : List α} {c n a m : Nat} (hl : ys.length = c * xs.length) (ht : ys.take n = (reps c xs).take n) (hn : n = a * xs.length) (hac : a ≤ c) (hm : m = min n (c * xs.length - n)) :
    (ys.take n ++ ys.take m ++ ys.drop (n + m)).take (n + m) = (reps c xs).take (n + m) := by
  have hnl : n ≤ c * xs.length := by rw [hn]; exact Nat.mul_le_mul_right _ hac
  have h1 : (ys.take n ++ ys.take m).length = n + m := by simp; omega
  rw [← h1, List.take_left, h1]
  have h2 : (reps c xs).take n = reps a xs := by
    rw [show c = a + (c - a) by omega, reps_add, hn, ← reps_len xs a, List.take_left]
  have h3 : (reps c xs).drop n = reps (c - a) xs := by
    rw [show c = a + (c - a) by omega, reps_add, hn, ← reps_len xs a, List.drop_left]
    congr 1
    omega
  rw [List.take_add, h3, ht]
  congr 1
  have h4 : ys.take m = (ys.take n).take m := by rw [List.take_take]; congr 1; omega
  rw [h4, ht, List.take_take, show min m n = m by omega]
  -- the first m of c times and of (c - a) times are alike
  have h5 : m ≤ (c - a) * xs.length := by
    rw [Nat.sub_mul, ← hn]
    omega
  rw [show c = (c - a) + a by omega, reps_add, List.take_append_of_le_length (by rw [reps_len]; exact h5), show c - a + a - a = c - a by omega]

structure RepI {α : Type} (c : Nat) (xs : List α) (T : Nat) (s : Nat × List α) : Prop where
  len : s.2.length = T
  le : s.1 ≤ T
  eq : s.2.take s.1 = (reps c xs).take s.1
  mul : s.1 < T → 0 < s.1 ∧ ∃ a, s.1 = a * xs.length ∧ a ≤ c

theorem repI_start {α : Type} {c T : Nat} {xs : List α} {x0 : α} (hT : T = c * xs.length) : RepI c xs T (min xs.length T, xs.take (min xs.length T) ++ List.replicate (T - min xs.length T) x0) := by
  subst hT
  match c with
  | 0 => exact ⟨by simp, by simp, by simp, fun h => by simp at h⟩
  | c + 1 =>
    have h1 : xs.length ≤ (c + 1) * xs.length := by rw [Nat.add_mul]; omega
    rw [Nat.min_eq_left h1]
    refine ⟨by simp; omega, h1, ?_, fun h => ⟨?_, 1, by simp, by omega⟩⟩
    · simp only [List.take_length]
      rw [List.take_left, reps, List.take_left]
    · simp only at h ⊢
      rcases Nat.eq_zero_or_pos xs.length with h0 | h0
      · rw [h0] at h; omega
      · exact h0

theorem repI_next {α : Type} {c T : Nat} {xs : List α} {s : Nat × List α} (hT : T = c * xs.length) (h : RepI c xs T s) (hlt : s.1 < T) :
    RepI c xs T (s.1 + min s.1 (T - s.1), s.2.take s.1 ++ s.2.take (min s.1 (T - s.1)) ++ s.2.drop (s.1 + min s.1 (T - s.1))) := by
  obtain ⟨h1, h2, h3, h4⟩ := h
  obtain ⟨h5, a, h6, h7⟩ := h4 hlt
  subst hT
  refine ⟨by simp; omega, by simp only; omega, reps_step h1 h3 h6 h7 rfl, fun hl => ⟨by simp only; omega, 2 * a, ?_, ?_⟩⟩
  · simp only at hl ⊢
    rw [Nat.mul_assoc, ← h6]; omega
  · simp only at hl
    rcases Nat.lt_or_ge c (2 * a) with hc | hc
    · have := Nat.mul_le_mul_right xs.length (Nat.le_of_lt hc)
      rw [Nat.mul_assoc, ← h6] at this
      omega
    · exact hc

theorem repI_end {α : Type} {c T : Nat} {xs : List α} {s : Nat × List α} (hT : T = c * xs.length) (h : RepI c xs T s) (hge : T ≤ s.1) : s.2 = reps c xs := by
  obtain ⟨h1, h2, h3, h4⟩ := h
  rwa [List.take_of_length_le (by omega), List.take_of_length_le (by rw [reps_len]; omega)] at h3

/-! ### Handles of rows, told by name -/

theorem LocP.up {o : Oper} {d d' : D} (h : LocP P o g N M d) (hd : ∀ I v, d.rel I v → d'.rel I v) : LocP P o g N M d' :=
  ⟨fun I a w K Q hs hi hK => h.go I a w K Q hs hi fun v w' J h1 h2 h3 => hK v w' J h1 (hd _ _ h2) h3⟩
theorem LocP.upV {o : Oper} {v : Value} (h : LocP P o g N M (dSlV v)) : LocP P o g N M (dVal v) := h.up fun _ _ h => h.1

theorem specV {Ds : List D} {Min : List Res} {T n : Nat} {α σ : Type} {φ : σ → Prop} {f' : α → List D} {v : σ → Value} {xs : σ → List α} {Rs : σ → List Res}
    (h : Spec P f Ds Min φ (fun s => dVal (v s)) (fun s => rRow (v s) T n f' (xs s) :: Rs s)) : Spec P f Ds Min φ (fun s => dSlV (v s)) (fun s => rRow (v s) T n f' (xs s) :: Rs s) := by
  intro I F w vs hv hi
  refine (h I F w vs hv hi).mono ?_
  rintro e w' ⟨u, rfl, s, h0, J, h1, h2, h3⟩
  refine ⟨u, rfl, s, h0, J, h1, ⟨h2, ?_⟩, h3⟩
  rw [show u = v s from h2]
  exact row_slice h3

theorem run_freezeRowCellV {b kk : Nat} {T' : TypeId} {ds : List D} {C C' : Res → List Res} {F F' : List Res} {α : Type} {T n : Nat} {f' : α → List D} {xs : List α} {v : Value} (hm : Sel (rRow v T n f' xs) M C F) (hc : Sel (rCells b T' ds) F C' F') (hk : ds[kk]? = some (dSlV v))
    (h : Run P f N I0 R g (C' (rCells b T' (ds.set kk (dSl n f' xs)))) k) : Run P f N I0 R g M k :=
  run_freezeUp (dSlV v) (dSl n f' xs) hm hc hk (fun J u h1 h2 => by rw [show u = v from h1.1]; exact h2) h

/-! ### Rows that become immutable at once -/

/-- A turn that gives a row becomes one that gives a row that no longer changes. -/
theorem LocM.frz {o : Oper} {Min : List Res} {T n : Nat} {α : Type} {f' : α → List D} {xs : List α} (h : LocM P o g N Min (fun _ : Value => True) (fun v => dVal v) (fun v => [rRow v T n f' xs])) {r : Res} (hr : Min = [r]) :
    LocM P o g N [r] (fun _ : Unit => True) (fun _ => dSl n f' xs) (fun _ => [rNone]) := by
  subst hr
  constructor
  intro F I a w K Q hs hi hK
  refine h.go F I a w K Q hs hi fun v u w' J _ h1 h2 h3 => ?_
  obtain ⟨J', h4, h5, h6⟩ := row_freeze h3
  refine hK () u w' J' trivial (h1.trans h4) ?_ (none_ok h6)
  rw [show u = v from h2]
  exact h5
theorem LocM.frz0 {o : Oper} {T n : Nat} {α : Type} {f' : α → List D} {xs : List α} (h : LocM P o g N [] (fun _ : Value => True) (fun v => dVal v) (fun v => [rRow v T n f' xs])) : LocP P o g N M (dSl n f' xs) := by
  constructor
  intro I a w K Q hs hi hK
  refine h.go M I a w K Q hs hi fun v u w' J _ h1 h2 h3 => ?_
  obtain ⟨J', h4, h5, h6⟩ := row_freeze h3
  refine hK u w' J' (h1.trans h4) ?_ h6
  rw [show u = v from h2]
  exact h5

end Go.Q
