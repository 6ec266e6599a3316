/- Regions that draw the order of their operations: one pass in the order of the text serves every order. What is proved here holds of every program. -/
import Derived.Test.YtmofkofgpeibiaaGreatQRows
set_option linter.unusedVariables false
set_option linter.unusedSimpArgs false
namespace Go.Q
structure Info where
 need : List (Nat × Option (Nat × Bool))
 anc : List Nat
 use : Option (Nat × Nat × Bool)
def nElem : List Nat → Nat → Bool
 | [], _ => false
 | x :: l, a => bif Nat.beq x a then true else nElem l a
theorem nElem_mem {l : List Nat} {a : Nat} (h : nElem l a = true) : a ∈ l := by
 induction l with
 | nil => simp [nElem] at h
 | cons x l ih =>
  simp only [nElem] at h
  cases hb : Nat.beq x a with
  | true => exact List.mem_cons.2 (.inl (Nat.eq_of_beq_eq_true hb).symm)
  | false => rw [hb] at h; exact List.mem_cons_of_mem _ (ih h)
def lk {β : Type} : List (Nat × β) → Nat → Option β
 | [], _ => none
 | (i, d) :: l, k => bif Nat.beq i k then some d else lk l k
theorem lk_cons {β : Type} (l : List (Nat × β)) (i k : Nat) (d : β) : lk ((i, d) :: l) k = if i = k then some d else lk l k := by
 simp only [lk]
 by_cases h : i = k
 ·subst h; simp
 ·have : Nat.beq i k = false := by cases hb : Nat.beq i k with | false => rfl | true => exact absurd (Nat.eq_of_beq_eq_true hb) h
  simp [h, this]
def dstOf (l : List Oper) (i : Nat) : Option Nat := (l[i]?).bind (·.dst)
def infoOf (us : List Info) (i : Nat) : Info := us[i]?.getD ⟨[], [], none⟩
def predB (l : List Oper) (i a : Nat) : Bool := ((l[i]?).map fun o => o.after.toList.any fun e => Region.binds .any e && Nat.beq e.on a).getD false
def allLt (n : Nat) (p : Nat → Bool) : Bool := (List.range n).all p
theorem allLt_spec {n : Nat} {p : Nat → Bool} (h : allLt n p = true) : ∀ i, i < n → p i = true := fun i hi => List.all_eq_true.1 h i (List.mem_range.2 hi)
def chkAnc (l : List Oper) (us : List Info) (i : Nat) : Bool :=
 (infoOf us i).anc.all fun a => Nat.blt a i && (predB l i a || (infoOf us i).anc.any fun b => Nat.blt a b && predB l b a)
def chkDst (l : List Oper) (i j : Nat) : Bool :=
 Nat.beq i j || match dstOf l i, dstOf l j with | some a, some b => !Nat.beq a b | _, _ => true
def chkNeed (l : List Oper) (us : List Info) (i : Nat) : Bool :=
 (infoOf us i).need.all fun p => match p.2 with
  | some (j, u) => nElem (infoOf us i).anc j && (match dstOf l j with | some t => Nat.beq t p.1 | none => false) &&
    (!u || match (l[i]?).bind (·.guard), (l[j]?).bind (·.guard) with | some (a, b), some (c, d) => Nat.beq a c && (b == d) | _, _ => false)
  | none => allLt l.length fun j => match dstOf l j with | some t => !Nat.beq t p.1 || nElem (infoOf us j).anc i || Nat.beq i j | none => true
def writes (us : List Info) (r j : Nat) : Option Nat := match (infoOf us j).use with | some (r', p, true) => bif Nat.beq r' r then some p else none | _ => none
def chkUse (n : Nat) (us : List Info) (i : Nat) : Bool :=
 match (infoOf us i).use with
 | none => true
 | some (r, p, _) => (allLt n fun j => match writes us r j with
   | some q => bif Nat.blt q p then nElem (infoOf us i).anc j else Nat.beq j i || nElem (infoOf us j).anc i
   | none => true) && Nat.beq ((List.range n).countP fun j => match writes us r j with | some q => Nat.blt q p | none => false) p
def chkGuard (l : List Oper) (us : List Info) (i : Nat) : Bool :=
 match (l[i]?).bind (·.guard) with
 | none => true
 | some (j, _) => nElem (infoOf us i).anc j && (dstOf l j).isSome
def chkN (l : List Oper) (N : Nat) (i : Nat) : Bool := match dstOf l i with | some t => Nat.blt t N | none => true
def chk (l : List Oper) (us : List Info) (N : Nat) : Bool :=
 allLt l.length fun i => chkAnc l us i && chkNeed l us i && chkUse l.length us i && chkGuard l us i && chkN l N i && allLt l.length fun j => chkDst l i j
section
variable {P : Program} {N : Nat} {g : G} {σ : Type}
def ctx (g : G) (F U : Nat → σ → D) (need : List (Nat × Option (Nat × Bool))) (s : σ) : G :=
 need.map fun p => (p.1, match p.2 with | some (j, true) => U j s | some (j, false) => F j s | none => (look g p.1).getD dTop)
structure Mid (l : List Oper) (g : G) (N : Nat) (F : Nat → σ → D) (L : Nat → Bool) (s : σ) (I : Imm) (a : Act) : Prop where
 size : a.tmps.size = N
 defers : a.defers = []
 done : ∀ i d, i < l.length → L i = true → dstOf l i = some d → (F i s).rel I (a.tmps.getD d undef)
 left : ∀ t d, look g t = some d → (∀ i, i < l.length → L i = true → dstOf l i ≠ some t) → d.rel I (a.tmps.getD t undef)
structure Ch (σ : Type) where
 X : List Nat
 Φ : Nat → σ → Prop
 E : Nat → σ → σ → Prop
 keep : ∀ x y s s', x ∈ X → y ∈ X → x ≠ y → E x s s' → Φ y s → Φ y s'
 own : σ → List Res
def Ch.good (C : Ch σ) (anc : List Nat) (s : σ) : Prop := ∀ x ∈ C.X, nElem anc x = true → C.Φ x s
inductive Ob (P : Program) (g : G) (N : Nat) (C : Ch σ) (us : List Info) (F U : Nat → σ → D) (V : Nat → Nat → σ → Res) (i : Nat) (o : Oper) : Prop where
 | pure (hg : o.guard = none) (hu : (infoOf us i).use = none) (hix : i ∉ C.X) (hc : ∀ x ∈ C.X, nElem (infoOf us i).anc x = true ∨ ∀ s s', C.E x s s' → F i s = F i s')
   (h : ∀ s, C.good (infoOf us i).anc s → ∀ M, LocP P o (ctx g F U (infoOf us i).need s) N M (F i s))
 | read (r p : Nat) (hg : o.guard = none) (hu : (infoOf us i).use = some (r, p, false)) (hix : i ∉ C.X) (hc : ∀ x ∈ C.X, nElem (infoOf us i).anc x = true ∨ ∀ s s', C.E x s s' → F i s = F i s')
   (h : ∀ s, C.good (infoOf us i).anc s → ∀ M, In (V r p s) M → LocP P o (ctx g F U (infoOf us i).need s) N M (F i s))
 | write (r p : Nat) (hg : o.guard = none) (hu : (infoOf us i).use = some (r, p, true)) (hix : i ∉ C.X) (hc : ∀ x ∈ C.X, nElem (infoOf us i).anc x = true ∨ ∀ s s', C.E x s s' → F i s = F i s' ∧ V r (p + 1) s = V r (p + 1) s')
   (h : ∀ s, C.good (infoOf us i).anc s → LocM P o (ctx g F U (infoOf us i).need s) N [V r p s] (fun _ : Unit => True) (fun _ => F i s) (fun _ => [V r (p + 1) s]))
 | choose (r p : Nat) (hg : o.guard = none) (hu : (infoOf us i).use = some (r, p, true)) (hix : i ∈ C.X) (hc : ∀ x ∈ C.X, x ≠ i → nElem (infoOf us i).anc x = true ∨ ∀ s s', C.E x s s' → F i s = F i s' ∧ V r (p + 1) s = V r (p + 1) s')
   (h : ∀ s, C.good (infoOf us i).anc s → LocM P o (ctx g F U (infoOf us i).need s) N (V r p s :: C.own s) (fun s' => C.Φ i s' ∧ C.E i s s') (fun s' => F i s') (fun s' => V r (p + 1) s' :: C.own s'))
 | gpure (j : Nat) (want : Bool) (c : σ → Prop) (hg : o.guard = some (j, want)) (hu : (infoOf us i).use = none) (hix : i ∉ C.X) (hc : ∀ x ∈ C.X, nElem (infoOf us i).anc x = true ∨ ∀ s s', C.E x s s' → F i s = F i s')
   (hF : ∀ s, F i s = dIf (c s) (U i s)) (hgd : ∀ s, guardD want (F j s) (c s))
   (h : ∀ s, C.good (infoOf us i).anc s → c s → ∀ M, LocP P o (ctx g F U (infoOf us i).need s) N M (U i s))
 | gread (r p : Nat) (j : Nat) (want : Bool) (c : σ → Prop) (hg : o.guard = some (j, want)) (hu : (infoOf us i).use = some (r, p, false)) (hix : i ∉ C.X) (hc : ∀ x ∈ C.X, nElem (infoOf us i).anc x = true ∨ ∀ s s', C.E x s s' → F i s = F i s')
   (hF : ∀ s, F i s = dIf (c s) (U i s)) (hgd : ∀ s, guardD want (F j s) (c s))
   (h : ∀ s, C.good (infoOf us i).anc s → c s → ∀ M, In (V r p s) M → LocP P o (ctx g F U (infoOf us i).need s) N M (U i s))
def cnt (n : Nat) (us : List Info) (L : Nat → Bool) (r : Nat) : Nat := (List.range n).countP fun j => L j && (writes us r j).isSome
def resAt (n m : Nat) (us : List Info) (V : Nat → Nat → σ → Res) (L : Nat → Bool) (s : σ) : List Res := (List.range m).map fun r => V r (cnt n us L r) s
def closed (l : List Oper) (L : Nat → Bool) : Prop := ∀ i, i < l.length → L i = true → ∀ a, predB l i a = true → L a = true
theorem anc_listed {l : List Oper} {us : List Info} {L : Nat → Bool} {i : Nat} (hchk : chkAnc l us i = true) (hcl : closed l L) (hi : i < l.length) (hpr : ∀ a, predB l i a = true → L a = true) :
  ∀ a, nElem (infoOf us i).anc a = true → L a = true := by
 have key : ∀ m a, i ≤ a + m → nElem (infoOf us i).anc a = true → L a = true := by
  intro m
  induction m with
  | zero =>
   intro a ha hm
   have := List.all_eq_true.1 hchk a (nElem_mem hm)
   simp only [Bool.and_eq_true, Nat.blt_eq] at this
   omega
  | succ m ih =>
   intro a ha hm
   have h1 := List.all_eq_true.1 hchk a (nElem_mem hm)
   simp only [Bool.and_eq_true, Bool.or_eq_true, Nat.blt_eq, List.any_eq_true] at h1
   obtain ⟨hlt, h2 | ⟨b, hb, hab, hpb⟩⟩ := h1
   ·exact hpr a h2
   ·have hbe : nElem (infoOf us i).anc b = true := by
     have : ∀ (l : List Nat), b ∈ l → nElem l b = true := by
      intro l
      induction l with
      | nil => intro h; cases h
      | cons y l ih =>
       intro h
       simp only [nElem]
       rcases List.mem_cons.1 h with rfl | h
       ·simp
       ·cases Nat.beq y b <;> simp [ih h]
     exact this _ hb
    have hlb := List.all_eq_true.1 hchk b hb
    simp only [Bool.and_eq_true, Nat.blt_eq] at hlb
    exact hcl b (by omega) (ih b (by omega) hbe) a hpb
 exact fun a => key i a (by omega)
theorem cnt_eq {n : Nat} {us : List Info} {L : Nat → Bool} {i r p : Nat} {w : Bool} (hu : (infoOf us i).use = some (r, p, w)) (hchk : chkUse n us i = true) (hL : L i = false)
  (hanc : ∀ a, nElem (infoOf us i).anc a = true → L a = true) (hcl : ∀ j, j < n → L j = true → ∀ a, nElem (infoOf us j).anc a = true → L a = true) : cnt n us L r = p := by
 unfold chkUse at hchk
 rw [hu] at hchk
 simp only [Bool.and_eq_true] at hchk
 obtain ⟨h1, h2⟩ := hchk
 have h2' := Nat.eq_of_beq_eq_true h2
 rw [← h2']
 unfold cnt
 apply List.countP_congr
 intro j hj
 have hjn := List.mem_range.1 hj
 have h3 := allLt_spec h1 j hjn
 cases hw : writes us r j with
 | none => simp
 | some q =>
  rw [hw] at h3
  simp only [Option.isSome_some, Bool.and_true]
  cases hq : Nat.blt q p with
  | true =>
   simp only [hq, cond_true] at h3
   simp [hanc j h3]
  | false =>
   simp only [hq, cond_false, Bool.or_eq_true] at h3
   have : L j ≠ true := by
    intro hLj
    rcases h3 with h3 | h3
    ·have := Nat.eq_of_beq_eq_true h3
     subst this
     rw [hL] at hLj; cases hLj
    ·have := hcl j hjn hLj i h3
     rw [hL] at this; cases this
   simp [this]
def ans : Value → Option Bool
 | .bool b => some b
 | _ => none
theorem look_map {β : Type} (f : β → Nat × D) : ∀ {l : List β} {k : Nat} {d : D}, look (l.map f) k = some d → ∃ p ∈ l, (f p).1 = k ∧ (f p).2 = d
 | [], k, d, h => by simp [look] at h
 | p :: l, k, d, h => by
  rw [List.map_cons, show f p = ((f p).1, (f p).2) from rfl, look_cons] at h
  split at h
  ·rename_i e
   injection h with h
   exact ⟨p, List.mem_cons_self .., e, h⟩
  ·obtain ⟨q, hq, h2⟩ := look_map f h
   exact ⟨q, List.mem_cons_of_mem _ hq, h2⟩
variable {l : List Oper} {us : List Info} {C : Ch σ} {F U : Nat → σ → D} {V : Nat → Nat → σ → Res}
theorem guard_of_ob {i : Nat} {o : Oper} {a : Nat} {b : Bool} (h : Ob P g N C us F U V i o) (hg : o.guard = some (a, b)) : ∃ c : σ → Prop, (∀ s, F i s = dIf (c s) (U i s)) ∧ ∀ s, guardD b (F a s) (c s) := by
 cases h with
 | pure hg' => rw [hg'] at hg; cases hg
 | read _ _ hg' => rw [hg'] at hg; cases hg
 | write _ _ hg' => rw [hg'] at hg; cases hg
 | choose _ _ hg' => rw [hg'] at hg; cases hg
 | gpure j want c hg' _ _ _ hF hgd => rw [hg'] at hg; injection hg with hg; injection hg with h1 h2; subst h1; subst h2; exact ⟨c, hF, hgd⟩
 | gread _ _ j want c hg' _ _ _ hF hgd => rw [hg'] at hg; injection hg with hg; injection hg with h1 h2; subst h1; subst h2; exact ⟨c, hF, hgd⟩
theorem mid_ctx {L : Nat → Bool} {i : Nat} {s : σ} {I : Imm} {a : Act} (hob : ∀ j o, l[j]? = some o → Ob P g N C us F U V j o) (hneed : chkNeed l us i = true)
  (hanc : ∀ a, nElem (infoOf us i).anc a = true → L a = true) (hi : i < l.length) (hL : L i = false) (hlt : ∀ a, nElem (infoOf us i).anc a = true → a < l.length)
  (hcl : ∀ j, j < l.length → L j = true → ∀ a, nElem (infoOf us j).anc a = true → L a = true)
  (hgd : ∀ e b, (l[i]?).bind (·.guard) = some (e, b) → ∃ gs, dstOf l e = some gs ∧ ans (a.tmps.getD gs undef) = some b ∧ L e = true ∧ e < l.length)
  (hm : Mid l g N F L s I a) : Slots (ctx g F U (infoOf us i).need s) N I a := by
 refine ⟨hm.size, hm.defers, fun k d hk => ?_⟩
 obtain ⟨⟨t, src⟩, hp, hk1, hk2⟩ := look_map _ hk
 simp only at hk1 hk2
 subst hk1
 have h1 := List.all_eq_true.1 hneed _ hp
 cases src with
 | none =>
  simp only at h1 hk2
  subst hk2
  cases hlk : look g t with
  | none => exact trivial
  | some d =>
   refine hm.left t d hlk fun j hj hLj hdj => ?_
   have h2 := allLt_spec h1 j hj
   rw [hdj] at h2
   simp only [Nat.beq_refl, Bool.not_true, Bool.false_or, Bool.or_eq_true] at h2
   rcases h2 with h2 | h2
   ·have := hcl j hj hLj i h2
    rw [hL] at this; cases this
   ·have := Nat.eq_of_beq_eq_true h2
    subst this
    rw [hL] at hLj; cases hLj
 | some ju =>
  obtain ⟨j, u⟩ := ju
  simp only [Bool.and_eq_true] at h1
  obtain ⟨⟨hj, hdst⟩, hun⟩ := h1
  have hd : dstOf l j = some t := by
   cases hdd : dstOf l j with
   | none => rw [hdd] at hdst; cases hdst
   | some t' => rw [hdd] at hdst; rw [Nat.eq_of_beq_eq_true hdst]
  have hfact := hm.done j t (hlt j hj) (hanc j hj) hd
  cases u with
  | false => simp only at hk2; subst hk2; exact hfact
  | true =>
   simp only at hk2
   subst hk2
   simp only [Bool.not_true, Bool.false_or] at hun
   cases hgi : (l[i]?).bind (·.guard) with
   | none => rw [hgi] at hun; cases hun
   | some ab =>
    obtain ⟨e, b⟩ := ab
    cases hgj : (l[j]?).bind (·.guard) with
    | none => rw [hgi, hgj] at hun; cases hun
    | some cd =>
     obtain ⟨e', b'⟩ := cd
     rw [hgi, hgj] at hun
     simp only [Bool.and_eq_true, beq_iff_eq] at hun
     obtain ⟨he, hb⟩ := hun
     have he' := Nat.eq_of_beq_eq_true he
     subst he'
     subst hb
     obtain ⟨gs, h2, h3, h4, h5⟩ := hgd e b hgi
     cases hlj : l[j]? with
     | none => rw [hlj] at hgj; cases hgj
     | some oj =>
      rw [hlj, Option.bind_some] at hgj
      obtain ⟨c, hF, hgc⟩ := guard_of_ob (hob j oj hlj) hgj
      rw [hF] at hfact
      have hgv := hm.done e gs h5 h4 h2
      have := (hgc s I _ hgv).1 h3
      exact hfact.1 this
theorem range_perm {m r : Nat} (hr : r < m) : (List.range m).Perm (r :: (List.range m).erase r) := List.perm_cons_erase (List.mem_range.2 hr)
theorem res_perm {m r : Nat} (hr : r < m) {f f' : Nat → Res} (he : ∀ k, k ≠ r → f' k = f k) : ((List.range m).map f).Perm (f r :: ((List.range m).erase r).map f) ∧ (f' r :: ((List.range m).erase r).map f).Perm ((List.range m).map f') := by
 refine ⟨(range_perm hr).map f, ?_⟩
 have h1 : ((List.range m).erase r).map f = ((List.range m).erase r).map f' := by
  apply List.map_congr_left
  intro k hk
  have : k ≠ r := by
   intro hkr
   subst hkr
   exact (List.nodup_range).not_mem_erase hk
  exact (he k this).symm
 rw [h1]
 exact ((range_perm hr).map f').symm
def chkPred (l : List Oper) (i : Nat) : Bool := ((l[i]?).map fun o => o.after.toList.all fun e => !Region.binds .any e || Nat.blt e.on i).getD true
def chkRes (us : List Info) (m i : Nat) : Bool := match (infoOf us i).use with | some (r, _, _) => Nat.blt r m | none => true
theorem cnt_le {n : Nat} {L : Nat → Bool} {j r q : Nat} (hj : j < n) (hw : writes us r j = some q) (hchk : chkUse n us j = true) (hL : L j = false) (hcl : ∀ i, i < n → L i = true → ∀ a, nElem (infoOf us i).anc a = true → L a = true) : cnt n us L r ≤ q := by
 unfold chkUse at hchk
 unfold writes at hw
 cases hu : (infoOf us j).use with
 | none => rw [hu] at hw; cases hw
 | some rpw =>
  obtain ⟨r', p, w⟩ := rpw
  rw [hu] at hw hchk
  cases w with
  | false => cases hw
  | true =>
   simp only at hw
   cases hr : Nat.beq r' r with
   | false => rw [hr] at hw; cases hw
   | true =>
    rw [hr] at hw
    simp only [cond_true, Option.some.injEq] at hw
    have hrr := Nat.eq_of_beq_eq_true hr
    subst hrr
    subst hw
    simp only [Bool.and_eq_true] at hchk
    obtain ⟨h1, h2⟩ := hchk
    rw [← Nat.eq_of_beq_eq_true h2]
    unfold cnt
    apply List.countP_mono_left
    intro k hk hp
    have hkn := List.mem_range.1 hk
    have h3 := allLt_spec h1 k hkn
    simp only [Bool.and_eq_true] at hp
    obtain ⟨hLk, hsome⟩ := hp
    cases hwk : writes us r' k with
    | none => rw [hwk] at hsome; cases hsome
    | some q' =>
     rw [hwk] at h3
     simp only
     cases hq : Nat.blt q' p with
     | true => rfl
     | false =>
      simp only [hq, cond_false, Bool.or_eq_true] at h3
      rcases h3 with h3 | h3
      ·have := Nat.eq_of_beq_eq_true h3
       subst this
       rw [hL] at hLk; cases hLk
      ·have := hcl k hkn hLk j h3
       rw [hL] at this; cases this
def St (P : Program) (l : List Oper) (us : List Info) (g : G) (N : Nat) (I0 : Imm) (C : Ch σ) (m : Nat) (F : Nat → σ → D) (V : Nat → Nat → σ → Res) (M0 : List Res) (L : Nat → Bool) (a : Act) (w : World) : Prop :=
 ∃ s I, (∀ x ∈ C.X, L x = true → C.Φ x s) ∧ I0.le I ∧ Mid l g N F L s I a ∧ Inv I (resAt l.length m us V L s ++ (C.own s ++ M0)) w
structure Whole (P : Program) (l : List Oper) (us : List Info) (g : G) (N : Nat) (C : Ch σ) (m : Nat) (F U : Nat → σ → D) (V : Nat → Nat → σ → Res) : Prop where
 chk : chk l us N = true
 pred : ∀ i, i < l.length → chkPred l i = true
 res : ∀ i, i < l.length → chkRes us m i = true
 ob : ∀ j o, l[j]? = some o → Ob P g N C us F U V j o
 vc : ∀ r p, ∀ x ∈ C.X, (∀ s s', C.E x s s' → V r p s = V r p s') ∨ ∃ j, j < l.length ∧ (∃ q, q < p ∧ writes us r j = some q) ∧ (j = x ∨ nElem (infoOf us j).anc x = true)
def setL (L : Nat → Bool) (i : Nat) : Nat → Bool := fun j => Nat.beq i j || L j
theorem setL_self {L : Nat → Bool} {i : Nat} : setL L i i = true := by simp [setL]
theorem setL_ne {L : Nat → Bool} {i j : Nat} (h : i ≠ j) : setL L i j = L j := by
 have : Nat.beq i j = false := by cases hb : Nat.beq i j with | false => rfl | true => exact absurd (Nat.eq_of_beq_eq_true hb) h
 simp [setL, this]
theorem setL_of {L : Nat → Bool} {i j : Nat} (h : setL L i j = true) : j = i ∨ L j = true := by
 simp only [setL, Bool.or_eq_true] at h
 rcases h with h | h
 ·exact .inl (Nat.eq_of_beq_eq_true h).symm
 ·exact .inr h
theorem mid_put {L : Nat → Bool} {i : Nat} {s : σ} {I J : Imm} {a : Act} {o : Oper} {v : Value} (hw : chk l us N = true) (hlo : l[i]? = some o) (hi : i < l.length) (hm : Mid l g N F L s I a) (hle : I.le J)
  (hv : ∀ d, dstOf l i = some d → (F i s).rel J v) : Mid l g N F (setL L i) s J (a.put o.dst v) := by
 have hdst : dstOf l i = o.dst := by simp [dstOf, hlo]
 have hc := allLt_spec hw i hi
 simp only [Bool.and_eq_true] at hc
 obtain ⟨⟨_, hN⟩, hD⟩ := hc
 have hget : ∀ t, o.dst ≠ some t → (a.put o.dst v).tmps.getD t undef = a.tmps.getD t undef := by
  intro t ht
  cases hod : o.dst with
  | none => rfl
  | some d =>
   have hne : d ≠ t := by intro e; exact ht (by rw [hod, e])
   simp only [Act.put, Array.getD_eq_getD_getElem?]
   rw [Array.getElem?_setIfInBounds_ne hne]
 refine ⟨?_, ?_, fun j d hj hLj hdj => ?_, fun t d hk hno => ?_⟩
 ·cases o.dst <;> simp [Act.put, hm.size]
 ·cases o.dst <;> simp [Act.put, hm.defers]
 ·by_cases hij : i = j
  ·subst hij
   have hd : o.dst = some d := by rw [← hdst]; exact hdj
   have hdN : d < N := by
    unfold chkN at hN
    rw [hdj] at hN
    simpa [Nat.blt_eq] using hN
   rw [hd]
   have : d < a.tmps.size := by rw [hm.size]; exact hdN
   simp only [Act.put, Array.getD_eq_getD_getElem?]
   rw [Array.getElem?_setIfInBounds]
   simp only [if_pos rfl, this, if_true, Option.getD_some]
   exact hv d hdj
  ·have hLj' : L j = true := by rwa [setL_ne hij] at hLj
   have hne : o.dst ≠ some d := by
    intro e
    have h2 := allLt_spec hD j hj
    unfold chkDst at h2
    rw [hdj, hdst, e] at h2
    simp only [Nat.beq_refl, Bool.not_true, Bool.or_false] at h2
    exact hij (Nat.eq_of_beq_eq_true h2)
   rw [hget d hne]
   exact D.mono _ hle (hm.done j d hj hLj' hdj)
 ·have hne : o.dst ≠ some t := by
   intro e
   exact hno i hi setL_self (by rw [hdst, e])
  rw [hget t hne]
  exact D.mono _ hle (hm.left t d hk fun j hj hLj => hno j hj (by
   by_cases hij : i = j
   ·subst hij; exact setL_self
   ·rw [setL_ne hij]; exact hLj))
theorem cnt_set_none {n : Nat} {L : Nat → Bool} {i r : Nat} (h : writes us r i = none) : cnt n us (setL L i) r = cnt n us L r := by
 unfold cnt
 apply List.countP_congr
 intro j _
 by_cases hij : i = j
 ·subst hij; simp [h]
 ·rw [setL_ne hij]
theorem cnt_set_some {n : Nat} {L : Nat → Bool} {i r q : Nat} (hi : i < n) (hL : L i = false) (h : writes us r i = some q) : cnt n us (setL L i) r = cnt n us L r + 1 := by
 have key : ∀ (ls : List Nat), ls.Nodup → i ∈ ls → ls.countP (fun j => setL L i j && (writes us r j).isSome) = ls.countP (fun j => L j && (writes us r j).isSome) + 1 := by
  intro ls
  induction ls with
  | nil => intro _ hm; cases hm
  | cons y ls ih =>
   intro hnd hm
   rw [List.nodup_cons] at hnd
   by_cases hiy : i = y
   ·subst hiy
    have h1 : ls.countP (fun j => setL L i j && (writes us r j).isSome) = ls.countP (fun j => L j && (writes us r j).isSome) := by
     apply List.countP_congr
     intro j hj
     have : i ≠ j := by intro e; subst e; exact hnd.1 hj
     rw [setL_ne this]
    rw [List.countP_cons, List.countP_cons, h1, setL_self, h, hL]
    simp
   ·have hm' : i ∈ ls := by
     rcases List.mem_cons.1 hm with e | e
     ·exact absurd e hiy
     ·exact e
    rw [List.countP_cons, List.countP_cons, ih hnd.2 hm', setL_ne hiy]
    omega
 exact key _ List.nodup_range (List.mem_range.2 hi)
theorem writes_of {r p : Nat} {i : Nat} (hu : (infoOf us i).use = some (r, p, true)) : writes us r i = some p := by
 unfold writes
 rw [hu]
 simp
theorem writes_other {r r' p : Nat} {i : Nat} {w : Bool} (hu : (infoOf us i).use = some (r, p, w)) (h : r' ≠ r) : writes us r' i = none := by
 unfold writes
 rw [hu]
 cases w with
 | false => rfl
 | true =>
  have : Nat.beq r r' = false := by cases hb : Nat.beq r r' with | false => rfl | true => exact absurd (Nat.eq_of_beq_eq_true hb).symm h
  simp [this]
theorem writes_none {r : Nat} {i : Nat} (hu : (infoOf us i).use = none) : writes us r i = none := by unfold writes; rw [hu]
theorem writes_read {r r' p : Nat} {i : Nat} (hu : (infoOf us i).use = some (r, p, false)) : writes us r' i = none := by unfold writes; rw [hu]
variable {I0 : Imm} {m : Nat} {M0 : List Res}
theorem resAt_congr {n : Nat} {L L' : Nat → Bool} {s : σ} (h : ∀ r, cnt n us L' r = cnt n us L r) : resAt n m us V L' s = resAt n m us V L s := by
 unfold resAt
 simp only [h]
theorem perm_own (r : Res) (A B M0 : List Res) : ((r :: A) ++ (B ++ M0)).Perm ((r :: B) ++ (A ++ M0)) := by
 rw [List.cons_append, List.cons_append]
 refine List.Perm.cons _ ?_
 rw [← List.append_assoc, ← List.append_assoc]
 exact List.perm_append_comm.append_right M0
theorem step_op (W : Whole P l us g N C m F U V) {L : Nat → Bool} {i : Nat} {o : Oper} {a : Act} {w : World} {Q : Exit → Act → World → Prop} {K : Act → World → Prop}
  (hlo : l[i]? = some o) (hL : L i = false) (hpr : ∀ a, predB l i a = true → L a = true) (hcl : closed l L) (hst : St P l us g N I0 C m F V M0 L a w)
  (hK : ∀ a' w', St P l us g N I0 C m F V M0 (setL L i) a' w' → K a' w') :
  if Region.wanted o (yielded l.toArray a.tmps) then o.wp P a w K Q else K (a.put o.dst undef) w := by
 obtain ⟨s, I, hφ, hle0, hmid, hinv⟩ := hst
 have hi : i < l.length := (List.getElem?_eq_some_iff.1 hlo).1
 have hc := fun j (hj : j < l.length) => by
  have := allLt_spec W.chk j hj
  simp only [Bool.and_eq_true] at this
  exact this
 have hanc := anc_listed (hc i hi).1.1.1.1.1 hcl hi hpr
 have hcla : ∀ j, j < l.length → L j = true → ∀ a, nElem (infoOf us j).anc a = true → L a = true := fun j hj hLj =>
  anc_listed (hc j hj).1.1.1.1.1 hcl hj (fun a ha => hcl j hj hLj a ha)
 have hlt : ∀ a, nElem (infoOf us i).anc a = true → a < l.length := fun a ha => by
  have := List.all_eq_true.1 (hc i hi).1.1.1.1.1 a (nElem_mem ha)
  simp only [Bool.and_eq_true, Nat.blt_eq] at this
  omega
 have hneed := (hc i hi).1.1.1.1.2
 have huse := (hc i hi).1.1.1.2
 have hguard := (hc i hi).1.1.2
 have hob := W.ob i o hlo
 have hgi : (l[i]?).bind (·.guard) = o.guard := by simp [hlo]
 have hgsl : ∀ e b, o.guard = some (e, b) → ∃ gs, dstOf l e = some gs ∧ L e = true ∧ e < l.length := by
  intro e b he
  unfold chkGuard at hguard
  rw [hgi, he] at hguard
  simp only [Bool.and_eq_true] at hguard
  obtain ⟨gs, hgs⟩ := Option.isSome_iff_exists.1 hguard.2
  exact ⟨gs, hgs, hanc e hguard.1, hlt e hguard.1⟩
 have hyield : ∀ e b, o.guard = some (e, b) → ∀ gs, dstOf l e = some gs → yielded l.toArray a.tmps e = ans (a.tmps.getD gs undef) := by
  intro e b _ gs hgs
  have h1 : (l.toArray[e]?).bind (·.dst) = some gs := by simpa [dstOf] using hgs
  simp only [yielded, h1, Option.bind_some, Array.getD_eq_getD_getElem?]
  cases hx : a.tmps[gs]? with
  | none => rfl
  | some u => cases u <;> rfl
 have hslots : (∀ e b, o.guard = some (e, b) → ∀ gs, dstOf l e = some gs → ans (a.tmps.getD gs undef) = some b) → Slots (ctx g F U (infoOf us i).need s) N I a := fun hyes =>
  mid_ctx W.ob hneed hanc hi hL hlt hcla (fun e b he => by
   rw [hgi] at he
   obtain ⟨gs, h1, h2, h3⟩ := hgsl e b he
   exact ⟨gs, h1, hyes e b he gs h1, h2, h3⟩) hmid
 have hφi : C.good (infoOf us i).anc s := fun x hx h => hφ x hx (hanc x h)
 have hLx : ∀ {s' : σ}, i ∉ C.X → (∀ x ∈ C.X, L x = true → C.Φ x s') → ∀ x ∈ C.X, setL L i x = true → C.Φ x s' := fun hix h x hx hs => h x hx (by rwa [setL_ne (show i ≠ x from fun e => hix (by rw [e]; exact hx))] at hs)
 cases hob with
 | pure hg hu hix hcst h =>
  rw [if_pos (by simp [Region.wanted, hg])]
  refine (h s hφi _).go I a w K Q (hslots (fun e b he => by rw [hg] at he; cases he)) hinv fun v w' J hle hv hi' => hK _ _ ⟨s, J, hLx hix hφ, hle0.trans hle, mid_put W.chk hlo hi hmid hle (fun _ _ => hv), ?_⟩
  rwa [resAt_congr fun r => cnt_set_none (writes_none hu)]
 | read r p hg hu hix hcst h =>
  rw [if_pos (by simp [Region.wanted, hg])]
  have hr : r < m := by have := W.res i hi; unfold chkRes at this; rw [hu] at this; simpa [Nat.blt_eq] using this
  have hcn : cnt l.length us L r = p := cnt_eq hu huse hL hanc hcla
  have hin : ∀ (M : List Res), V r p s ∈ M → In (V r p s) M := by
   intro M
   induction M with
   | nil => intro h; cases h
   | cons y M ih =>
    intro h
    rcases List.mem_cons.1 h with e | e
    ·rw [← e]; exact .here
    ·exact .there (ih e)
  have hmem : V r p s ∈ resAt l.length m us V L s ++ (C.own s ++ M0) := List.mem_append_left _ (List.mem_map.2 ⟨r, List.mem_range.2 hr, by rw [hcn]⟩)
  refine (h s hφi _ (hin _ hmem)).go I a w K Q (hslots (fun e b he => by rw [hg] at he; cases he)) hinv fun v w' J hle hv hi' => hK _ _ ⟨s, J, hLx hix hφ, hle0.trans hle, mid_put W.chk hlo hi hmid hle (fun _ _ => hv), ?_⟩
  rwa [resAt_congr fun r => cnt_set_none (writes_read hu)]
 | write r p hg hu hix hcst h =>
  rw [if_pos (by simp [Region.wanted, hg])]
  have hr : r < m := by have := W.res i hi; unfold chkRes at this; rw [hu] at this; simpa [Nat.blt_eq] using this
  have hcn : cnt l.length us L r = p := cnt_eq hu huse hL hanc hcla
  have hc1 : cnt l.length us (setL L i) r = p + 1 := by rw [cnt_set_some hi hL (writes_of hu), hcn]
  have hp := res_perm (m := m) hr (f := fun k => V k (cnt l.length us L k) s) (f' := fun k => V k (cnt l.length us (setL L i) k) s) (fun k hk => by rw [cnt_set_none (writes_other hu hk)])
  rw [hcn, hc1] at hp
  refine (h s hφi).go (((List.range m).erase r).map (fun k => V k (cnt l.length us L k) s) ++ (C.own s ++ M0)) I a w K Q (hslots (fun e b he => by rw [hg] at he; cases he)) (hinv.perm (hp.1.append_right (C.own s ++ M0))) fun _ v w' J _ hle hv hi' =>
   hK _ _ ⟨s, J, hLx hix hφ, hle0.trans hle, mid_put W.chk hlo hi hmid hle (fun _ _ => hv), hi'.perm (hp.2.append_right (C.own s ++ M0))⟩
 | choose r p hg hu hix _ h =>
  rw [if_pos (by simp [Region.wanted, hg])]
  have hr : r < m := by have := W.res i hi; unfold chkRes at this; rw [hu] at this; simpa [Nat.blt_eq] using this
  have hcn : cnt l.length us L r = p := cnt_eq hu huse hL hanc hcla
  have hc1 : cnt l.length us (setL L i) r = p + 1 := by rw [cnt_set_some hi hL (writes_of hu), hcn]
  have hconst : ∀ k s', C.E i s s' → V k (cnt l.length us L k) s' = V k (cnt l.length us L k) s := by
   intro k s' he
   rcases W.vc k (cnt l.length us L k) i hix with h1 | ⟨j, hj, ⟨q, hq, hwj⟩, hd⟩
   ·exact (h1 s s' he).symm
   ·exfalso
    have hLj : L j = false := by
     rcases hd with rfl | hd
     ·exact hL
     ·cases hb : L j with
      | false => rfl
      | true => have := hcla j hj hb i hd; rw [hL] at this; cases this
    have := cnt_le hj hwj (hc j hj).1.1.1.2 hLj hcla
    omega
  refine (h s hφi).go (((List.range m).erase r).map (fun k => V k (cnt l.length us L k) s) ++ M0) I a w K Q (hslots (fun e b he => by rw [hg] at he; cases he)) ?_ fun s' v w' J hs' hle hv hi' => hK _ _ ⟨s', J, (fun y hy hLy => by
   by_cases hyi : i = y
   ·subst hyi; exact hs'.1
   ·exact C.keep i y s s' hix hy hyi hs'.2 (hφ y hy (by rwa [setL_ne hyi] at hLy))), hle0.trans hle, ?_, ?_⟩
  ·have hp := res_perm (m := m) hr (f := fun k => V k (cnt l.length us L k) s) (f' := fun k => V k (cnt l.length us L k) s) (fun k hk => rfl)
   rw [hcn] at hp
   exact hinv.perm ((hp.1.append_right (C.own s ++ M0)).trans (perm_own _ _ _ _))
  ·refine mid_put W.chk hlo hi ⟨hmid.size, hmid.defers, fun j d hj hLj hdj => ?_, hmid.left⟩ hle (fun _ _ => hv)
   have hji : j ≠ i := by intro e; subst e; rw [hL] at hLj; cases hLj
   have hnx : nElem (infoOf us j).anc i ≠ true := fun e => by have := hcla j hj hLj i e; rw [hL] at this; cases this
   have hlj : ∃ oj, l[j]? = some oj := ⟨l[j], by simp [hj]⟩
   obtain ⟨oj, hlj⟩ := hlj
   have hFj : F j s' = F j s := by
    cases W.ob j oj hlj with
    | pure _ _ _ hcst => exact ((hcst i hix).resolve_left hnx s s' hs'.2).symm
    | read _ _ _ _ _ hcst => exact ((hcst i hix).resolve_left hnx s s' hs'.2).symm
    | write _ _ _ _ _ hcst => exact ((hcst i hix).resolve_left hnx s s' hs'.2).1.symm
    | choose _ _ _ _ he hcst => exact ((hcst i hix (Ne.symm hji)).resolve_left hnx s s' hs'.2).1.symm
    | gpure _ _ _ _ _ _ hcst => exact ((hcst i hix).resolve_left hnx s s' hs'.2).symm
    | gread _ _ _ _ _ _ _ _ hcst => exact ((hcst i hix).resolve_left hnx s s' hs'.2).symm
   rw [hFj]
   exact hmid.done j d hj hLj hdj
  ·have hp := res_perm (m := m) hr (f := fun k => V k (cnt l.length us L k) s) (f' := fun k => V k (cnt l.length us (setL L i) k) s') (fun k hk => by rw [cnt_set_none (writes_other hu hk)]; exact hconst k s' hs'.2)
   rw [hcn, hc1] at hp
   exact hi'.perm ((perm_own _ _ _ _).symm.trans (hp.2.append_right (C.own s' ++ M0)))
 | gpure e want c hg hu hix hcst hF hgd h =>
  obtain ⟨gs, hgs, hLe, hel⟩ := hgsl e want hg
  have hy := hyield e want hg gs hgs
  have hans := hgd s I _ (hmid.done e gs hel hLe hgs)
  have hw : Region.wanted o (yielded l.toArray a.tmps) = (ans (a.tmps.getD gs undef) == some want) := by simp [Region.wanted, hg, hy]
  by_cases hcs : c s
  ·have h1 : ans (a.tmps.getD gs undef) = some want := hans.2 hcs
   rw [if_pos (by rw [hw, h1]; simp)]
   refine (h s hφi hcs _).go I a w K Q (hslots (fun e' b he gs' hgs' => by rw [hg] at he; injection he with he; injection he with e1 e2; subst e1; subst e2; rw [hgs] at hgs'; injection hgs' with e3; subst e3; exact h1)) hinv fun v w' J hle hv hi' =>
    hK _ _ ⟨s, J, hLx hix hφ, hle0.trans hle, mid_put W.chk hlo hi hmid hle (fun _ _ => by rw [hF]; exact ⟨fun _ => hv, fun hn => absurd hcs hn⟩), ?_⟩
   rwa [resAt_congr fun r => cnt_set_none (writes_none hu)]
  ·have h1 : ans (a.tmps.getD gs undef) ≠ some want := fun h2 => hcs (hans.1 h2)
   rw [if_neg (by rw [hw]; simpa using h1)]
   refine hK _ _ ⟨s, I, hLx hix hφ, hle0, mid_put W.chk hlo hi hmid I.le_refl (fun _ _ => by rw [hF]; exact ⟨fun hcc => absurd hcc hcs, fun _ => rfl⟩), ?_⟩
   rwa [resAt_congr fun r => cnt_set_none (writes_none hu)]
 | gread r p e want c hg hu hix hcst hF hgd h =>
  obtain ⟨gs, hgs, hLe, hel⟩ := hgsl e want hg
  have hy := hyield e want hg gs hgs
  have hans := hgd s I _ (hmid.done e gs hel hLe hgs)
  have hw : Region.wanted o (yielded l.toArray a.tmps) = (ans (a.tmps.getD gs undef) == some want) := by simp [Region.wanted, hg, hy]
  have hr : r < m := by have := W.res i hi; unfold chkRes at this; rw [hu] at this; simpa [Nat.blt_eq] using this
  have hcn : cnt l.length us L r = p := cnt_eq hu huse hL hanc hcla
  have hin : ∀ (M : List Res), V r p s ∈ M → In (V r p s) M := by
   intro M
   induction M with
   | nil => intro h; cases h
   | cons y M ih =>
    intro h
    rcases List.mem_cons.1 h with e | e
    ·rw [← e]; exact .here
    ·exact .there (ih e)
  have hmem : V r p s ∈ resAt l.length m us V L s ++ (C.own s ++ M0) := List.mem_append_left _ (List.mem_map.2 ⟨r, List.mem_range.2 hr, by rw [hcn]⟩)
  by_cases hcs : c s
  ·have h1 : ans (a.tmps.getD gs undef) = some want := hans.2 hcs
   rw [if_pos (by rw [hw, h1]; simp)]
   refine (h s hφi hcs _ (hin _ hmem)).go I a w K Q (hslots (fun e' b he gs' hgs' => by rw [hg] at he; injection he with he; injection he with e1 e2; subst e1; subst e2; rw [hgs] at hgs'; injection hgs' with e3; subst e3; exact h1)) hinv fun v w' J hle hv hi' =>
    hK _ _ ⟨s, J, hLx hix hφ, hle0.trans hle, mid_put W.chk hlo hi hmid hle (fun _ _ => by rw [hF]; exact ⟨fun _ => hv, fun hn => absurd hcs hn⟩), ?_⟩
   rwa [resAt_congr fun r => cnt_set_none (writes_read hu)]
  ·have h1 : ans (a.tmps.getD gs undef) ≠ some want := fun h2 => hcs (hans.1 h2)
   rw [if_neg (by rw [hw]; simpa using h1)]
   refine hK _ _ ⟨s, I, hLx hix hφ, hle0, mid_put W.chk hlo hi hmid I.le_refl (fun _ _ => by rw [hF]; exact ⟨fun hcc => absurd hcc hcs, fun _ => rfl⟩), ?_⟩
   rwa [resAt_congr fun r => cnt_set_none (writes_read hu)]
theorem countP_lt {p q : Nat → Bool} {i : Nat} : ∀ {ls : List Nat}, (∀ j ∈ ls, q j = true → p j = true) → i ∈ ls → p i = true → q i = false → ls.countP q < ls.countP p
 | y :: ls, h, hm, hp, hq => by
  have hle : ls.countP q ≤ ls.countP p := List.countP_mono_left fun j hj => h j (List.mem_cons_of_mem _ hj)
  rcases List.mem_cons.1 hm with rfl | hm
  ·rw [List.countP_cons, List.countP_cons, hp, hq]
   simp
   omega
  ·have := countP_lt (ls := ls) (fun j hj => h j (List.mem_cons_of_mem _ hj)) hm hp hq
   rw [List.countP_cons, List.countP_cons]
   have h1 := h y (List.mem_cons_self ..)
   cases hqy : q y with
   | false => simp; omega
   | true => simp [h1 hqy]; omega
theorem any_sound (W : Whole P l us g N C m F U V) (hxn : ∀ x ∈ C.X, x < l.length) {Q : Exit → Act → World → Prop} (hQ : ∀ a w, St P l us g N I0 C m F V M0 (fun _ => true) a w → Q .normal a w) :
  ∀ (fuel : Nat) (listed : Array Bool) (a : Act) (w : World), listed.size = l.length → ((List.range l.length).countP fun i => !listed.getD i true) ≤ fuel → closed l (fun i => listed.getD i false) →
   St P l us g N I0 C m F V M0 (fun i => listed.getD i false) a w → wpAny P .any l.toArray Q fuel listed a w := by
 have hsame : ∀ (listed : Array Bool) (i : Nat), listed.size = l.length → i < l.length → listed.getD i true = listed.getD i false := by
  intro listed i hs hi
  simp [Array.getD_eq_getD_getElem?, hs, hi]
 have hready : ∀ (listed : Array Bool) (i : Nat), listed.size = l.length → i < l.length → listed.getD i false = false → (∀ a, predB l i a = true → listed.getD a false = true) → i ∈ Region.ready .any l.toArray listed := by
  intro listed i hs hi hL hpr
  unfold Region.ready
  refine List.mem_filter.2 ⟨by simpa using hi, ?_⟩
  have h1 := hsame listed i hs hi
  rw [h1, hL]
  have hlo : l.toArray[i]? = some l[i] := by simp [hi]
  rw [hlo]
  simp only [Bool.not_false, Bool.true_and, Option.map_some, Option.getD_some, Array.all_eq_true_iff_forall_mem]
  intro e he
  cases hb : Region.binds .any e with
  | false => simp
  | true =>
   have : predB l i e.on = true := by
    unfold predB
    have hlo' : l[i]? = some l[i] := by simp [hi]
    rw [hlo']
    simp only [Option.map_some, Option.getD_some, List.any_eq_true]
    exact ⟨e, by simpa using he, by simp [hb]⟩
   simp [hpr _ this]
 have hall : ∀ (listed : Array Bool), listed.size = l.length → Region.ready .any l.toArray listed = [] → ∀ i, i < l.length → listed.getD i false = true := by
  intro listed hs hnil i
  induction i using Nat.strongRecOn with
  | _ i ih =>
   intro hi
   cases hL : listed.getD i false with
   | true => rfl
   | false =>
    have hm := hready listed i hs hi hL (fun a ha => by
     have hp := W.pred i hi
     unfold chkPred at hp
     unfold predB at ha
     have hlo' : l[i]? = some l[i] := by simp [hi]
     rw [hlo'] at hp ha
     simp only [Option.map_some, Option.getD_some, List.any_eq_true] at ha
     simp only [Option.map_some, Option.getD_some] at hp
     obtain ⟨e, he, h2⟩ := ha
     simp only [Bool.and_eq_true] at h2
     have h3 := List.all_eq_true.1 hp e he
     rw [h2.1] at h3
     simp only [Bool.not_true, Bool.false_or, Nat.blt_eq] at h3
     have h4 := Nat.eq_of_beq_eq_true h2.2
     rw [← h4]
     exact ih e.on h3 (by omega))
    rw [hnil] at hm; cases hm
 have hfin : ∀ (listed : Array Bool) (a : Act) (w : World), listed.size = l.length → Region.ready .any l.toArray listed = [] → St P l us g N I0 C m F V M0 (fun i => listed.getD i false) a w → Q .normal a w := by
  intro listed a w hs hnil hst
  have hA := hall listed hs hnil
  obtain ⟨s, I, h1, h2, h3, h4⟩ := hst
  refine hQ a w ?_
  have hphi : ∀ x ∈ C.X, C.Φ x s := fun x hx => h1 x hx (hA x (hxn x hx))
  ·refine ⟨s, I, fun x hx _ => hphi x hx, h2, ⟨h3.size, h3.defers, fun i d hi _ hd => h3.done i d hi (hA i hi) hd, fun t d hk hno => h3.left t d hk fun i hi hLi => hno i hi rfl⟩, ?_⟩
   rwa [resAt_congr (L := fun i => listed.getD i false) fun r => by
    unfold cnt
    apply List.countP_congr
    intro j hj
    have := hA j (List.mem_range.1 hj)
    simp [this]]
 intro fuel
 induction fuel with
 | zero =>
  intro listed a w hs hcount hcl hst
  have hnil : Region.ready .any l.toArray listed = [] := by
   cases hr : Region.ready .any l.toArray listed with
   | nil => rfl
   | cons i rs =>
    have hm : i ∈ Region.ready .any l.toArray listed := by rw [hr]; exact List.mem_cons_self ..
    unfold Region.ready at hm
    have h2 := List.mem_filter.1 hm
    simp only [Bool.and_eq_true] at h2
    have := List.countP_pos_iff (p := fun i => !listed.getD i true) (l := List.range l.length) |>.2 ⟨i, by simpa using h2.1, h2.2.1⟩
    omega
  exact ⟨hnil, hfin listed a w hs hnil hst⟩
 | succ fuel ih =>
  intro listed a w hs hcount hcl hst
  refine ⟨fun hnil => hfin listed a w hs hnil hst, fun i hm => ?_⟩
  unfold Region.ready at hm
  obtain ⟨hir, h2⟩ := List.mem_filter.1 hm
  simp only [Bool.and_eq_true] at h2
  obtain ⟨hun, hpre⟩ := h2
  have hi : i < l.length := by simpa using hir
  have hlo : l[i]? = some l[i] := by simp [hi]
  have hLi : listed.getD i false = false := by rw [← hsame listed i hs hi]; simpa using hun
  have hpr : ∀ a, predB l i a = true → listed.getD a false = true := by
   intro a ha
   unfold predB at ha
   rw [hlo] at ha
   simp only [Option.map_some, Option.getD_some, List.any_eq_true] at ha
   obtain ⟨e, he, h3⟩ := ha
   simp only [Bool.and_eq_true] at h3
   have hlo2 : l.toArray[i]? = some l[i] := by simp [hi]
   rw [hlo2] at hpre
   simp only [Option.map_some, Option.getD_some, Array.all_eq_true_iff_forall_mem] at hpre
   have h4 := hpre e (by simpa using he)
   rw [h3.1] at h4
   have h5 := Nat.eq_of_beq_eq_true h3.2
   rw [← h5]
   simpa using h4
  have hset : ∀ j, (listed.setIfInBounds i true).getD j false = setL (fun i => listed.getD i false) i j := by
   intro j
   have hi2 : i < listed.size := by rw [hs]; exact hi
   by_cases hij : i = j
   ·subst hij
    rw [setL_self]
    simp [Array.getD_eq_getD_getElem?, Array.getElem?_setIfInBounds, hi2]
   ·rw [setL_ne hij]
    simp [Array.getD_eq_getD_getElem?, Array.getElem?_setIfInBounds_ne hij]
  unfold wpOp
  have hlo2 : l.toArray[i]? = some l[i] := by simp [hi]
  rw [hlo2]
  simp only
  have key := step_op (Q := Q) (K := wpAny P .any l.toArray Q fuel (listed.setIfInBounds i true)) W (L := fun i => listed.getD i false) hlo hLi hpr hcl hst (fun a' w' hst' => ?_)
  ·split
   ·rename_i hw; rw [if_pos hw] at key; exact .inl key
   ·rename_i hw; rw [if_neg hw] at key; exact key
  ·refine ih _ a' w' (by simpa using hs) ?_ ?_ ?_
   ·have hi2 : i < listed.size := by rw [hs]; exact hi
    have := countP_lt (p := fun i => !listed.getD i true) (q := fun j => !(listed.setIfInBounds i true).getD j true) (i := i) (ls := List.range l.length) (fun j hj hq => by
     have hjl := List.mem_range.1 hj
     by_cases hij : i = j
     ·subst hij
      simp [Array.getD_eq_getD_getElem?, Array.getElem?_setIfInBounds, hi2] at hq
     ·simpa [Array.getD_eq_getD_getElem?, Array.getElem?_setIfInBounds_ne hij] using hq) (List.mem_range.2 hi) (by simpa using hun) (by simp [Array.getD_eq_getD_getElem?, Array.getElem?_setIfInBounds, hi2])
    omega
   ·intro j hj hLj a ha
    simp only [hset] at hLj ⊢
    rcases setL_of hLj with rfl | h
    ·have := hpr a ha
     simp only [setL, this, Bool.or_true]
    ·have := hcl j hj h a ha
     simp only [setL, Bool.or_eq_true]
     exact .inr this
   ·have e : (fun j => (listed.setIfInBounds i true).getD j false) = setL (fun i => listed.getD i false) i := funext hset
    rw [e]
    exact hst'
variable {f : FuncId} {R : Goal} {k : List Item}
def rNone : Res := ⟨none, fun _ _ => True, fun _ h => h⟩
theorem wpOps_clean {ops : Array Oper} {Q : Exit → Act → World → Prop} (hQ : ∀ e a w, Q e a w → e = .normal ∧ a.defers = []) : ∀ (l : List Nat) (a : Act) (w : World), wpOps P ops Q l a w → a.defers = []
 | [], a, w, h => (hQ _ _ _ h).2
 | i :: rest, a, w, h => by
  have hput : ∀ (a : Act) (dst : Option Tmp) (v : Value), (a.put dst v).defers = a.defers := by intro a dst v; cases dst <;> rfl
  simp only [wpOps] at h
  split at h
  ·exact wpOps_clean hQ rest a w h
  ·rename_i o ho
   split at h
   ·rcases h with h | ⟨_, a0, w0, hf⟩
    ·unfold Oper.wp Oper.upon at h
     split at h
     ·have := wpOps_clean hQ rest _ _ h; rwa [hput] at this
     ·have := wpOps_clean hQ rest _ _ h; rwa [hput] at this
     ·have := wpOps_clean hQ rest _ _ h; rw [hput] at this; cases this
     ·obtain ⟨e, w2, fr, h1, _⟩ := h []
      cases e with
      | returned v => have := wpOps_clean hQ rest _ _ h1; rwa [hput] at this
      | panicked ch => have := (hQ _ _ _ h1).1; cases this
      | outgrown => obtain ⟨a0, w0, hf⟩ := h1; have := (hQ _ _ _ hf).1; cases this
     ·obtain ⟨v, w2, h1, _⟩ := h default []
      have := wpOps_clean hQ rest _ _ h1; rwa [hput] at this
     ·have := (hQ _ _ _ h).1; cases this
     ·exact h.elim
    ·have := (hQ _ _ _ hf).1; cases this
   ·have := wpOps_clean hQ rest _ _ h; rwa [hput] at this
theorem wpOps_in {ops : Array Oper} {ro : Option Nat} {ms : List Deferred} {Q Q' : Exit → Act → World → Prop} (hQ : ∀ e a w, Q e a w → e = .normal ∧ a.defers = []) (hQ' : ∀ a w, Q .normal a w → Q' .normal { a with defers := ms } w) : ∀ (l : List Nat) (a : Act) (w : World), wpOps P ops Q l a w → wpOpsIn (FR ro) 0 P ops Q' l { a with defers := ms } w
 | [], a, w, h => hQ' _ _ h
 | i :: rest, a, w, h => by
  have ha := wpOps_clean hQ _ _ _ h
  simp only [wpOps] at h
  simp only [wpOpsIn]
  split at h
  ·rename_i ho
   rw [ho]
   exact wpOps_in hQ hQ' rest a w h
  ·rename_i o ho
   rw [ho]
   simp only
   have hp : ∀ v, ({ a with defers := ms } : Act).put o.dst v = { a.put o.dst v with defers := ms } := by intro v; cases o.dst <;> rfl
   split at h
   ·rename_i hwt
    rw [if_pos hwt]
    rcases h with h | ⟨_, a0, w0, hf⟩
    ·refine wpIn_of_wp (K := fun a' w' => wpOps P ops Q rest a' w') ha (fun a' w' _ hh => wpOps_in hQ hQ' rest a' w' hh) ?_
     unfold Oper.wp Oper.upon at *
     split at h
     ·rename_i v w' hr; exact ⟨wpOps_clean hQ _ _ _ h, h⟩
     ·rename_i w' hr; exact ⟨wpOps_clean hQ _ _ _ h, h⟩
     ·rename_i d w' hr; exact ⟨wpOps_clean hQ _ _ _ h, h⟩
     ·rename_i f args w' hr
      refine Calls.mono h ?_
      intro e w2 h1
      cases e with
      | returned v => exact ⟨wpOps_clean hQ _ _ _ h1, h1⟩
      | panicked ch => have := (hQ _ _ _ h1).1; cases this
      | outgrown => obtain ⟨a0, w0, hf⟩ := h1; have := (hQ _ _ _ hf).1; cases this
     ·rename_i row args w' hr
      exact Rows.mono h fun v w2 h1 => ⟨wpOps_clean hQ _ _ _ h1, h1⟩
     ·have := (hQ _ _ _ h).1; cases this
     ·exact h.elim
    ·have := (hQ _ _ _ hf).1; cases this
   ·rename_i hwt
    rw [if_neg hwt]
    refine ⟨fun _ _ => trivial, ?_⟩
    rw [hp]
    exact wpOps_in hQ hQ' rest _ w h
theorem run_whole {id : Nat} (hmix : P.follows .mixedOrders = true) (W : Whole P l us g N C m F U V) (hxn : ∀ x ∈ C.X, x < l.length) (s0 : σ) {M : List Res} (hM : M = (List.range m).map (fun r => V r 0 s0) ++ (C.own s0 ++ M0))
  (h : ∀ s, (∀ x ∈ C.X, C.Φ x s) → ∀ (I : Imm) (a : Act) (w : World) (b : Frame) (cs : List Frame), b.fn = f → (b.kind = .normal ∧ b.roundOf = R.round) → I0.le I → Mid l g N F (fun _ => true) s I a → Inv I (resAt l.length m us V (fun _ => true) s ++ (C.own s ++ M0)) w → Goes P f R (b.atR (R.act a) k) cs w) :
  Run P f N I0 R g M (.code (.region id l.toArray true) :: k) := by
 constructor
 intro I a w b cs hb hk hl hs hi
 have hz : ∀ j, (Array.replicate l.toArray.size false).getD j false = false := fun j => by
  simp only [Array.getD_eq_getD_getElem?, Array.getElem?_replicate]
  split <;> rfl
 have hwp : (Code.region id l.toArray true).wpIn (FR R.round) 0 P (Behind P f R b k cs) (R.act a) w := by
  refine wpIn_region_draw fun tt => ?_
  refine wpOps_in (Q := fun e a' w' => e = .normal ∧ a'.defers = [] ∧ Goes P f R (b.atR (R.act a') k) cs w') (ms := R.marks) (fun e a w h => ⟨h.1, h.2.1⟩) (fun a' w' h => ⟨rfl, h.2.2⟩) _ a _ ?_
  simp only [Region.schedule, hmix, Bool.true_or, if_true]
  refine wpAny_sound l.toArray.size tt _ a _ ?_
  have hcnt0 : ∀ r, cnt l.length us (fun i => (Array.replicate l.toArray.size false).getD i false) r = 0 := by
   intro r
   unfold cnt
   rw [List.countP_eq_zero]
   intro j _
   simp only [hz, Bool.false_and]
   simp
  refine any_sound (I0 := I0) (M0 := M0) W hxn (fun a' w' hst => ?_) _ _ _ _ (by simp) ?_ ?_ ?_
  ·obtain ⟨s, J, h1, h2, h3, h4⟩ := hst
   exact ⟨rfl, h3.defers, h s (fun x hx => h1 x hx rfl) J a' w' b cs hb hk h2 h3 h4⟩
  ·exact Nat.le_trans List.countP_le_length (by simp)
  ·intro j _ hLj
   simp only [hz] at hLj
   cases hLj
  ·refine ⟨s0, I, (fun x _ hx => by simp only [hz] at hx; cases hx), hl, ⟨hs.size, hs.defers, (fun i d _ hLi => by simp only [hz] at hLi; cases hLi), fun t d hk _ => hs.slot t d hk⟩, ?_⟩
   have hr : resAt l.length m us V (fun i => (Array.replicate l.toArray.size false).getD i false) s0 = (List.range m).map (fun r => V r 0 s0) := by
    unfold resAt
    simp only [hcnt0]
   rw [hr, ← hM]
   exact hi.drew
 obtain ⟨e, a', w', ⟨rfl, hg⟩, harr⟩ := hwp b k cs hk.2 trivial (fr_room _ _)
 exact .step harr.steps hg

inductive AllX : List Nat → (Nat → Prop) → Prop where
 | nil {Q : Nat → Prop} : AllX [] Q
 | cons {x : Nat} {xs : List Nat} {Q : Nat → Prop} : Q x → AllX xs Q → AllX (x :: xs) Q
theorem AllX.imp {xs : List Nat} {Q R : Nat → Prop} (h : AllX xs Q) (f : ∀ x, Q x → R x) : AllX xs R := by
 induction h with
 | nil => exact .nil
 | cons a _ ih => exact .cons (f _ a) (ih f)
theorem AllX.all {xs : List Nat} {Q : Nat → Prop} (h : AllX xs Q) : ∀ x ∈ xs, Q x := by
 induction h with
 | nil => intro x hx; cases hx
 | cons h1 _ ih => intro x hx; rcases List.mem_cons.1 hx with rfl | hx; (· exact h1); (· exact ih x hx)
theorem nElem_not {xs : List Nat} {i : Nat} (h : nElem xs i = false) : i ∉ xs := by
 intro hm
 induction xs with
 | nil => cases hm
 | cons x xs ih =>
  simp only [nElem] at h
  cases hb : Nat.beq x i with
  | true => rw [hb] at h; cases h
  | false =>
   rw [hb] at h
   rcases List.mem_cons.1 hm with rfl | hm
   ·simp at hb
   ·exact ih h hm
def lkF (fs : List (Nat × (σ → D) × (σ → D))) (j : Nat) (s : σ) : D := ((lk fs j).map fun du => du.1 s).getD dTop
def lkU (fs : List (Nat × (σ → D) × (σ → D))) (j : Nat) (s : σ) : D := ((lk fs j).map fun du => du.2 s).getD dTop
structure Acc (P : Program) (l : List Oper) (us : List Info) (g : G) (N : Nat) (C : Ch σ) (fs : List (Nat × (σ → D) × (σ → D))) (vs : List (List (σ → Res))) (os : List (Nat × (σ → D))) (i : Nat) : Prop where
 chk : chk l us N = true
 le : i ≤ l.length
 keys : ∀ j du, lk fs j = some du → j < i
 has : ∀ j, j < i → ∃ du, lk fs j = some du
 vc : ∀ r hs, vs[r]? = some hs → ∀ p v, hs.reverse[p]? = some v → ∀ x ∈ C.X, (∀ s s', C.E x s s' → v s = v s') ∨ ∃ j, j < i ∧ (∃ q, q < p ∧ writes us r j = some q) ∧ (j = x ∨ nElem (infoOf us j).anc x = true)
 ob : ∀ F U V, (∀ j d u, lk fs j = some (d, u) → F j = d ∧ U j = u) → (∀ r hs, vs[r]? = some hs → ∀ q v, hs.reverse[q]? = some v → V r q = v) → ∀ j, j < i → ∀ o, l[j]? = some o → Ob P g N C us F U V j o
 os : ∀ t, match lk os t with | some d => ∃ j u, j < i ∧ dstOf l j = some t ∧ lk fs j = some (d, u) | none => ∀ j, j < i → dstOf l j ≠ some t
 cn : ∀ r hs, vs[r]? = some hs → hs.length = ((List.range i).countP fun j => (writes us r j).isSome) + 1
variable {fs : List (Nat × (σ → D) × (σ → D))} {vs vs' : List (List (σ → Res))} {os : List (Nat × (σ → D))} {i : Nat} {M : List Res}
theorem Acc.ctx_eq (h : Acc P l us g N C fs vs os i) (hi : i < l.length) {F U : Nat → σ → D} (hF : ∀ j d u, lk fs j = some (d, u) → F j = d ∧ U j = u) (s : σ) :
  ctx g F U (infoOf us i).need s = ctx g (lkF fs) (lkU fs) (infoOf us i).need s := by
 unfold ctx
 apply List.map_congr_left
 rintro ⟨t, src⟩ hp
 have hc := allLt_spec h.chk i hi
 simp only [Bool.and_eq_true] at hc
 have hn := List.all_eq_true.1 hc.1.1.1.1.2 _ hp
 cases src with
 | none => rfl
 | some ju =>
  obtain ⟨j, u⟩ := ju
  simp only [Bool.and_eq_true] at hn
  have hj := List.all_eq_true.1 hc.1.1.1.1.1 j (nElem_mem hn.1.1)
  simp only [Bool.and_eq_true, Nat.blt_eq] at hj
  obtain ⟨⟨d, e⟩, hlk⟩ := h.has j hj.1
  obtain ⟨h1, h2⟩ := hF j d e hlk
  cases u with
  | true => simp only [lkU, hlk, Option.map_some, Option.getD_some, h2]
  | false => simp only [lkF, hlk, Option.map_some, Option.getD_some, h1]
theorem Acc.next {o : Oper} {d u : σ → D} {os' : List (Nat × (σ → D))} (h : Acc P l us g N C fs vs os i) (hlo : l[i]? = some o)
  (hsuf : ∀ (r : Nat) hs, vs[r]? = some hs → ∃ pre, vs'[r]? = some (pre ++ hs))
  (hvc : ∀ (r : Nat) hs, vs'[r]? = some hs → ∀ (p : Nat) v, hs.reverse[p]? = some v → ∀ x ∈ C.X, (∀ s s', C.E x s s' → v s = v s') ∨ ∃ j, j < i + 1 ∧ (∃ q, q < p ∧ writes us r j = some q) ∧ (j = x ∨ nElem (infoOf us j).anc x = true))
  (hcn : ∀ (r : Nat) hs, vs'[r]? = some hs → hs.length = ((List.range (i + 1)).countP fun j => (writes us r j).isSome) + 1)
  (hos : os' = match o.dst with | some t => (t, d) :: os | none => os)
  (hob : ∀ F U V, (∀ j d u, lk fs j = some (d, u) → F j = d ∧ U j = u) → F i = d → U i = u → (∀ (r : Nat) hs, vs'[r]? = some hs → ∀ (q : Nat) v, hs.reverse[q]? = some v → V r q = v) → Ob P g N C us F U V i o) :
  Acc P l us g N C ((i, d, u) :: fs) vs' os' (i + 1) := by
 have hold : ∀ j, j < i → ∀ du, lk fs j = some du → lk ((i, d, u) :: fs) j = some du := fun j hj du he => by
  rw [lk_cons, if_neg (by omega)]; exact he
 refine ⟨h.chk, (List.getElem?_eq_some_iff.1 hlo).1, fun j du hj => ?_, fun j hj => ?_, hvc, fun F U V hF hV j hj o' hlo' => ?_, fun t => ?_, hcn⟩
 ·rw [lk_cons] at hj
  split at hj
  ·omega
  ·have := h.keys j du hj; omega
 ·by_cases hji : j = i
  ·subst hji; exact ⟨(d, u), by rw [lk_cons, if_pos rfl]⟩
  ·obtain ⟨du, he⟩ := h.has j (by omega)
   exact ⟨du, hold j (by omega) du he⟩
 ·have hFs : ∀ j d u, lk fs j = some (d, u) → F j = d ∧ U j = u := fun j d u he => hF j d u (hold j (h.keys j _ he) _ he)
  by_cases hji : j = i
  ·subst hji
   rw [hlo] at hlo'
   injection hlo' with hlo'
   subst hlo'
   obtain ⟨h1, h2⟩ := hF j d u (by rw [lk_cons, if_pos rfl])
   exact hob F U V hFs h1 h2 hV
  ·refine h.ob F U V hFs (fun r hs hr q v hq => ?_) j (by omega) o' hlo'
   obtain ⟨pre, hp⟩ := hsuf r hs hr
   refine hV r _ hp q v ?_
   rw [List.reverse_append, List.getElem?_append_left]
   ·exact hq
   ·exact (List.getElem?_eq_some_iff.1 hq).1
 ·have hdo : dstOf l i = o.dst := by simp [dstOf, hlo]
  have ht := h.os t
  subst hos
  cases hd : o.dst with
  | none =>
   simp only
   cases hk : lk os t with
   | none =>
    rw [hk] at ht
    simp only at ht ⊢
    intro j hj
    by_cases hji : j = i
    ·subst hji; rw [hdo, hd]; simp
    ·exact ht j (by omega)
   | some e =>
    rw [hk] at ht
    simp only at ht ⊢
    obtain ⟨j, u', h1, h2, h3⟩ := ht
    exact ⟨j, u', by omega, h2, hold j h1 _ h3⟩
  | some t' =>
   simp only
   rw [lk_cons]
   by_cases htt : t' = t
   ·subst htt
    rw [if_pos rfl]
    exact ⟨i, u, by omega, by rw [hdo, hd], by rw [lk_cons, if_pos rfl]⟩
   ·rw [if_neg htt]
    cases hk : lk os t with
    | none =>
     rw [hk] at ht
     simp only at ht ⊢
     intro j hj
     by_cases hji : j = i
     ·subst hji; rw [hdo, hd]; intro e; injection e with e; exact htt e
     ·exact ht j (by omega)
    | some e =>
     rw [hk] at ht
     simp only at ht ⊢
     obtain ⟨j, u', h1, h2, h3⟩ := ht
     exact ⟨j, u', by omega, h2, hold j h1 _ h3⟩
theorem countP_succ {p : Nat → Bool} {i : Nat} : (List.range (i + 1)).countP p = (List.range i).countP p + if p i then 1 else 0 := by
 rw [List.range_succ, List.countP_append, List.countP_singleton]
theorem Acc.same (h : Acc P l us g N C fs vs os i) (hw : ∀ r, writes us r i = none) :
  (∀ (r : Nat) hs, vs[r]? = some hs → ∃ pre, vs[r]? = some (pre ++ hs)) ∧
  (∀ (r : Nat) hs, vs[r]? = some hs → ∀ (p : Nat) v, hs.reverse[p]? = some v → ∀ x ∈ C.X, (∀ s s', C.E x s s' → v s = v s') ∨ ∃ j, j < i + 1 ∧ (∃ q, q < p ∧ writes us r j = some q) ∧ (j = x ∨ nElem (infoOf us j).anc x = true)) ∧
  (∀ (r : Nat) hs, vs[r]? = some hs → hs.length = ((List.range (i + 1)).countP fun j => (writes us r j).isSome) + 1) := by
 refine ⟨fun r hs hr => ⟨[], by simpa using hr⟩, fun r hs hr p v hp x hx => ?_, fun r hs hr => ?_⟩
 ·rcases h.vc r hs hr p v hp x hx with h1 | ⟨j, h1, h2⟩
  ·exact .inl h1
  ·exact .inr ⟨j, by omega, h2⟩
 ·rw [h.cn r hs hr, countP_succ, hw r]
  simp
theorem Acc.turn {r p : Nat} {v v' : σ → Res} {old : List (σ → Res)} (h : Acc P l us g N C fs vs os i) (hu : (infoOf us i).use = some (r, p, true)) (hv : vs[r]? = some (v :: old)) (hp : old.length = p)
  (hc : ∀ x ∈ C.X, (∀ s s', C.E x s s' → v' s = v' s') ∨ i = x ∨ nElem (infoOf us i).anc x = true) :
  (∀ (r' : Nat) hs, vs[r']? = some hs → ∃ pre, (vs.set r (v' :: v :: old))[r']? = some (pre ++ hs)) ∧
  (∀ (r' : Nat) hs, (vs.set r (v' :: v :: old))[r']? = some hs → ∀ (p : Nat) v, hs.reverse[p]? = some v → ∀ x ∈ C.X, (∀ s s', C.E x s s' → v s = v s') ∨ ∃ j, j < i + 1 ∧ (∃ q, q < p ∧ writes us r' j = some q) ∧ (j = x ∨ nElem (infoOf us j).anc x = true)) ∧
  (∀ (r' : Nat) hs, (vs.set r (v' :: v :: old))[r']? = some hs → hs.length = ((List.range (i + 1)).countP fun j => (writes us r' j).isSome) + 1) := by
 have hlt : r < vs.length := (List.getElem?_eq_some_iff.1 hv).1
 refine ⟨fun r' hs hr => ?_, fun r' hs hr q u hq x hx => ?_, fun r' hs hr => ?_⟩
 ·by_cases hrr : r = r'
  ·subst hrr
   rw [hv] at hr
   injection hr with hr
   subst hr
   exact ⟨[v'], by simp [hlt]⟩
  ·exact ⟨[], by rw [List.getElem?_set_ne hrr]; simpa using hr⟩
 ·by_cases hrr : r = r'
  ·subst hrr
   simp only [List.getElem?_set_self hlt, Option.some.injEq] at hr
   subst hr
   rw [List.reverse_cons] at hq
   by_cases hql : q < (v :: old).reverse.length
   ·rw [List.getElem?_append_left hql] at hq
    rcases h.vc r _ hv q u hq x hx with h1 | ⟨j, h1, h2⟩
    ·exact .inl h1
    ·exact .inr ⟨j, by omega, h2⟩
   ·rw [List.getElem?_append_right (by omega)] at hq
    have hq0 : q - (v :: old).reverse.length = 0 := by
     have := (List.getElem?_eq_some_iff.1 hq).1
     simp at this
     simp
     omega
    rw [hq0] at hq
    simp at hq
    subst hq
    rcases hc x hx with hc | hc
    ·exact .inl hc
    ·exact .inr ⟨i, by omega, ⟨p, by simp at hql; omega, writes_of hu⟩, hc⟩
  ·rw [List.getElem?_set_ne hrr] at hr
   rcases h.vc r' _ hr q u hq x hx with h1 | ⟨j, h1, h2⟩
   ·exact .inl h1
   ·exact .inr ⟨j, by omega, h2⟩
 ·by_cases hrr : r = r'
  ·subst hrr
   simp only [List.getElem?_set_self hlt, Option.some.injEq] at hr
   subst hr
   have := h.cn r _ hv
   rw [countP_succ, writes_of hu]
   simp only [List.length_cons, Option.isSome_some, if_true] at this ⊢
   omega
  ·rw [List.getElem?_set_ne hrr] at hr
   rw [h.cn r' hs hr, countP_succ, writes_other hu (Ne.symm hrr)]
   simp
def DR (P : Program) (f : FuncId) (N : Nat) (I0 : Imm) (R : Goal) (g : G) (M : List Res) (l : List Oper) (us : List Info) (C : Ch σ) (id : Nat) (k : List Item)
  (fs : List (Nat × (σ → D) × (σ → D))) (vs : List (List (σ → Res))) (os : List (Nat × (σ → D))) (i : Nat) (rest : List Oper) (urest : List Info) : Prop :=
 l.drop i = rest → us.drop i = urest → Acc P l us g N C fs vs os i → Run P f N I0 R g M (.code (.region id l.toArray true) :: k)
theorem drop_cons {β : Type} {l : List β} {i : Nat} {o : β} {rest : List β} (h : l.drop i = o :: rest) : l[i]? = some o ∧ l.drop (i + 1) = rest := by
 constructor
 ·have : (l.drop i)[0]? = some o := by rw [h]; rfl
  simpa using this
 ·have : (l.drop i).drop 1 = rest := by rw [h]; rfl
  rwa [List.drop_drop] at this
theorem info_of_drop {u : Info} {urest : List Info} (h : us.drop i = u :: urest) : infoOf us i = u := by
 simp [infoOf, (drop_cons h).1]
variable {id : Nat} {rest : List Oper} {urest : List Info} {dst : Tmp} {op : Op} {ty : TypeId} {pos : String} {after : Array Edge} {need : List (Nat × Option (Nat × Bool))} {anc : List Nat} {d : σ → D}
theorem dr_pure (hix : nElem C.X i = false) (hc : AllX C.X fun x => nElem anc x = true ∨ ∀ s s', C.E x s s' → d s = d s')
  (h : ∀ s, C.good anc s → ∀ M, LocP P ⟨some dst, op, ty, pos, after, none⟩ (ctx g (lkF fs) (lkU fs) need s) N M (d s))
  (next : DR P f N I0 R g M l us C id k ((i, d, d) :: fs) vs ((dst, d) :: os) (i + 1) rest urest) :
  DR P f N I0 R g M l us C id k fs vs os i (⟨some dst, op, ty, pos, after, none⟩ :: rest) (⟨need, anc, none⟩ :: urest) := by
 intro hl hus hacc
 obtain ⟨hlo, hl2⟩ := drop_cons hl
 have hi : i < l.length := (List.getElem?_eq_some_iff.1 hlo).1
 have hinf := info_of_drop hus
 have hu : (infoOf us i).use = none := by rw [hinf]
 obtain ⟨s1, s2, s3⟩ := hacc.same fun r => writes_none (r := r) hu
 refine next hl2 (drop_cons hus).2 (hacc.next hlo s1 s2 s3 rfl fun F U V hF h1 h2 hV => ?_)
 have hne : i ∉ C.X := nElem_not hix
 refine .pure rfl hu hne ?_ fun s hs M => ?_
 ·rw [hinf, h1]; exact hc.all
 ·rw [hacc.ctx_eq hi hF, h1, hinf]
  exact h s (by rw [hinf] at hs; exact hs) M
theorem dr_read {r p : Nat} {v : σ → Res} {old : List (σ → Res)} (hix : nElem C.X i = false) (hv : vs[r]? = some (v :: old)) (hp : old.length = p) (hc : AllX C.X fun x => nElem anc x = true ∨ ∀ s s', C.E x s s' → d s = d s')
  (h : ∀ s, C.good anc s → ∀ M, In (v s) M → LocP P ⟨some dst, op, ty, pos, after, none⟩ (ctx g (lkF fs) (lkU fs) need s) N M (d s))
  (next : DR P f N I0 R g M l us C id k ((i, d, d) :: fs) vs ((dst, d) :: os) (i + 1) rest urest) :
  DR P f N I0 R g M l us C id k fs vs os i (⟨some dst, op, ty, pos, after, none⟩ :: rest) (⟨need, anc, some (r, p, false)⟩ :: urest) := by
 intro hl hus hacc
 obtain ⟨hlo, hl2⟩ := drop_cons hl
 have hi : i < l.length := (List.getElem?_eq_some_iff.1 hlo).1
 have hinf := info_of_drop hus
 have hu : (infoOf us i).use = some (r, p, false) := by rw [hinf]
 obtain ⟨s1, s2, s3⟩ := hacc.same fun r => writes_read (r' := r) hu
 refine next hl2 (drop_cons hus).2 (hacc.next hlo s1 s2 s3 rfl fun F U V hF h1 h2 hV => ?_)
 have hne : i ∉ C.X := nElem_not hix
 have hVr : V r p = v := hV r _ hv p v (by subst hp; simp)
 refine .read r p rfl hu hne ?_ fun s hs M => ?_
 ·rw [hinf, h1]; exact hc.all
 ·rw [hacc.ctx_eq hi hF, h1, hinf, hVr]
  exact h s (by rw [hinf] at hs; exact hs) M
theorem dr_write {r p : Nat} {v v' : σ → Res} {old : List (σ → Res)} (hix : nElem C.X i = false) (hv : vs[r]? = some (v :: old)) (hp : old.length = p) (hc : AllX C.X fun x => nElem anc x = true ∨ ∀ s s', C.E x s s' → d s = d s' ∧ v' s = v' s')
  (h : ∀ s, C.good anc s → LocM P ⟨some dst, op, ty, pos, after, none⟩ (ctx g (lkF fs) (lkU fs) need s) N [v s] (fun _ : Unit => True) (fun _ => d s) (fun _ => [v' s]))
  (next : DR P f N I0 R g M l us C id k ((i, d, d) :: fs) (vs.set r (v' :: v :: old)) ((dst, d) :: os) (i + 1) rest urest) :
  DR P f N I0 R g M l us C id k fs vs os i (⟨some dst, op, ty, pos, after, none⟩ :: rest) (⟨need, anc, some (r, p, true)⟩ :: urest) := by
 intro hl hus hacc
 obtain ⟨hlo, hl2⟩ := drop_cons hl
 have hi : i < l.length := (List.getElem?_eq_some_iff.1 hlo).1
 have hinf := info_of_drop hus
 have hu : (infoOf us i).use = some (r, p, true) := by rw [hinf]
 have hlt : r < vs.length := (List.getElem?_eq_some_iff.1 hv).1
 obtain ⟨s1, s2, s3⟩ := hacc.turn (v' := v') hu hv hp (fun x hx => by
  rcases hc.all x hx with hc | hc
  ·exact .inr (.inr (by rw [hinf]; exact hc))
  ·exact .inl fun s s' he => (hc s s' he).2)
 refine next hl2 (drop_cons hus).2 (hacc.next hlo s1 s2 s3 rfl fun F U V hF h1 h2 hV => ?_)
 have hne : i ∉ C.X := nElem_not hix
 have hVr : V r p = v := hV r _ (by rw [List.getElem?_set_self hlt]) p v (by subst hp; simp)
 have hVr' : V r (p + 1) = v' := hV r _ (by rw [List.getElem?_set_self hlt]) (p + 1) v' (by subst hp; simp)
 refine .write r p rfl hu hne ?_ fun s hs => ?_
 ·rw [hinf, h1, hVr']; exact hc.all
 ·rw [hacc.ctx_eq hi hF, h1, hinf, hVr, hVr']
  exact h s (by rw [hinf] at hs; exact hs)
theorem dr_write0 {r p : Nat} {v v' : σ → Res} {old : List (σ → Res)} (hix : nElem C.X i = false) (hv : vs[r]? = some (v :: old)) (hp : old.length = p) (hc : AllX C.X fun x => nElem anc x = true ∨ ∀ s s', C.E x s s' → v' s = v' s')
  (h : ∀ s, C.good anc s → LocM P ⟨none, op, ty, pos, after, none⟩ (ctx g (lkF fs) (lkU fs) need s) N [v s] (fun _ : Unit => True) (fun _ => dTop) (fun _ => [v' s]))
  (next : DR P f N I0 R g M l us C id k ((i, (fun _ => dTop), (fun _ => dTop)) :: fs) (vs.set r (v' :: v :: old)) os (i + 1) rest urest) :
  DR P f N I0 R g M l us C id k fs vs os i (⟨none, op, ty, pos, after, none⟩ :: rest) (⟨need, anc, some (r, p, true)⟩ :: urest) := by
 intro hl hus hacc
 obtain ⟨hlo, hl2⟩ := drop_cons hl
 have hi : i < l.length := (List.getElem?_eq_some_iff.1 hlo).1
 have hinf := info_of_drop hus
 have hu : (infoOf us i).use = some (r, p, true) := by rw [hinf]
 have hlt : r < vs.length := (List.getElem?_eq_some_iff.1 hv).1
 obtain ⟨s1, s2, s3⟩ := hacc.turn (v' := v') hu hv hp (fun x hx => by
  rcases hc.all x hx with hc | hc
  ·exact .inr (.inr (by rw [hinf]; exact hc))
  ·exact .inl hc)
 refine next hl2 (drop_cons hus).2 (hacc.next hlo s1 s2 s3 rfl fun F U V hF h1 h2 hV => ?_)
 have hne : i ∉ C.X := nElem_not hix
 have hVr : V r p = v := hV r _ (by rw [List.getElem?_set_self hlt]) p v (by subst hp; simp)
 have hVr' : V r (p + 1) = v' := hV r _ (by rw [List.getElem?_set_self hlt]) (p + 1) v' (by subst hp; simp)
 refine .write r p rfl hu hne ?_ fun s hs => ?_
 ·rw [hinf, h1, hVr']
  intro x hx
  rcases hc.all x hx with hc | hc
  ·exact .inl hc
  ·exact .inr fun s s' he => ⟨rfl, hc s s' he⟩
 ·rw [hacc.ctx_eq hi hF, h1, hinf, hVr, hVr']
  exact h s (by rw [hinf] at hs; exact hs)
theorem dr_choose {r p : Nat} {v v' : σ → Res} {old : List (σ → Res)} (hix : nElem C.X i = true) (hv : vs[r]? = some (v :: old)) (hp : old.length = p)
  (hc : AllX C.X fun x => x = i ∨ nElem anc x = true ∨ ∀ s s', C.E x s s' → d s = d s' ∧ v' s = v' s')
  (h : ∀ s, C.good anc s → LocM P ⟨some dst, op, ty, pos, after, none⟩ (ctx g (lkF fs) (lkU fs) need s) N (v s :: C.own s) (fun s' => C.Φ i s' ∧ C.E i s s') (fun s' => d s') (fun s' => v' s' :: C.own s'))
  (next : DR P f N I0 R g M l us C id k ((i, d, d) :: fs) (vs.set r (v' :: v :: old)) ((dst, d) :: os) (i + 1) rest urest) :
  DR P f N I0 R g M l us C id k fs vs os i (⟨some dst, op, ty, pos, after, none⟩ :: rest) (⟨need, anc, some (r, p, true)⟩ :: urest) := by
 intro hl hus hacc
 obtain ⟨hlo, hl2⟩ := drop_cons hl
 have hi : i < l.length := (List.getElem?_eq_some_iff.1 hlo).1
 have hinf := info_of_drop hus
 have hu : (infoOf us i).use = some (r, p, true) := by rw [hinf]
 have hlt : r < vs.length := (List.getElem?_eq_some_iff.1 hv).1
 have hxe : i ∈ C.X := nElem_mem hix
 obtain ⟨s1, s2, s3⟩ := hacc.turn (v' := v') hu hv hp (fun x hx => by
  rcases hc.all x hx with hc | hc | hc
  ·exact .inr (.inl hc.symm)
  ·exact .inr (.inr (by rw [hinf]; exact hc))
  ·exact .inl fun s s' he => (hc s s' he).2)
 refine next hl2 (drop_cons hus).2 (hacc.next hlo s1 s2 s3 rfl fun F U V hF h1 h2 hV => ?_)
 have hVr : V r p = v := hV r _ (by rw [List.getElem?_set_self hlt]) p v (by subst hp; simp)
 have hVr' : V r (p + 1) = v' := hV r _ (by rw [List.getElem?_set_self hlt]) (p + 1) v' (by subst hp; simp)
 refine .choose r p rfl hu hxe ?_ fun s hs => ?_
 ·rw [hinf, h1, hVr']
  intro x hx hne
  rcases hc.all x hx with hc | hc
  ·exact absurd hc hne
  ·exact hc
 ·rw [hacc.ctx_eq hi hF, h1, hinf, hVr, hVr']
  exact h s (by rw [hinf] at hs; exact hs)
theorem dr_gpure {j : Nat} {want : Bool} {dg : σ → D} {c : σ → Prop} (hix : nElem C.X i = false) (hg : (lk fs j).map (·.1) = some dg) (hgd : ∀ s, guardD want (dg s) (c s)) (hc : AllX C.X fun x => nElem anc x = true ∨ ∀ s s', C.E x s s' → dIf (c s) (d s) = dIf (c s') (d s'))
  (h : ∀ s, C.good anc s → c s → ∀ M, LocP P ⟨some dst, op, ty, pos, after, some (j, want)⟩ (ctx g (lkF fs) (lkU fs) need s) N M (d s))
  (next : DR P f N I0 R g M l us C id k ((i, (fun s => dIf (c s) (d s)), d) :: fs) vs ((dst, (fun s => dIf (c s) (d s))) :: os) (i + 1) rest urest) :
  DR P f N I0 R g M l us C id k fs vs os i (⟨some dst, op, ty, pos, after, some (j, want)⟩ :: rest) (⟨need, anc, none⟩ :: urest) := by
 intro hl hus hacc
 obtain ⟨hlo, hl2⟩ := drop_cons hl
 have hi : i < l.length := (List.getElem?_eq_some_iff.1 hlo).1
 have hinf := info_of_drop hus
 have hu : (infoOf us i).use = none := by rw [hinf]
 obtain ⟨s1, s2, s3⟩ := hacc.same fun r => writes_none (r := r) hu
 refine next hl2 (drop_cons hus).2 (hacc.next hlo s1 s2 s3 rfl fun F U V hF h1 h2 hV => ?_)
 have hne : i ∉ C.X := nElem_not hix
 have hFj : F j = dg := by
  cases hk : lk fs j with
  | none => rw [hk] at hg; cases hg
  | some du => rw [hk] at hg; injection hg with hg; rw [← hg]; exact (hF j du.1 du.2 hk).1
 refine .gpure j want c rfl hu hne ?_ (fun s => by rw [h1, h2]) (fun s => by rw [hFj]; exact hgd s) fun s hs hcs M => ?_
 ·rw [hinf, h1]; exact hc.all
 ·rw [hacc.ctx_eq hi hF, h2, hinf]
  exact h s (by rw [hinf] at hs; exact hs) hcs M
theorem dr_gread {r p : Nat} {v : σ → Res} {old : List (σ → Res)} {j : Nat} {want : Bool} {dg : σ → D} {c : σ → Prop} (hix : nElem C.X i = false) (hv : vs[r]? = some (v :: old)) (hp : old.length = p) (hg : (lk fs j).map (·.1) = some dg) (hgd : ∀ s, guardD want (dg s) (c s)) (hc : AllX C.X fun x => nElem anc x = true ∨ ∀ s s', C.E x s s' → dIf (c s) (d s) = dIf (c s') (d s'))
  (h : ∀ s, C.good anc s → c s → ∀ M, In (v s) M → LocP P ⟨some dst, op, ty, pos, after, some (j, want)⟩ (ctx g (lkF fs) (lkU fs) need s) N M (d s))
  (next : DR P f N I0 R g M l us C id k ((i, (fun s => dIf (c s) (d s)), d) :: fs) vs ((dst, (fun s => dIf (c s) (d s))) :: os) (i + 1) rest urest) :
  DR P f N I0 R g M l us C id k fs vs os i (⟨some dst, op, ty, pos, after, some (j, want)⟩ :: rest) (⟨need, anc, some (r, p, false)⟩ :: urest) := by
 intro hl hus hacc
 obtain ⟨hlo, hl2⟩ := drop_cons hl
 have hi : i < l.length := (List.getElem?_eq_some_iff.1 hlo).1
 have hinf := info_of_drop hus
 have hu : (infoOf us i).use = some (r, p, false) := by rw [hinf]
 obtain ⟨s1, s2, s3⟩ := hacc.same fun r => writes_read (r' := r) hu
 refine next hl2 (drop_cons hus).2 (hacc.next hlo s1 s2 s3 rfl fun F U V hF h1 h2 hV => ?_)
 have hne : i ∉ C.X := nElem_not hix
 have hVr : V r p = v := hV r _ hv p v (by subst hp; simp)
 have hFj : F j = dg := by
  cases hk : lk fs j with
  | none => rw [hk] at hg; cases hg
  | some du => rw [hk] at hg; injection hg with hg; rw [← hg]; exact (hF j du.1 du.2 hk).1
 refine .gread r p j want c rfl hu hne ?_ (fun s => by rw [h1, h2]) (fun s => by rw [hFj]; exact hgd s) fun s hs hcs M => ?_
 ·rw [hinf, h1]; exact hc.all
 ·rw [hacc.ctx_eq hi hF, h2, hinf, hVr]
  exact h s (by rw [hinf] at hs; exact hs) hcs M
class TyMix (P : Program) : Prop where
 eq : P.follows .mixedOrders = true
theorem dr_start (σ : Type) (C : Ch σ) (us : List Info) (rs : List Res) (M0 : List Res) (hM : M = rs ++ M0) (hchk : chk l us N = true)
  (h : DR P f N I0 R g M l us C id k [] (rs.map fun r => [fun _ : σ => r]) [] 0 l us) : Run P f N I0 R g M (.code (.region id l.toArray true) :: k) := by
 refine h rfl rfl ⟨hchk, Nat.zero_le _, fun j du h => by simp [lk] at h, fun j h => by omega, fun r hs hr p v hp x hx => ?_, fun F U V _ _ j hj => by omega, fun t => by simp only [lk]; intro j hj; omega, fun r hs hr => ?_⟩
 ·left
  simp only [List.getElem?_map, Option.map_eq_some_iff] at hr
  obtain ⟨r0, _, rfl⟩ := hr
  intro s s' _
  cases p with
  | zero => simp at hp; subst hp; rfl
  | succ p => simp at hp
 ·simp only [List.getElem?_map, Option.map_eq_some_iff] at hr
  obtain ⟨r0, _, rfl⟩ := hr
  simp
def lastV (hs : List (σ → Res)) (s : σ) : Res := (hs.headD fun _ => rNone) s
theorem dr_end [hmix : TyMix P] {M0 rs : List Res} (s0 : σ) (hM : M = rs ++ (C.own s0 ++ M0)) (hfirst : ∀ s : σ, vs.map (fun hs => (hs.reverse.headD fun _ => rNone) s) = rs) (hxn : ∀ x ∈ C.X, x < l.length)
  (hchk : (allLt l.length fun i => chkPred l i && chkRes us vs.length i) = true)
  (h : ∀ s, (∀ x ∈ C.X, C.Φ x s) → Run P f N I0 R (os.map (fun p => (p.1, p.2 s)) ++ g) (vs.map (fun hs => lastV hs s) ++ (C.own s ++ M0)) k) :
  DR P f N I0 R g M l us C id k fs vs os i [] [] := by
 intro hl hus hacc
 have hil : l.length ≤ i := by
  have := congrArg List.length hl
  simp at this
  omega
 let V : Nat → Nat → σ → Res := fun r p s => (((vs[r]?).bind fun hs => hs.reverse[p]?).map (· s)).getD rNone
 have hF : ∀ j d u, lk fs j = some (d, u) → lkF fs j = d ∧ lkU fs j = u := by
  intro j d u he
  constructor <;> funext s <;> simp [lkF, lkU, he]
 have hV : ∀ (r : Nat) hs, vs[r]? = some hs → ∀ (q : Nat) v, hs.reverse[q]? = some v → V r q = v := by
  intro r hs hr q v hq
  funext s
  simp only [V, hr, Option.bind_some, hq, Option.map_some, Option.getD_some]
 have W : Whole P l us g N C vs.length (lkF fs) (lkU fs) V := by
  refine ⟨hacc.chk, fun j hj => ?_, fun j hj => ?_, fun j o hlo => hacc.ob _ _ V hF hV j (by have := (List.getElem?_eq_some_iff.1 hlo).1; omega) o hlo, fun r p x hx => ?_⟩
  ·have := allLt_spec hchk j hj
   simp only [Bool.and_eq_true] at this
   exact this.1
  ·have := allLt_spec hchk j hj
   simp only [Bool.and_eq_true] at this
   exact this.2
  ·cases hr : vs[r]? with
   | none => left; intro s s' _; simp [V, hr]
   | some hs =>
    cases hp : hs.reverse[p]? with
    | none => left; intro s s' _; simp only [V, hr, Option.bind_some, hp]; rfl
    | some v =>
     rcases hacc.vc r hs hr p v hp x hx with h1 | ⟨j, h1, h2, h3⟩
     ·left; intro s s' he; simp only [V, hr, Option.bind_some, hp, Option.map_some, Option.getD_some]; exact h1 s s' he
     ·right
      obtain ⟨q, hq, hw⟩ := h2
      have hjl : j < l.length := by have := hacc.le; omega
      exact ⟨j, hjl, ⟨q, hq, hw⟩, h3⟩
 have hrev : ∀ (r : Nat) hs, vs[r]? = some hs → 0 < hs.length := fun r hs hr => by rw [hacc.cn r hs hr]; omega
 refine run_whole hmix.eq W hxn s0 (M0 := M0) ?_ fun s hφ I a w b cs hb hk hl0 hmid hi => ?_
 ·rw [hM, ← hfirst s0]
  congr 1
  apply List.ext_getElem?
  intro r
  simp only [List.getElem?_map]
  by_cases hr : r < vs.length
  ·rw [List.getElem?_range hr]
   have hvr : vs[r]? = some vs[r] := by simp [hr]
   rw [hvr]
   simp only [Option.map_some, Option.some.injEq, V, hvr, Option.bind_some]
   have := hrev r _ hvr
   cases hx : (vs[r]).reverse with
   | nil => simp at hx; rw [hx] at this; simp at this
   | cons v t => simp
  ·have h1 : vs[r]? = none := List.getElem?_eq_none (by omega)
   have h2 : (List.range vs.length)[r]? = none := List.getElem?_eq_none (by simp; omega)
   rw [h1, h2]
   rfl
 ·have hres : resAt l.length vs.length us V (fun _ => true) s = vs.map (fun hs => lastV hs s) := by
   unfold resAt
   apply List.ext_getElem?
   intro r
   simp only [List.getElem?_map]
   by_cases hr : r < vs.length
   ·rw [List.getElem?_range hr]
    have hvr : vs[r]? = some vs[r] := by simp [hr]
    rw [hvr]
    simp only [Option.map_some, Option.some.injEq]
    have hcn : cnt l.length us (fun _ => true) r = (vs[r]).length - 1 := by
     have := hacc.cn r _ hvr
     unfold cnt
     simp only [Bool.true_and]
     have hil' : i = l.length := by have := hacc.le; omega
     rw [hil'] at this
     omega
    rw [hcn]
    simp only [V, hvr, Option.bind_some, lastV]
    have hpos := hrev r _ hvr
    cases hx : vs[r] with
    | nil => rw [hx] at hpos; simp at hpos
    | cons v t => simp
   ·have h1 : vs[r]? = none := List.getElem?_eq_none (by omega)
    have h2 : (List.range vs.length)[r]? = none := List.getElem?_eq_none (by simp; omega)
    rw [h1, h2]
    rfl
  rw [hres] at hi
  refine (h s hφ).go I a w b cs hb hk hl0 ⟨hmid.size, hmid.defers, fun t d ht => ?_⟩ hi
  have hos := hacc.os t
  have hlk : ∀ (os : List (Nat × (σ → D))), look (os.map (fun p => (p.1, p.2 s)) ++ g) t = match lk os t with | some d => some (d s) | none => look g t := by
   intro os
   induction os with
   | nil => rfl
   | cons p os ih =>
    obtain ⟨t', d'⟩ := p
    rw [List.map_cons, List.cons_append, look_cons, lk_cons]
    by_cases htt : t' = t
    ·simp [htt]
    ·simp only [if_neg htt]
     exact ih
  rw [hlk os] at ht
  cases hk : lk os t with
  | none =>
   rw [hk] at ht hos
   exact hmid.left t d ht fun j hj _ => hos j (by have := hacc.le; omega)
  | some d' =>
   rw [hk] at ht hos
   simp only at ht hos
   injection ht with ht
   subst ht
   obtain ⟨j, u, h1, h2, h3⟩ := hos
   have := hmid.done j t (by have := hacc.le; omega) rfl h2
   rw [(hF j d' u h3).1] at this
   exact this
end
end Go.Q
