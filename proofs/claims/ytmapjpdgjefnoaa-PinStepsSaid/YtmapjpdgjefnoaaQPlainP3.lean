/- What the statements about pins lean on; plain mathematics, no program. -/
import Derived.Test.YtmapjpdgjefnoaaQPlainP2
set_option linter.unusedVariables false
set_option linter.unusedSimpArgs false
namespace Go.Q
open Classical

theorem pub_eq {p : Pins} {v : Int} (h : okPins p) (hv : newestP p < v ∧ v ≤ 2147483646) : pubE p v = if 16 ≤ p.kept.length then 4 else 0 := by
  unfold pubE
  rw [if_neg (Classical.not_not.2 h), if_neg (by omega)]
theorem pub_P {p : Pins} {v : Int} (h : pubE p v = 0) : pubP p v = ⟨p.rows, p.kept ++ [v]⟩ := if_pos h
theorem pub_err {p : Pins} {v : Int} (h : pubE p v ≠ 0) : pubP p v = p := if_neg h
theorem newest_snoc (r : List Pn) (l : List Int) (v : Int) : newestP ⟨r, l ++ [v]⟩ = v := by
  unfold newestP
  simp
theorem open_eq {p : Pins} {u : Int} (h : okPins p) (hu : 0 ≤ u) (ht : ¬ thereP p u) : openE p u = if 64 ≤ p.rows.length then 4 else 0 := by
  unfold openE
  rw [if_neg (Classical.not_not.2 h), if_neg (by omega), if_neg ht]
theorem open_P {p : Pins} {u : Int} (h : openE p u = 0) : openP p u = ⟨p.rows.take (atP p u) ++ [⟨u, newestP p⟩] ++ p.rows.drop (atP p u), p.kept⟩ := if_pos h
theorem open_V {p : Pins} {u : Int} (h : openE p u = 0) : openV p u = newestP p := if_pos h
theorem open_perm {p : Pins} {u : Int} (h : openE p u = 0) : (openP p u).rows.Perm (⟨u, newestP p⟩ :: p.rows) := by
  rw [open_P h]
  simp only [List.append_assoc, List.singleton_append]
  refine List.perm_middle.trans ?_
  rw [List.take_append_drop]
theorem open_len {p : Pins} {u : Int} (h : openE p u = 0) : (openP p u).rows.length = p.rows.length + 1 := by rw [(open_perm h).length_eq]; rfl
theorem open_mem {p : Pins} {u : Int} (h : openE p u = 0) {r : Pn} : r ∈ (openP p u).rows ↔ r = ⟨u, newestP p⟩ ∨ r ∈ p.rows := by rw [(open_perm h).mem_iff, List.mem_cons]
theorem open_kept {p : Pins} {u : Int} : (openP p u).kept = p.kept := by unfold openP; split <;> rfl
theorem close_kept {p : Pins} {u : Int} : (closeP p u).kept = p.kept := by unfold closeP; split <;> rfl
theorem close_eq {p : Pins} {u : Int} (h : okPins p) : closeE p u = 0 ↔ thereP p u := by
  unfold closeE
  rw [if_neg (Classical.not_not.2 h)]
  split <;> simp [*]
theorem close_ne {p : Pins} {u : Int} (h : closeE p u ≠ 0) : closeP p u = p := if_neg h
theorem newest_kept {a b : Pins} (h : a.kept = b.kept) : newestP a = newestP b := by unfold newestP; rw [h]

/-- Sessions are told apart. -/
theorem sess_inj {p : Pins} (h : okPins p) {a b : Pn} (ha : a ∈ p.rows) (hb : b ∈ p.rows) (e : a.session = b.session) : a = b := by
  obtain ⟨i, hi⟩ := List.getElem?_of_mem ha
  obtain ⟨j, hj⟩ := List.getElem?_of_mem hb
  have hil := (List.getElem?_eq_some_iff.1 hi).1
  have hjl := (List.getElem?_eq_some_iff.1 hj).1
  rcases Nat.lt_trichotomy i j with c | c | c
  · have := rows_lt h.rows j hjl i c; rw [hi, hj] at this; simp only [Option.getD_some] at this; omega
  · subst c; rw [hi] at hj; injection hj
  · have := rows_lt h.rows i hil j c; rw [hi, hj] at this; simp only [Option.getD_some] at this; omega

theorem close_P {p : Pins} {u : Int} (h : closeE p u = 0) : closeP p u = ⟨p.rows.take (atP p u) ++ p.rows.drop (atP p u + 1), p.kept⟩ := if_pos h

theorem close_perm {p : Pins} {u : Int} (h : okPins p) (hc : closeE p u = 0) : ∃ r ∈ p.rows, r.session = u ∧ p.rows.Perm (r :: (closeP p u).rows) := by
  obtain ⟨h1, h2⟩ := there_at h ((close_eq h).1 hc)
  refine ⟨p.rows[atP p u]?.getD default, by rw [List.getElem?_eq_getElem h1]; exact List.getElem_mem .., h2, ?_⟩
  rw [close_P hc]
  conv => lhs; rw [← List.take_append_drop (atP p u) p.rows, drop_cons' h1]
  exact List.perm_middle

theorem close_mem {p : Pins} {u : Int} (h : okPins p) (hc : closeE p u = 0) {r : Pn} : r ∈ (closeP p u).rows ↔ r ∈ p.rows ∧ r.session ≠ u := by
  obtain ⟨r0, h1, h2, h3⟩ := close_perm h hc
  have hnd : (r0 :: (closeP p u).rows).Nodup := by
    refine h3.nodup_iff.1 ?_
    have := (rowsP_iff.1 h.rows).asc
    exact this.imp fun hab e => by rw [e] at hab; omega
  rw [List.nodup_cons] at hnd
  constructor
  · intro hm
    have hp := h3.mem_iff.2 (List.mem_cons_of_mem _ hm)
    refine ⟨hp, fun e => ?_⟩
    have := sess_inj h hp h1 (by omega)
    subst this
    exact hnd.1 hm
  · rintro ⟨hm, hne⟩
    rcases List.mem_cons.1 (h3.mem_iff.1 hm) with rfl | hm
    · exact absurd h2 hne
    · exact hm

theorem cntP_perm {α : Type} (q : α → Prop) {xs ys : List α} (h : xs.Perm ys) : cntP q xs = cntP q ys := by
  induction h with
  | nil => rfl
  | cons x _ ih => simp only [cntP, ih]
  | swap x y l => simp only [cntP]; omega
  | trans _ _ ih1 ih2 => exact ih1.trans ih2

theorem named_open {p : Pins} {u v : Int} (h : openE p u = 0) : namedP (openP p u) v = namedP p v + if newestP p = v then 1 else 0 := by
  unfold namedP
  rw [cntP_perm _ (open_perm h)]
  simp only [cntP]
  by_cases e : newestP p = v <;> simp [e] <;> omega

theorem named_close {p : Pins} {u v : Int} (h : okPins p) (hc : closeE p u = 0) {r0 : Pn} (hr : r0 ∈ p.rows) (hs : r0.session = u) : namedP p v = namedP (closeP p u) v + if r0.version = v then 1 else 0 := by
  obtain ⟨r, h1, h2, h3⟩ := close_perm h hc
  have : r = r0 := sess_inj h h1 hr (by omega)
  subst this
  unfold namedP
  rw [cntP_perm _ h3]
  simp only [cntP]
  by_cases e : r.version = v <;> simp [e] <;> omega

/-- The numbers of sessions add up. -/
noncomputable def sumNamed (p : Pins) : List Int → Nat
  | [] => 0
  | v :: l => namedP p v + sumNamed p l
theorem sumNamed_take {p : Pins} {l : List Int} {k : Nat} (h : k < l.length) : sumNamed p (l.take (k + 1)) = sumNamed p (l.take k) + namedP p (l[k]?.getD default) := by
  have app : ∀ a b : List Int, sumNamed p (a ++ b) = sumNamed p a + sumNamed p b := by
    intro a b
    induction a with
    | nil => simp [sumNamed]
    | cons x a ih => simp only [List.cons_append, sumNamed, ih]; omega
  rw [take_snoc h, app]
  simp [sumNamed]
theorem sum_all {p : Pins} (h : okPins p) : sumNamed p p.kept = p.rows.length := by
  have key : ∀ (l : List Int) (rows : List Pn), l.Pairwise (· < ·) → (∀ r ∈ rows, r.version ∈ l) → (l.map fun v => cntP (fun r : Pn => r.version = v) rows).sum = rows.length := by
    intro l rows hl hr
    induction rows with
    | nil =>
      induction l with
      | nil => rfl
      | cons v l ih => simp [cntP] at ih ⊢; exact ih (List.pairwise_cons.1 hl).2
    | cons r rows ih =>
      have h1 := ih (fun x hx => hr x (List.mem_cons_of_mem _ hx))
      have h2 := hr r (List.mem_cons_self ..)
      have one : ∀ l : List Int, l.Pairwise (· < ·) → (l.map fun v => if r.version = v then 1 else 0).sum = if r.version ∈ l then 1 else 0 := by
        intro l
        induction l with
        | nil => intro _; simp
        | cons v l ih =>
          intro hp
          rw [List.pairwise_cons] at hp
          simp only [List.map_cons, List.sum_cons, ih hp.2, List.mem_cons]
          by_cases e : r.version = v
          · have : r.version ∉ l := fun hm => by have := hp.1 _ hm; omega
            simp [e, e ▸ this]
          · simp [e]
      have h3 := one l hl
      rw [if_pos h2] at h3
      have h4 : ∀ l : List Int, (l.map fun v => cntP (fun r : Pn => r.version = v) (r :: rows)).sum = (l.map fun v => if r.version = v then 1 else 0).sum + (l.map fun v => cntP (fun r : Pn => r.version = v) rows).sum := by
        intro l
        induction l with
        | nil => rfl
        | cons v l ih =>
          simp only [List.map_cons, List.sum_cons, cntP] at ih ⊢
          rw [ih]
          by_cases e : r.version = v <;> simp [e] <;> omega
      rw [h4, h3, h1, List.length_cons]
      omega
  have : ∀ l, sumNamed p l = (l.map fun v => cntP (fun r : Pn => r.version = v) p.rows).sum := by
    intro l
    induction l with
    | nil => rfl
    | cons v l ih => simp only [sumNamed, ih, List.map_cons, List.sum_cons]; rfl
  rw [this]
  exact key _ _ (keptP_iff.1 h.kept).asc (rowsP_iff.1 h.rows).mem
theorem sum_le (p : Pins) : ∀ l : List Int, sumNamed p l ≤ l.length * p.rows.length
  | [] => by simp [sumNamed]
  | v :: l => by
    have h1 := sum_le p l
    have h2 : namedP p v ≤ p.rows.length := cntP_le _ _
    simp only [sumNamed, List.length_cons, Nat.add_mul]
    omega

/-- What stays of a row that is filtered, and what goes. -/
theorem flt_split {α : Type} (q : α → Prop) : ∀ l : List α, (flt q l).length + (flt (fun x => ¬ q x) l).length = l.length
  | [] => rfl
  | x :: l => by
    have := flt_split q l
    simp only [flt]
    by_cases h : q x <;> simp [h] <;> omega
theorem coll_len (p : Pins) : (collP p).kept.length + (goneP p).length = p.kept.length := by
  unfold collP goneP
  have := flt_split (goesP p) p.kept
  simp only
  omega
theorem coll_named (p : Pins) (v : Int) : namedP (collP p) v = namedP p v := rfl

/-- Collecting again drops nothing. -/
theorem coll_goes {p : Pins} (h : okPins p) (v : Int) : goesP (collP p) v ↔ goesP p v := by
  unfold goesP
  rw [coll_newest h, coll_named]
theorem gone_again {p : Pins} (h : okPins p) : goneP (collP p) = [] := by
  unfold goneP
  refine flt_none fun v hv hc => ?_
  exact (mem_flt.1 hv).2 ((coll_goes h v).1 hc)
theorem coll_again {p : Pins} (h : okPins p) : collP (collP p) = collP p := by
  have : flt (fun v => ¬ goesP (collP p) v) (collP p).kept = (collP p).kept := flt_all fun v hv hc => (mem_flt.1 hv).2 ((coll_goes h v).1 hc)
  show (⟨(collP p).rows, flt (fun v => ¬ goesP (collP p) v) (collP p).kept⟩ : Pins) = collP p
  rw [this]

/-- Nobody is left: one version is. -/
theorem coll_one {p : Pins} (h : okPins p) (hr : p.rows = []) : (collP p).kept = [newestP p] := by
  have hk := keptP_iff.1 h.kept
  have hg : ∀ v, goesP p v ↔ v ≠ newestP p := fun v => by
    unfold goesP namedP
    rw [hr]
    simp [cntP]
  have key : ∀ l : List Int, l.Pairwise (· < ·) → newestP p ∈ l → flt (fun v => ¬ goesP p v) l = [newestP p] := by
    intro l
    induction l with
    | nil => intro _ h; cases h
    | cons v l ih =>
      intro hp hm
      rw [List.pairwise_cons] at hp
      simp only [flt]
      rcases List.mem_cons.1 hm with e | hm
      · rw [if_pos (fun hc => (hg v).1 hc e.symm)]
        rw [flt_none (fun x hx hc => by have := hp.1 x hx; exact hc ((hg x).2 (by omega))), e]
      · rw [if_neg (fun hc => hc ((hg v).2 (by have := hp.1 _ hm; omega)))]
        exact ih hp.2 hm
  exact key _ hk.asc (newest_mem h)

theorem pub_rows (p : Pins) (v : Int) : (pubP p v).rows = p.rows := by unfold pubP; split <;> rfl
theorem pub_newest (p : Pins) (v : Int) : newestP (pubP p v) = v ∨ newestP (pubP p v) = newestP p := by
  unfold pubP
  split
  · exact .inl (newest_snoc ..)
  · exact .inr rfl
theorem open_any {p : Pins} {u : Int} {r : Pn} (h : r ∈ (openP p u).rows) : r ∈ p.rows ∨ r.session = u := by
  by_cases e : openE p u = 0
  · rcases (open_mem e).1 h with rfl | h
    · exact .inr rfl
    · exact .inl h
  · rw [openP, if_neg e] at h; exact .inl h
theorem close_any {p : Pins} {u : Int} {r : Pn} (h : r ∈ (closeP p u).rows) : r ∈ p.rows := by
  unfold closeP at h
  split at h
  · rcases List.mem_append.1 h with h | h
    · exact List.mem_of_mem_take h
    · exact List.mem_of_mem_drop h
  · exact h

/-- Few sessions, few rows. -/
theorem rows_few {p : Pins} (h : okPins p) {m : Int} (hm : ∀ r ∈ p.rows, r.session < m) : (p.rows.length : Int) ≤ max m 0 := by
  have key : ∀ j, j < p.rows.length → (j : Int) ≤ (p.rows[j]?.getD default).session := by
    intro j
    induction j with
    | zero => intro hj; have := (h.rows 0 hj).1; omega
    | succ j ih =>
      intro hj
      have h1 := ih (by omega)
      have h2 := (h.rows (j + 1) hj).2.1 (by omega)
      rw [Nat.add_sub_cancel] at h2
      omega
  by_cases e : p.rows.length = 0
  · omega
  · have h1 := key (p.rows.length - 1) (by omega)
    have h2 := hm (p.rows[p.rows.length - 1]?.getD default) (by rw [List.getElem?_eq_getElem (by omega)]; exact List.getElem_mem ..)
    omega

theorem kept_max {p : Pins} (h : okPins p) {v : Int} (hv : v ∈ p.kept) : v ≤ newestP p := by
  obtain ⟨i, hi⟩ := List.getElem?_of_mem hv
  have hil := (List.getElem?_eq_some_iff.1 hi).1
  unfold newestP
  by_cases e : i = p.kept.length - 1
  · subst e; rw [hi]; exact Int.le_refl _
  · have := kept_lt h.kept (p.kept.length - 1) (by omega) i (by omega)
    rw [hi] at this
    simp only [Option.getD_some] at this
    omega
theorem named_pub (p : Pins) (v u : Int) : namedP (pubP p v) u = namedP p u := by unfold namedP; rw [pub_rows]
theorem named_new {p : Pins} (h : okPins p) {v : Int} (hv : newestP p < v) : namedP p v = 0 := by
  unfold namedP
  rw [cntP_zero]
  intro r hr e
  have := kept_max h ((rowsP_iff.1 h.rows).mem r hr)
  omega

theorem pinNames_end {p : Pins} (hok : okPins p) (ho : openE p 50 = 0) (hf : pubE (openP p 50) (newestP p + 1) = 0) (hn2 : newestP (openP p 50) = newestP p) (ho3 : openE (pubP (openP p 50) (newestP p + 1)) 51 = 0)
    (hn3 : newestP (pubP (openP p 50) (newestP p + 1)) = newestP p + 1) (hok4 : okPins (openP (pubP (openP p 50) (newestP p + 1)) 51)) :
    closeE (openP (pubP (openP p 50) (newestP p + 1)) 51) 50 = 0 ∧ namedP (openP (pubP (openP p 50) (newestP p + 1)) 51) (newestP p + 1) = 1 ∧
    namedP (closeP (openP (pubP (openP p 50) (newestP p + 1)) 51) 50) (newestP p) = namedP p (newestP p) := by
  have hm : (⟨50, newestP p⟩ : Pn) ∈ (openP (pubP (openP p 50) (newestP p + 1)) 51).rows := by
    rw [open_mem ho3, pub_rows, open_mem ho]
    exact .inr (.inl rfl)
  have hc := (close_eq hok4).2 ⟨_, hm, rfl⟩
  refine ⟨hc, ?_, ?_⟩
  · rw [named_open ho3, hn3, if_pos rfl, named_pub, named_open ho, if_neg (by omega), named_new hok (by omega)]
  · have h1 := named_close (u := 50) (v := newestP p) hok4 hc hm rfl
    rw [if_pos rfl, named_open ho3, hn3, if_neg (by omega), named_pub, named_open ho, if_pos rfl] at h1
    omega

theorem pinColl_b {p : Pins} (h : okPins p) {j : Nat} (hj : j < (collP p).kept.length) (h1 : (j : Int) + 1 < (collP p).kept.length) (h0 : (namedP (collP p) ((collP p).kept[j]?.getD default) : Int) = 0) : False := by
  have hok := coll_ok h
  have hm : (collP p).kept[j]?.getD default ∈ (collP p).kept := by rw [List.getElem?_eq_getElem hj]; exact List.getElem_mem ..
  refine (mem_flt.1 hm).2 ⟨fun e => ?_, by rw [coll_named] at h0; omega⟩
  rw [← coll_newest h, newest_eq hok hj] at e
  omega
theorem pinColl_c {p r : Pins} {i : Nat} (h : okPins r) (hr : r.rows = p.rows.drop i) (hi : i < p.rows.length) : closeE r (p.rows[i]?.getD default).session = 0 ∧ (closeP r (p.rows[i]?.getD default).session).rows = p.rows.drop (i + 1) := by
  have hcons := drop_cons' hi
  have h0 : 0 < r.rows.length := by rw [hr, List.length_drop]; omega
  have hg : r.rows[0]?.getD default = p.rows[i]?.getD default := by rw [hr, List.getElem?_drop, Nat.add_zero]
  have ha := atP_of h h0 (congrArg Pn.session hg)
  have hc := (close_eq h).2 ha.2
  refine ⟨hc, ?_⟩
  rw [close_P hc, ha.1]
  simp only [List.take_zero, List.nil_append, Nat.zero_add]
  rw [hr, List.drop_drop]

/-- A list that has, for each of six sessions, the version that it names, or 0. -/
structure NamesOk (p : Pins) (l : List Int) : Prop where
  len : l.length = 6
  sess : ∀ r ∈ p.rows, r.session < 6
  has : ∀ r ∈ p.rows, l[r.session.toNat]?.getD default = r.version
  no : ∀ k : Nat, k < 6 → ¬ thereP p k → l[k]?.getD default = 0

theorem names_of {p q : Pins} {l : List Int} (h : NamesOk p l) (e : q.rows = p.rows) : NamesOk q l :=
  ⟨h.len, by rw [e]; exact h.sess, by rw [e]; exact h.has, fun k hk hn => h.no k hk (fun hc => hn (by unfold thereP at hc ⊢; rw [e]; exact hc))⟩
theorem names_gt {p : Pins} {l : List Int} (hp : okPins p) (h : NamesOk p l) {u : Int} (hu : 0 ≤ u ∧ u < 6) : 0 < l[u.toNat]?.getD default ↔ thereP p u := by
  constructor
  · intro h0
    refine Classical.byContradiction fun hn => ?_
    have := h.no u.toNat (by omega) (by rwa [show ((u.toNat : Nat) : Int) = u by omega])
    omega
  · rintro ⟨r, hr, rfl⟩
    rw [h.has r hr]
    have := (rowsP_iff.1 hp.rows).mem r hr
    have := ((keptP_iff.1 hp.kept).bd _ this).1
    omega
theorem names_zero {p : Pins} {l : List Int} (hp : okPins p) (h : NamesOk p l) {u : Int} (hu : 0 ≤ u ∧ u < 6) : l[u.toNat]?.getD default = 0 ↔ ¬ thereP p u := by
  rw [← names_gt hp h hu]
  constructor
  · intro h0; omega
  · intro h0
    by_cases c : thereP p u
    · exact absurd ((names_gt hp h hu).2 c) h0
    · have := h.no u.toNat (by omega) (by rwa [show ((u.toNat : Nat) : Int) = u by omega])
      exact this
theorem getD_set_ne {α : Type} [Inhabited α] {l : List α} {i j : Nat} {x : α} (h : i ≠ j) : (l.set i x)[j]?.getD default = l[j]?.getD default := by rw [List.getElem?_set_ne h]
theorem getD_set_self {α : Type} [Inhabited α] {l : List α} {i : Nat} {x : α} (h : i < l.length) : (l.set i x)[i]?.getD default = x := by rw [List.getElem?_set_self h]; rfl
theorem names_close {p : Pins} {l : List Int} (hp : okPins p) (h : NamesOk p l) {u : Int} (hu : 0 ≤ u ∧ u < 6) : NamesOk (closeP p u) (l.set u.toNat 0) := by
  have hl := h.len
  have hrow : ∀ r ∈ (closeP p u).rows, r ∈ p.rows ∧ r.session ≠ u := by
    intro r hr
    by_cases e : closeE p u = 0
    · exact (close_mem hp e).1 hr
    · refine ⟨close_any hr, fun he => e ((close_eq hp).2 ⟨r, close_any hr, he⟩)⟩
  refine ⟨by simpa using hl, fun r hr => h.sess r (hrow r hr).1, fun r hr => ?_, fun k hk hn => ?_⟩
  · obtain ⟨h1, h2⟩ := hrow r hr
    have h3 := h.sess r h1
    have h4 := (rowsP_iff.1 hp.rows).nonneg r h1
    rw [getD_set_ne (by omega)]
    exact h.has r h1
  · by_cases e : u.toNat = k
    · subst e; rw [getD_set_self (by omega)]
    · rw [getD_set_ne e]
      refine h.no k hk fun ⟨r, hr, he⟩ => hn ?_
      by_cases c : closeE p u = 0
      · exact ⟨r, (close_mem hp c).2 ⟨hr, by omega⟩, he⟩
      · rw [close_ne c]; exact ⟨r, hr, he⟩
theorem names_open {p : Pins} {l : List Int} (hp : okPins p) (h : NamesOk p l) {u : Int} (hu : 0 ≤ u ∧ u < 6) (ho : openE p u = 0) (ht : ¬ thereP p u) : NamesOk (openP p u) (l.set u.toNat (newestP p)) := by
  have hl := h.len
  refine ⟨by simpa using hl, fun r hr => ?_, fun r hr => ?_, fun k hk hn => ?_⟩
  · rcases (open_mem ho).1 hr with rfl | hr
    · exact hu.2
    · exact h.sess r hr
  · rcases (open_mem ho).1 hr with rfl | hr
    · rw [getD_set_self (by omega)]
    · have h3 := h.sess r hr
      have h4 := (rowsP_iff.1 hp.rows).nonneg r hr
      have h5 : r.session ≠ u := fun e => ht ⟨r, hr, e⟩
      rw [getD_set_ne (by omega)]
      exact h.has r hr
  · have hne : u.toNat ≠ k := fun e => hn ⟨⟨u, newestP p⟩, (open_mem ho).2 (.inl rfl), by simp only; omega⟩
    rw [getD_set_ne hne]
    exact h.no k hk fun ⟨r, hr, he⟩ => hn ⟨r, (open_mem ho).2 (.inr hr), he⟩
theorem names_keep {p : Pins} {l : List Int} (hp : okPins p) (h : NamesOk p l) {a : Nat} (ha : a < l.length) : l[a]?.getD default = 0 ∨ ∃ j, j < p.kept.length ∧ p.kept[j]?.getD default = l[a]?.getD default := by
  have hl := h.len
  by_cases c : thereP p (a : Int)
  · obtain ⟨r, hr, he⟩ := c
    have h1 := h.has r hr
    rw [he] at h1
    simp only [Int.toNat_natCast] at h1
    have h2 := (rowsP_iff.1 hp.rows).mem r hr
    obtain ⟨j, hj⟩ := List.getElem?_of_mem h2
    refine .inr ⟨j, (List.getElem?_eq_some_iff.1 hj).1, ?_⟩
    rw [hj, h1]; rfl
  · exact .inl (h.no a (by omega) c)
theorem names_new (v : Int) : NamesOk (newP v) (List.replicate 6 0) := by
  have hr : (newP v).rows = [] := by unfold newP; split <;> rfl
  refine ⟨by simp, fun r h => (by rw [hr] at h; cases h), fun r h => (by rw [hr] at h; cases h), fun k hk _ => ?_⟩
  rw [List.getElem?_replicate, if_pos hk]; rfl
theorem names_few {p : Pins} {l : List Int} (hp : okPins p) (h : NamesOk p l) : p.rows.length ≤ 6 := by
  have := rows_few hp h.sess
  omega

theorem openE_there {p : Pins} {u : Int} (h : okPins p) (hu : 0 ≤ u) (ht : thereP p u) : openE p u = 7 := by
  unfold openE
  rw [if_neg (Classical.not_not.2 h), if_neg (by omega), if_pos ht]

/-- The chapter's example. -/
theorem sane39 : newE 1 = 0 ∧ openE (newP 1) 4 = 0 ∧ pubE (openP (newP 1) 4) 2 = 0 ∧ pubE (pubP (openP (newP 1) 4) 2) 3 = 0 ∧ openV (newP 1) 4 = 1 ∧ goneP (pubP (pubP (openP (newP 1) 4) 2) 3) = [2] ∧
    namedP (collP (pubP (pubP (openP (newP 1) 4) 2) 3)) 1 = 1 ∧ okPins (collP (pubP (pubP (openP (newP 1) 4) 2) 3)) := by
  have e1 : newE 1 = 0 := by unfold newE; rw [if_neg (by omega)]
  have n1 : newP 1 = ⟨[], [1]⟩ := by unfold newP; rw [if_neg (by omega)]
  have h1 : okPins (newP 1) := new_ok e1
  have e2 : openE (newP 1) 4 = 0 := by
    rw [open_eq h1 (by omega) (by rw [n1]; rintro ⟨r, hr, _⟩; cases hr), n1]
    simp
  have h2 := open_ok (u := 4) h1
  have n2 : openP (newP 1) 4 = ⟨[⟨4, 1⟩], [1]⟩ := by rw [open_P e2, n1]; simp [atP, lead, newestP]
  have e3 : pubE (openP (newP 1) 4) 2 = 0 := by rw [pub_eq h2 (by rw [n2]; simp [newestP]), n2]; simp
  have h3 := pub_ok (v := 2) h2
  have n3 : pubP (openP (newP 1) 4) 2 = ⟨[⟨4, 1⟩], [1, 2]⟩ := by rw [pub_P e3, n2]; simp
  have e4 : pubE (pubP (openP (newP 1) 4) 2) 3 = 0 := by rw [pub_eq h3 (by rw [n3]; simp [newestP]), n3]; simp
  have h4 := pub_ok (v := 3) h3
  have n4 : pubP (pubP (openP (newP 1) 4) 2) 3 = ⟨[⟨4, 1⟩], [1, 2, 3]⟩ := by rw [pub_P e4, n3]; simp
  refine ⟨e1, e2, e3, e4, by rw [open_V e2, n1]; rfl, ?_, ?_, coll_ok h4⟩
  · rw [n4]
    simp [goneP, flt, goesP, newestP, namedP, cntP]
  · rw [coll_named, n4]
    simp [namedP, cntP]

end Go.Q
