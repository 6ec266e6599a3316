/- Servers that answer queries, word by word: no program in sight. -/
import Derived.Test.YtjcbhnlcbdmlfaaQServer6
set_option linter.unusedVariables false
set_option linter.unusedSimpArgs false
namespace Go.Q
open Classical

/-- The table with a later number. -/
def numT (t : Tab) (c : Nat) : Tab := ⟨t.number + c, t.p, t.width, t.rows⟩
noncomputable def versA (s : Schm) (id : Int) (t : Tab) (c : Nat) : List Held := (List.range c).map fun i => heldT s id (numT t i)
noncomputable def vA (s : Schm) (id : Int) (t : Tab) (c : Nat) (jobs : List Job) : Srv := ⟨id, s, True, versA s id t c, jobs⟩
def jobL (n : Int) : Nat → List (List Int) → List Job
  | _, [] => []
  | m, q :: qs => ⟨m, 0, n, q, []⟩ :: jobL n (m + 1) qs
theorem jobL_snoc (n : Int) (q : List Int) : ∀ (qs : List (List Int)) (m : Nat), jobL n m qs ++ [⟨(m + qs.length : Nat), 0, n, q, []⟩] = jobL n m (qs ++ [q])
  | [], m => by simp [jobL]
  | x :: qs, m => by
    have := jobL_snoc n q qs (m + 1)
    simp only [jobL, List.cons_append, ← this, List.length_cons]
    rw [show m + 1 + qs.length = m + (qs.length + 1) by omega]
theorem jobL_mem {n : Int} : ∀ {qs : List (List Int)} {m : Nat} {j : Job}, j ∈ jobL n m qs → j.read < (m + qs.length : Nat) ∧ j.version = n ∧ j.query ∈ qs ∧ j.got = []
  | [], m, j, h => by cases h
  | q :: qs, m, j, h => by
    rcases List.mem_cons.1 h with rfl | h
    · exact ⟨by simp only [List.length_cons]; omega, rfl, List.mem_cons_self .., rfl⟩
    · obtain ⟨h1, h2, h3, h4⟩ := jobL_mem h
      exact ⟨by simp only [List.length_cons]; omega, h2, List.mem_cons_of_mem _ h3, h4⟩
theorem jobL_len (n : Int) : ∀ (qs : List (List Int)) (m : Nat), (jobL n m qs).length = qs.length
  | [], _ => rfl
  | q :: qs, m => by simp [jobL, jobL_len n qs]
theorem jobL_drop (n : Int) {qs : List (List Int)} {m : Nat} (h : m < qs.length) : jobL n m (qs.drop m) = ⟨m, 0, n, qs[m]?.getD default, []⟩ :: jobL n (m + 1) (qs.drop (m + 1)) := by
  rw [List.drop_eq_getElem_cons h]; simp [jobL, h]
/-- What an honest server holds. -/
structure OkA (s : Schm) (id : Int) (t : Tab) : Prop where
  ht : checkT t = 0
  hn : t.number ≤ 1000
  hv : validS s t.p
  hr : 1 ≤ t.rows.length
  hid : 1 ≤ id ∧ id ≤ s.servers
theorem numT_ok {t : Tab} (h : checkT t = 0) (hn : t.number ≤ 1000) {c : Nat} (hc : c ≤ 1000) : checkT (numT t c) = 0 := by
  have h1 := checkT_ok h
  exact checkT_zero (t := numT t c) ⟨by show 1 ≤ t.number + c; omega, by show t.number + c < 2147483647; omega⟩ h1.2.1 h1.2.2.1 h1.2.2.2.1 h1.2.2.2.2
theorem hld_num {s : Schm} {t : Tab} {id : Int} {c : Nat} (o : OkA s id t) (hc : c ≤ 1000) : hldL s (numT t c) id = hldL s t id := by
  unfold hldL
  rw [if_neg (hld_no (numT_ok o.ht o.hn hc) (show validS s (numT t c).p from o.hv) o.hid), if_neg (hld_no o.ht o.hv o.hid)]
  rfl
theorem versA_len (s : Schm) (id : Int) (t : Tab) (c : Nat) : (versA s id t c).length = c := by simp [versA]
theorem versA_num {s : Schm} {id : Int} {t : Tab} (o : OkA s id t) {c i : Nat} (hc : c ≤ 1000) (hi : i < c) : ((versA s id t c)[i]?.getD default) = heldT s id (numT t i) := by
  unfold versA; rw [List.getElem?_map, List.getElem?_range hi]; rfl
theorem vA_at {s : Schm} {id : Int} {t : Tab} (o : OkA s id t) {c : Nat} (hc : 1 ≤ c ∧ c ≤ 1000) (jobs : List Job) : atV (vA s id t c jobs) t.number = 0 ∧ thereV (vA s id t c jobs) t.number ∧ heldV (vA s id t c jobs) t.number = heldT s id t := by
  have g : ∀ i, i < c → (heldT s id (numT t i)).head.number = t.number + i := fun i hi => heldT_number (numT_ok o.ht o.hn (by omega))
  have e : atV (vA s id t c jobs) t.number = 0 := atV_at (Nat.zero_le _) (fun a ha => by omega) (fun a _ hb => by
    have hb' : a < c := by have := versA_len s id t c; exact this ▸ hb
    show t.number ≤ ((versA s id t c)[a]?.getD default).head.number
    rw [versA_num o hc.2 hb', g a hb']; omega)
  have e0 : numT t 0 = t := by unfold numT; simp
  have e1 : (vA s id t c jobs).versions[0]?.getD default = heldT s id t := by
    show (versA s id t c)[0]?.getD default = _
    rw [versA_num o hc.2 (by omega), e0]
  refine ⟨e, ⟨?_, ?_⟩, ?_⟩
  · rw [e]; show 0 < (versA s id t c).length; rw [versA_len]; omega
  · rw [e, e1]; exact cmpI_zero.2 (heldT_number o.ht)
  · unfold heldV; rw [e, e1]
theorem vA_load {s : Schm} {id : Int} {t : Tab} (o : OkA s id t) {c : Nat} (hc : c ≤ 14) (jobs : List Job) : loadE (vA s id t c jobs) (numT t c) = 0 ∧ loadV (vA s id t c jobs) (numT t c) = vA s id t (c + 1) jobs := by
  obtain ⟨e1, e2⟩ := load_ins (v := vA s id t c jobs) (t := numT t c) (vs1 := versA s id t c) (vs2 := []) trivial (numT_ok o.ht o.hn (by omega)) o.hv o.hr o.hid (by rw [List.append_nil]; rfl) (by show (versA s id t c).length < 16; rw [versA_len]; omega) (fun h hh => by
    obtain ⟨i, hi, rfl⟩ := List.mem_map.1 hh
    have := List.mem_range.1 hi
    rw [heldT_number (numT_ok o.ht o.hn (by omega))]
    show t.number + i < t.number + c
    omega) (fun h hh => by cases hh)
  refine ⟨e1, e2.trans ?_⟩
  unfold vA versA
  rw [List.range_succ, List.map_append]
  rfl
theorem heldA_ok {s : Schm} {id : Int} {t : Tab} (o : OkA s id t) {c : Nat} (hc : c ≤ 1000) : okHeld (heldT s id (numT t c)) := by
  have h1 := checkT_ok (numT_ok o.ht o.hn hc)
  have h2 := hld_sz (t := numT t c) o.hv (numT_ok o.ht o.hn hc) o.hr o.hid
  have h3 := checkT_ok o.ht
  have hrow : ∀ r ∈ hldL s (numT t c) id, (r.length : Int) = t.width ∧ allP t.p r := by
    intro r hr
    rw [hld_num o hc] at hr
    unfold hldL at hr
    rw [if_neg (hld_no o.ht o.hv o.hid)] at hr
    split at hr
    · unfold holdG at hr
      split at hr
      · obtain ⟨q, _, rfl⟩ := List.mem_map.1 hr
        unfold heldG
        obtain ⟨h4, h5⟩ := heldN_ok h3.2.1.1 id t.width.toNat q.2 q.2.length
        exact ⟨by rw [h4]; have := h3.2.2.1; omega, h5⟩
      · cases hr
    · exact h3.2.2.2.2 r hr
  unfold heldT
  rw [head_ok (numT_ok o.ht o.hn hc)]
  exact ⟨h3.2.1, h3.2.2.1, h2.1, hrow⟩
theorem heldA_eq {s : Schm} {id : Int} {t : Tab} (o : OkA s id t) : okHeld (heldT s id t) ∧ (heldT s id t).rows = hldL s t id ∧ (heldT s id t).head.p = t.p ∧ (heldT s id t).head.width = t.width := by
  have h := heldA_ok o (c := 0) (by omega)
  have e0 : numT t 0 = t := by unfold numT; simp
  rw [e0] at h
  exact ⟨h, rfl, by unfold heldT; rw [head_ok o.ht], by unfold heldT; rw [head_ok o.ht]⟩
/-- A query that fits. -/
def okQ (s : Schm) (id : Int) (t : Tab) (q : List Int) : Prop := q.length = (hldL s t id).length ∧ allP t.p q
theorem vA_ok {s : Schm} {id : Int} {t : Tab} (o : OkA s id t) {c : Nat} (hc : 1 ≤ c ∧ c ≤ 16) {jobs : List Job} (hl : jobs.length ≤ 32) (hj : ∀ j ∈ jobs, j.version = t.number ∧ okQ s id t j.query ∧ (j.got.length : Int) < t.width ∧ allP t.p j.got) : okSrv (vA s id t c jobs) := by
  obtain ⟨h1, h2, h3⟩ := vA_at o (c := c) (by omega) jobs
  obtain ⟨g1, g2, g3, g4⟩ := heldA_eq o
  refine ⟨by show (versA s id t c).length ≤ 16; rw [versA_len]; omega, hl, fun h hh => ?_, fun i j hij hj' => ?_, fun j hjm => ?_⟩
  · obtain ⟨i, hi, rfl⟩ := List.mem_map.1 hh
    exact heldA_ok o (by have := List.mem_range.1 hi; omega)
  · have hj2 : j < c := by have := versA_len s id t c; exact this ▸ hj'
    show ((versA s id t c)[i]?.getD default).head.number < ((versA s id t c)[j]?.getD default).head.number
    rw [versA_num o (by omega) (by omega), versA_num o (by omega) hj2, heldT_number (numT_ok o.ht o.hn (by omega)), heldT_number (numT_ok o.ht o.hn (by omega))]
    show t.number + i < t.number + j
    omega
  · obtain ⟨a1, a2, a3, a4⟩ := hj j hjm
    unfold okJob
    rw [a1, h3, g2, g3, g4]
    exact ⟨h2, a2.1, a2.2, a3, a4⟩
theorem vA_sz {s : Schm} {id : Int} {t : Tab} (o : OkA s id t) {c : Nat} (hc : c ≤ 16) {jobs : List Job} (hl : jobs.length ≤ 32) (hj : ∀ j ∈ jobs, j.query.length ≤ 100000 ∧ j.got.length ≤ 100000) : (vA s id t c jobs).versions.length ≤ 1000 ∧ (vA s id t c jobs).jobs.length ≤ 1000 ∧ (∀ h ∈ (vA s id t c jobs).versions, h.rows.length ≤ 100000 ∧ ∀ r ∈ h.rows, r.length ≤ 100000) ∧ ∀ j ∈ (vA s id t c jobs).jobs, j.query.length ≤ 100000 ∧ j.got.length ≤ 100000 := by
  refine ⟨by show (versA s id t c).length ≤ 1000; rw [versA_len]; omega, by show jobs.length ≤ 1000; omega, fun h hh => ?_, hj⟩
  obtain ⟨i, hi, rfl⟩ := List.mem_map.1 hh
  have hi' := List.mem_range.1 hi
  obtain ⟨b1, b2⟩ := hld_sz (t := numT t i) o.hv (numT_ok o.ht o.hn (by omega)) o.hr o.hid
  exact ⟨Nat.le_trans b1 (by omega), fun r hr => Nat.le_trans (b2 r hr) (by omega)⟩
theorem vA_ask {s : Schm} {id : Int} {t : Tab} (o : OkA s id t) {qs : List (List Int)} {q : List Int} (hl : qs.length < 32) (hq : okQ s id t q) :
    askE (vA s id t 1 (jobL t.number 0 qs)) ⟨1, (qs.length : Nat), 0, id, t.number, q, [], 0⟩ = 0 ∧ askV (vA s id t 1 (jobL t.number 0 qs)) ⟨1, (qs.length : Nat), 0, id, t.number, q, [], 0⟩ = vA s id t 1 (jobL t.number 0 (qs ++ [q])) := by
  obtain ⟨h1, h2, h3⟩ := vA_at o (c := 1) (by omega) (jobL t.number 0 qs)
  obtain ⟨g1, g2, g3, g4⟩ := heldA_eq o
  have e : askE (vA s id t 1 (jobL t.number 0 qs)) ⟨1, (qs.length : Nat), 0, id, t.number, q, [], 0⟩ = 0 := by
    unfold askE
    rw [if_neg (Classical.not_not.2 (show (vA s id t 1 (jobL t.number 0 qs)).up from trivial)), if_neg (by rintro (h | h); (· exact h rfl); (· exact h rfl)), if_neg (Classical.not_not.2 h2), h3, g2, g3,
      if_neg (by rintro (h | h); (· exact h hq.1); (· exact h ⟨g3 ▸ g1.1, hq.2⟩)),
      if_neg (by
        rintro ⟨b, hb, h4, _⟩
        have := (jobL_mem hb).1
        simp only at h4
        omega),
      if_neg (by show ¬ (jobL t.number 0 qs).length ≥ 32; rw [jobL_len]; omega)]
  refine ⟨e, ?_⟩
  unfold askV
  rw [if_pos e]
  unfold vA
  have := jobL_snoc t.number q qs 0
  rw [Nat.zero_add] at this
  rw [← this]
end Go.Q

namespace Go.Q
open Classical

def jA (n : Int) (m : Nat) (q got : List Int) : Job := ⟨m, 0, n, q, got⟩
noncomputable def wantA (s : Schm) (id : Int) (t : Tab) (q : List Int) : List Int := combN t.p t.width.toNat (hldL s t id) q (hldL s t id).length
theorem want_len {s : Schm} {id : Int} {t : Tab} (o : OkA s id t) (q : List Int) : (wantA s id t q).length = t.width.toNat ∧ ∀ x ∈ wantA s id t q, hasP t.p x := combN_ok (checkT_ok o.ht).2.1.1 _ _ _ _
theorem word_val {s : Schm} {id : Int} {t : Tab} (o : OkA s id t) {q : List Int} {m i : Nat} (hi : (i : Int) < t.width) : wordX (heldT s id t) (jA t.number m q ((wantA s id t q).take i)) 0 = (wantA s id t q)[i]?.getD default := by
  obtain ⟨g1, g2, g3, g4⟩ := heldA_eq o
  have hp := (checkT_ok o.ht).2.1
  have hl := (want_len o q).1
  have hgl : ((wantA s id t q).take i).length = i := by rw [List.length_take]; omega
  have hr : ∀ r ∈ hldL s t id, r.length = t.width.toNat := fun r h => by
    have := (g1.2.2.2 r (by rw [g2]; exact h)).1
    rw [g4] at this; omega
  have h1 : (wantA s id t q)[i]?.getD default = dotK t.p i (hldL s t id) q (hldL s t id).length := combN_at hp.1 (by omega) _ (Nat.le_refl _) hr
  have hb : 0 ≤ dotK t.p i (hldL s t id) q (hldL s t id).length ∧ dotK t.p i (hldL s t id) q (hldL s t id).length < t.p := by
    generalize (hldL s t id).length = k
    cases k with
    | zero => exact ⟨Int.le_refl _, by have := hp.1; show (0 : Int) < t.p; omega⟩
    | succ k => exact mod_bd _ (by have := hp.1; omega)
  unfold wordX
  rw [h1]
  show (if ((wantA s id t q).take i).length = 0 then (dotK (heldT s id t).head.p ((wantA s id t q).take i).length (heldT s id t).rows q (heldT s id t).rows.length + 0 % (heldT s id t).head.p) % (heldT s id t).head.p else dotK (heldT s id t).head.p ((wantA s id t q).take i).length (heldT s id t).rows q (heldT s id t).rows.length) = _
  rw [hgl, g2, g3]
  split
  · rw [Int.zero_emod, Int.add_zero, Int.emod_eq_of_lt hb.1 hb.2]
  · rfl
theorem word_job {s : Schm} {id : Int} {t : Tab} (o : OkA s id t) {c : Nat} (hc : 1 ≤ c ∧ c ≤ 1000) {q : List Int} {m i : Nat} (hi : (i : Int) < t.width) (rest : List Job) :
    job1 (vA s id t c (jA t.number m q ((wantA s id t q).take i) :: rest)) 0 = jA t.number m q ((wantA s id t q).take (i + 1)) ∧ (moreV (vA s id t c (jA t.number m q ((wantA s id t q).take i) :: rest)) 0 ↔ (i : Int) + 1 < t.width) := by
  obtain ⟨h1, h2, h3⟩ := vA_at o hc (jA t.number m q ((wantA s id t q).take i) :: rest)
  obtain ⟨g1, g2, g3, g4⟩ := heldA_eq o
  have hl := (want_len o q).1
  have e1 : job1 (vA s id t c (jA t.number m q ((wantA s id t q).take i) :: rest)) 0 = jA t.number m q ((wantA s id t q).take (i + 1)) := by
    unfold job1
    show ({ jA t.number m q ((wantA s id t q).take i) with got := (wantA s id t q).take i ++ [wordX (heldV (vA s id t c (jA t.number m q ((wantA s id t q).take i) :: rest)) t.number) (jA t.number m q ((wantA s id t q).take i)) 0] } : Job) = _
    rw [h3, word_val o hi]
    have e : (wantA s id t q).take (i + 1) = (wantA s id t q).take i ++ [(wantA s id t q)[i]?.getD default] := by
      rw [List.take_add_one]; simp [show i < (wantA s id t q).length by omega]
    rw [e]; rfl
  refine ⟨e1, ?_⟩
  unfold moreV
  rw [e1]
  show (((wantA s id t q).take (i + 1)).length : Int) < (heldV (vA s id t c (jA t.number m q ((wantA s id t q).take i) :: rest)) t.number).head.width ↔ _
  rw [h3, g4, List.length_take]
  omega
theorem vA_word {s : Schm} {id : Int} {t : Tab} (o : OkA s id t) (hid : id ≤ 10) {c : Nat} (hc : 1 ≤ c ∧ c ≤ 1000) {q : List Int} (hq : okQ s id t q) {m i : Nat} (hi : (i : Int) < t.width) (rest : List Job) {v : Srv} (hv : v = vA s id t c (jA t.number m q ((wantA s id t q).take i) :: rest)) :
    wordE v ⟨id, 1000 + id⟩ 0 = 0 ∧ (wordR v ⟨id, 1000 + id⟩ 0 ↔ (i : Int) + 1 = t.width) ∧ ((i : Int) + 1 < t.width → wordV v ⟨id, 1000 + id⟩ 0 = vA s id t c (jA t.number m q ((wantA s id t q).take (i + 1)) :: rest)) ∧
    (¬ (i : Int) + 1 < t.width → wordV v ⟨id, 1000 + id⟩ 0 = vA s id t c rest) ∧ (wordR v ⟨id, 1000 + id⟩ 0 → (wordN v ⟨id, 1000 + id⟩ 0).values = wantA s id t q ∧ (wordN v ⟨id, 1000 + id⟩ 0).query = q ∧ (wordN v ⟨id, 1000 + id⟩ 0).server = id ∧ (wordN v ⟨id, 1000 + id⟩ 0).version = t.number ∧
      signE (1000 + id) (numsN (wordN v ⟨id, 1000 + id⟩ 0)) = 0 ∧ signM (1000 + id) (numsN (wordN v ⟨id, 1000 + id⟩ 0)) = (wordN v ⟨id, 1000 + id⟩ 0).mark) := by
  obtain ⟨e1, e2⟩ := word_job o hc hi rest (q := q) (m := m)
  rw [← hv] at e1 e2
  have hup : v.up := by rw [hv]; trivial
  have hjl : ¬ v.jobs.length = 0 := by rw [hv]; exact fun h => by cases h
  have hnn : ¬ (¬ v.up ∨ v.jobs.length = 0) := by rintro (h | h); (· exact h hup); (· exact hjl h)
  have hl := (want_len o q).1
  have hw := (checkT_ok o.ht).2.2.1
  have hid1 := o.hid.1
  obtain ⟨b1, _⟩ := hld_sz o.hv o.ht o.hr o.hid
  have hn1 : note1 v 0 = ⟨2, m, 0, id, t.number, q, (wantA s id t q).take (i + 1), 0⟩ := by unfold note1; rw [e1, hv]; rfl
  have hs : signE (1000 + id) (numsN (note1 v 0)) = 0 := by
    rw [hn1]
    unfold signE
    rw [if_neg (by omega), if_neg]
    unfold numsN
    simp only [List.length_append, List.length_cons, List.length_nil, List.length_take]
    have := hq.1
    omega
  refine ⟨?_, ?_, ?_, ?_, ?_⟩
  · unfold wordE; rw [if_neg (Classical.not_not.2 hup), if_neg hjl]; split; (· rfl); (· exact hs)
  · unfold wordR
    rw [e2]
    exact ⟨fun h => by have := h.2.2.1; omega, fun h => ⟨hup, hjl, by omega, hs⟩⟩
  · intro h
    unfold wordV; rw [if_neg hnn, if_pos (e2.2 h), e1, hv]; rfl
  · intro h
    unfold wordV; rw [if_neg hnn, if_neg (fun hc => h (e2.1 hc)), if_pos hs, hv]; rfl
  · intro hr
    have hi2 : ¬ (i : Int) + 1 < t.width := fun h => hr.2.2.1 (e2.2 h)
    have hN : wordN v ⟨id, 1000 + id⟩ 0 = { note1 v 0 with mark := signM (1000 + id) (numsN (note1 v 0)) } := by unfold wordN; rw [if_pos hr]
    have hnum : numsN (wordN v ⟨id, 1000 + id⟩ 0) = numsN (note1 v 0) := by rw [hN]; rfl
    rw [hnum, hN]
    refine ⟨?_, ?_, ?_, ?_, hs, rfl⟩
    · show (note1 v 0).values = _
      rw [hn1]; exact List.take_of_length_le (by omega)
    · show (note1 v 0).query = _
      rw [hn1]
    · show (note1 v 0).server = _
      rw [hn1]
    · show (note1 v 0).version = _
      rw [hn1]
theorem vA_done {s : Schm} {id : Int} {t : Tab} {c : Nat} {p : Psn} : wordE (vA s id t c []) p 0 = 6 ∧ (vA s id t c []).jobs.length = 0 := by
  refine ⟨?_, rfl⟩
  unfold wordE
  rw [if_neg (Classical.not_not.2 (show (vA s id t c []).up from trivial)), if_pos (show (vA s id t c []).jobs.length = 0 from rfl)]
theorem load0 {s : Schm} {id : Int} {t : Tab} (o : OkA s id t) : loadE ⟨id, s, True, [], []⟩ t = 0 ∧ loadV ⟨id, s, True, [], []⟩ t = vA s id t 1 [] := by
  obtain ⟨e1, e2⟩ := load_ins (v := ⟨id, s, True, [], []⟩) (t := t) (vs1 := []) (vs2 := []) trivial o.ht o.hv o.hr o.hid rfl (by simp) (fun h hh => by cases hh) (fun h hh => by cases hh)
  refine ⟨e1, e2.trans ?_⟩
  have e0 : numT t 0 = t := by unfold numT; simp
  unfold vA versA
  show (⟨id, s, True, [heldT s id t], []⟩ : Srv) = ⟨id, s, True, [heldT s id (numT t 0)], []⟩
  rw [e0]
theorem jobs_ok {s : Schm} {id : Int} {t : Tab} (o : OkA s id t) {qs : List (List Int)} (hqs : ∀ x ∈ qs, okQ s id t x) {m i : Nat} {q : List Int} (hq : okQ s id t q) (hi : (i : Int) < t.width) : ∀ j ∈ (jA t.number m q ((wantA s id t q).take i) :: jobL t.number (m + 1) (qs.drop (m + 1))), j.version = t.number ∧ okQ s id t j.query ∧ (j.got.length : Int) < t.width ∧ allP t.p j.got := by
  intro j hj
  rcases List.mem_cons.1 hj with rfl | hj
  · refine ⟨rfl, hq, ?_, fun x hx => (want_len o q).2 x (List.mem_of_mem_take hx)⟩
    show (((wantA s id t q).take i).length : Int) < t.width
    rw [List.length_take]; omega
  · obtain ⟨_, h2, h3, h4⟩ := jobL_mem hj
    refine ⟨h2, hqs _ (List.mem_of_mem_drop h3), ?_, ?_⟩
    · rw [h4]; have := (checkT_ok o.ht).2.2.1; simp; omega
    · rw [h4]; exact fun x hx => by cases hx
theorem jobs_sz {s : Schm} {id : Int} {t : Tab} (o : OkA s id t) {j : Job} (h : j.version = t.number ∧ okQ s id t j.query ∧ (j.got.length : Int) < t.width ∧ allP t.p j.got) : j.query.length ≤ 100000 ∧ j.got.length ≤ 100000 := by
  have h1 := (hld_sz o.hv o.ht o.hr o.hid).1
  have h2 := h.2.1.1
  have h3 := (checkT_ok o.ht).2.2.1
  omega
theorem note_sz {s : Schm} {id : Int} {t : Tab} (o : OkA s id t) {q : List Int} (hq : okQ s id t q) {v : Srv} {p : Psn} {X : Prop} (h : wordR v p 0 → (wordN v p 0).values = wantA s id t q ∧ (wordN v p 0).query = q ∧ X) : (wordN v p 0).query.length ≤ 100000 ∧ (wordN v p 0).values.length ≤ 100000 := by
  have h1 := (hld_sz o.hv o.ht o.hr o.hid).1
  have h2 := hq.1
  have h3 := (checkT_ok o.ht).2.2.1
  have h4 := (want_len o q).1
  by_cases hr : wordR v p 0
  · obtain ⟨a, b, _⟩ := h hr
    rw [a, b]; omega
  · have e : wordN v p 0 = nte0 := by unfold wordN; rw [if_neg hr]
    rw [e]; exact ⟨Nat.zero_le _, Nat.zero_le _⟩
end Go.Q
