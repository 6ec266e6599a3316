/- Servers stay in order when queries are asked and words computed: no program in sight. -/
import Derived.Test.YtgaalfgmgmpnbaaGreatQPlainV10
import Derived.Test.YtgaalfgmgmpnbaaGreatQServer6
import Derived.Test.YtgaalfgmgmpnbaaGreatQParR
import Derived.Test.YtgaalfgmgmpnbaaGreatQDraws
import Derived.Test.YtgaalfgmgmpnbaaGreatQDice
set_option linter.unusedVariables false
set_option linter.unusedSimpArgs false
namespace Go.Q
open Classical
theorem held_ok {v : Srv} (hok : okSrv v) {n : Int} (h : thereV v n) : okHeld (heldV v n) := hok.2.2.1 _ (getD_mem h.1)
theorem ok_new {id : Int} {s : Schm} : okSrv (newS id s) := by
 unfold newS
 split
 ·exact ⟨Nat.zero_le _, Nat.zero_le _, fun h hh => (by cases hh), fun i j _ hj => (by cases hj), fun j hj => (by cases hj)⟩
 ·exact ⟨Nat.zero_le _, Nat.zero_le _, fun h hh => (by cases hh), fun i j _ hj => (by cases hj), fun j hj => (by cases hj)⟩
end Go.Q

namespace Go.Q
open Classical
end Go.Q

namespace Go.Q
open Classical
def numT (t : Tab) (c : Nat) : Tab := ⟨t.number + c, t.p, t.width, t.rows⟩
noncomputable def versA (s : Schm) (id : Int) (t : Tab) (c : Nat) : List Held := (List.range c).map fun i => heldT s id (numT t i)
noncomputable def vA (s : Schm) (id : Int) (t : Tab) (c : Nat) (jobs : List Job) : Srv := ⟨id, s, True, versA s id t c, jobs⟩
structure OkA (s : Schm) (id : Int) (t : Tab) : Prop where
 ht : checkT t = 0
 hn : t.number ≤ 1000
 hv : validS s t.p
 hr : 1 ≤ t.rows.length
 hid : 1 ≤ id ∧ id ≤ s.servers
theorem numT_ok {t : Tab} (h : checkT t = 0) (hn : t.number ≤ 1000) {c : Nat} (hc : c ≤ 1000) : checkT (numT t c) = 0 := by
 have h1 := checkT_ok h
 exact checkT_zero (t := numT t c) ⟨by show 1 ≤ t.number + c; omega, by show t.number + c < 2147483647; omega⟩ h1.2.1 h1.2.2.1 h1.2.2.2.1 h1.2.2.2.2
theorem hld_num {s : Schm} {t : Tab} {id : Int} {c : Nat} (o : OkA s id t) (hc : c ≤ 1000) : hldL s (numT t c) id = hldL s t id := by
 unfold hldL
 rw [if_neg (hld_no (numT_ok o.ht o.hn hc) (show validS s (numT t c).p from o.hv) o.hid), if_neg (hld_no o.ht o.hv o.hid)]
 rfl
theorem versA_len (s : Schm) (id : Int) (t : Tab) (c : Nat) : (versA s id t c).length = c := by simp [versA]
theorem versA_num {s : Schm} {id : Int} {t : Tab} (o : OkA s id t) {c i : Nat} (hc : c ≤ 1000) (hi : i < c) : ((versA s id t c)[i]?.getD default) = heldT s id (numT t i) := by
 unfold versA; rw [List.getElem?_map, List.getElem?_range hi]; rfl
theorem vA_at {s : Schm} {id : Int} {t : Tab} (o : OkA s id t) {c : Nat} (hc : 1 ≤ c ∧ c ≤ 1000) (jobs : List Job) : atV (vA s id t c jobs) t.number = 0 ∧ thereV (vA s id t c jobs) t.number ∧ heldV (vA s id t c jobs) t.number = heldT s id t := by
 have g : ∀ i, i < c → (heldT s id (numT t i)).head.number = t.number + i := fun i hi => heldT_number (numT_ok o.ht o.hn (by omega))
 have e : atV (vA s id t c jobs) t.number = 0 := atV_at (Nat.zero_le _) (fun a ha => by omega) (fun a _ hb => by
  have hb' : a < c := by have := versA_len s id t c; exact this ▸ hb
  show t.number ≤ ((versA s id t c)[a]?.getD default).head.number
  rw [versA_num o hc.2 hb', g a hb']; omega)
 have e0 : numT t 0 = t := by unfold numT; simp
 have e1 : (vA s id t c jobs).versions[0]?.getD default = heldT s id t := by
  show (versA s id t c)[0]?.getD default = _
  rw [versA_num o hc.2 (by omega), e0]
 refine ⟨e, ⟨?_, ?_⟩, ?_⟩
 ·rw [e]; show 0 < (versA s id t c).length; rw [versA_len]; omega
 ·rw [e, e1]; exact cmpI_zero.2 (heldT_number o.ht)
 ·unfold heldV; rw [e, e1]
theorem heldA_ok {s : Schm} {id : Int} {t : Tab} (o : OkA s id t) {c : Nat} (hc : c ≤ 1000) : okHeld (heldT s id (numT t c)) := by
 have h1 := checkT_ok (numT_ok o.ht o.hn hc)
 have h2 := hld_sz (t := numT t c) o.hv (numT_ok o.ht o.hn hc) o.hr o.hid
 have h3 := checkT_ok o.ht
 have hrow : ∀ r ∈ hldL s (numT t c) id, (r.length : Int) = t.width ∧ allP t.p r := by
  intro r hr
  rw [hld_num o hc] at hr
  unfold hldL at hr
  rw [if_neg (hld_no o.ht o.hv o.hid)] at hr
  split at hr
  ·unfold holdG at hr
   split at hr
   ·obtain ⟨q, _, rfl⟩ := List.mem_map.1 hr
    unfold heldG
    obtain ⟨h4, h5⟩ := heldN_ok h3.2.1.1 id t.width.toNat q.2 q.2.length
    exact ⟨by rw [h4]; have := h3.2.2.1; omega, h5⟩
   ·cases hr
  ·exact h3.2.2.2.2 r hr
 unfold heldT
 rw [head_ok (numT_ok o.ht o.hn hc)]
 exact ⟨h3.2.1, h3.2.2.1, h2.1, hrow⟩
theorem heldA_eq {s : Schm} {id : Int} {t : Tab} (o : OkA s id t) : okHeld (heldT s id t) ∧ (heldT s id t).rows = hldL s t id ∧ (heldT s id t).head.p = t.p ∧ (heldT s id t).head.width = t.width := by
 have h := heldA_ok o (c := 0) (by omega)
 have e0 : numT t 0 = t := by unfold numT; simp
 rw [e0] at h
 exact ⟨h, rfl, by unfold heldT; rw [head_ok o.ht], by unfold heldT; rw [head_ok o.ht]⟩
def okQ (s : Schm) (id : Int) (t : Tab) (q : List Int) : Prop := q.length = (hldL s t id).length ∧ allP t.p q
theorem vA_ok {s : Schm} {id : Int} {t : Tab} (o : OkA s id t) {c : Nat} (hc : 1 ≤ c ∧ c ≤ 16) {jobs : List Job} (hl : jobs.length ≤ 32) (hj : ∀ j ∈ jobs, j.version = t.number ∧ okQ s id t j.query ∧ (j.got.length : Int) < t.width ∧ allP t.p j.got) : okSrv (vA s id t c jobs) := by
 obtain ⟨h1, h2, h3⟩ := vA_at o (c := c) (by omega) jobs
 obtain ⟨g1, g2, g3, g4⟩ := heldA_eq o
 refine ⟨by show (versA s id t c).length ≤ 16; rw [versA_len]; omega, hl, fun h hh => ?_, fun i j hij hj' => ?_, fun j hjm => ?_⟩
 ·obtain ⟨i, hi, rfl⟩ := List.mem_map.1 hh
  exact heldA_ok o (by have := List.mem_range.1 hi; omega)
 ·have hj2 : j < c := by have := versA_len s id t c; exact this ▸ hj'
  show ((versA s id t c)[i]?.getD default).head.number < ((versA s id t c)[j]?.getD default).head.number
  rw [versA_num o (by omega) (by omega), versA_num o (by omega) hj2, heldT_number (numT_ok o.ht o.hn (by omega)), heldT_number (numT_ok o.ht o.hn (by omega))]
  show t.number + i < t.number + j
  omega
 ·obtain ⟨a1, a2, a3, a4⟩ := hj j hjm
  unfold okJob
  rw [a1, h3, g2, g3, g4]
  exact ⟨h2, a2.1, a2.2, a3, a4⟩
end Go.Q

namespace Go.Q
open Classical
noncomputable def wantA (s : Schm) (id : Int) (t : Tab) (q : List Int) : List Int := combN t.p t.width.toNat (hldL s t id) q (hldL s t id).length
theorem want_len {s : Schm} {id : Int} {t : Tab} (o : OkA s id t) (q : List Int) : (wantA s id t q).length = t.width.toNat ∧ ∀ x ∈ wantA s id t q, hasP t.p x := combN_ok (checkT_ok o.ht).2.1.1 _ _ _ _
theorem load0 {s : Schm} {id : Int} {t : Tab} (o : OkA s id t) : loadE ⟨id, s, True, [], []⟩ t = 0 ∧ loadV ⟨id, s, True, [], []⟩ t = vA s id t 1 [] := by
 obtain ⟨e1, e2⟩ := load_ins (v := ⟨id, s, True, [], []⟩) (t := t) (vs1 := []) (vs2 := []) trivial o.ht o.hv o.hr o.hid rfl (by simp) (fun h hh => by cases hh) (fun h hh => by cases hh)
 refine ⟨e1, e2.trans ?_⟩
 have e0 : numT t 0 = t := by unfold numT; simp
 unfold vA versA
 show (⟨id, s, True, [heldT s id t], []⟩ : Srv) = ⟨id, s, True, [heldT s id (numT t 0)], []⟩
 rw [e0]
end Go.Q

namespace Go.Q
open Classical
def okI (v : Srv) : Prop := okSrv v ∧ shapeS v.scheme ∧ 1 ≤ v.id ∧ v.id ≤ v.scheme.servers
theorem okI_asc {v : Srv} (h : okI v) : ascV v.versions := h.1.2.2.2.1
noncomputable def findR (v : Srv) (n : Int) : Int := if thereV v n then (atV v n : Nat) else -1
theorem findR_at {v : Srv} (hs : ascV v.versions) {n : Int} {k : Nat} (hk : k < v.versions.length) (hn : (v.versions[k]?.getD default).head.number = n) : findR v n = k := by
 obtain ⟨h1, h2, _⟩ := there_of hs hk hn
 unfold findR; rw [if_pos h2, h1]
theorem findR_none {v : Srv} {n : Int} (h : ∀ j, j < v.versions.length → (v.versions[j]?.getD default).head.number ≠ n) : findR v n = -1 := by
 unfold findR; rw [if_neg]
 intro h1
 exact h _ h1.1 (there_num h1)
theorem findR_neg {v : Srv} {n : Int} : findR v n < 0 ↔ ¬ thereV v n := by
 unfold findR
 split <;> rename_i h
 ·exact ⟨fun h1 => by omega, fun h1 => absurd h h1⟩
 ·exact ⟨fun _ => h, fun _ => by omega⟩
theorem findR_pos {v : Srv} {n : Int} (h : thereV v n) : findR v n = (atV v n : Nat) := by unfold findR; rw [if_pos h]
theorem atV_stop {v : Srv} (hs : ascV v.versions) {n : Int} {k : Nat} (hk : k ≤ v.versions.length) (h1 : ∀ a, a < k → (v.versions[a]?.getD default).head.number < n) (h2 : k < v.versions.length → n ≤ (v.versions[k]?.getD default).head.number) : atV v n = k := by
 refine atV_at hk h1 (fun a ha hb => ?_)
 have h3 := h2 (by omega)
 by_cases e : a = k
 ·rw [e]; exact h3
 ·have := hs k a (by omega) hb; omega
theorem okI_hld {v : Srv} {t : Tab} (h : okI v) (ht : checkT t = 0) (hv : validS v.scheme t.p) (hr : 1 ≤ t.rows.length) : hldE v.scheme t v.id = 0 := (hld_ok hv ht hr h.2.2).1
theorem loadV_scheme (v : Srv) (t : Tab) : (loadV v t).scheme = v.scheme ∧ (loadV v t).id = v.id ∧ (loadV v t).up = v.up := by
 unfold loadV; split <;> exact ⟨rfl, rfl, rfl⟩
theorem okI_load {v : Srv} {t : Tab} (h : okI v) : okI (loadV v t) := by
 obtain ⟨h1, h2, _⟩ := loadV_scheme v t
 exact ⟨ok_load h.1, by rw [h1]; exact h.2.1, by rw [h2]; exact h.2.2.1, by rw [h1, h2]; exact h.2.2.2⟩
theorem okI_new {id : Int} {s : Schm} (hs : shapeS s) (hid : 1 ≤ id ∧ id ≤ s.servers) : newSE id s = 0 ∧ newS id s = ⟨id, s, True, [], []⟩ ∧ okI (newS id s) := by
 have e : newSE id s = 0 := by unfold newSE; rw [if_neg (Classical.not_not.2 hs), if_neg (by omega)]
 have e2 : newS id s = ⟨id, s, True, [], []⟩ := by unfold newS; rw [if_pos e]
 exact ⟨e, e2, ok_new, by rw [e2]; exact ⟨hs, hid⟩⟩
theorem comb_word {h : Held} {j : Job} {lie : Int} (hh : okHeld h) (hq : j.query.length = h.rows.length) (hg : (j.got.length : Int) < h.head.width) :
  wordX h j lie = if j.got.length = 0 then ((combN h.head.p h.head.width.toNat h.rows j.query h.rows.length)[j.got.length]?.getD default + lie % h.head.p) % h.head.p else (combN h.head.p h.head.width.toNat h.rows j.query h.rows.length)[j.got.length]?.getD default := by
 obtain ⟨hp, hw, hl, hr⟩ := hh
 have h1 : (combN h.head.p h.head.width.toNat h.rows j.query h.rows.length)[j.got.length]?.getD default = dotK h.head.p j.got.length h.rows j.query h.rows.length := combN_at hp.1 (by omega) _ (Nat.le_refl _) (fun r hr' => by have := (hr r hr').1; omega)
 unfold wordX
 rw [h1]
theorem job_first {v : Srv} {j : Job} {rest : List Job} (h : okI v) (hj : v.jobs = j :: rest) : thereV v j.version ∧ okHeld (heldV v j.version) ∧ j.query.length = (heldV v j.version).rows.length ∧ allP (heldV v j.version).head.p j.query ∧ (j.got.length : Int) < (heldV v j.version).head.width ∧ allP (heldV v j.version).head.p j.got := by
 have := h.1.2.2.2.2 j (by rw [hj]; exact List.mem_cons_self ..)
 exact ⟨this.1, held_ok h.1 this.1, this.2.1, this.2.2.1, this.2.2.2.1, this.2.2.2.2⟩
end Go.Q

namespace Go.Q
open Go.Proofs
open Classical
theorem rsnew_spec (id : Int) (s : Schm) : SpecP Tryz.prog 19 [dInt .i64 id, dSchm s] (dTup [dSrv (newS id s), dInt .i64 (newSE id s)]) := by
  refine specP_of_body Tryz.func19 rfl rfl (fun I M => ?_)
  refine au 3 ?_
  refine run_new (loc_allocOwn (by simp)) rfl (fun b1 _ => ?_)
  refine au 6 ?_
  refine run_op (loc_call (rshape_spec _) rfl) rfl ?_
  refine au 2 ?_
  refine run_cond rfl (fun h2 => ?_) (fun h2 => ?_)
  ·
   have c1 := h2
   refine au 6 ?_
   have hE : newSE id s = 40 := by unfold newSE; rw [if_pos c1]
   refine run_retGP Tryz.func19 rfl (.cellN rfl (.here) (by rfl) (.tmp rfl (.nil))) ?_ (fun _ _ h => inv_tail (h))
   exact d_tup2 (d_toSrv (t' := srv0) (by unfold newS; rw [if_neg (by rw [hE]; omega)]) (d_aggU (.cons (d_int rfl) (.cons (d_int rfl) (.cons (d_int rfl) (.cons (d_int rfl) (.cons (d_int rfl) (.cons (d_B Iff.rfl) (.cons d_nil (.cons d_nil .nil)))))))))) (d_int hE.symm)
  ·
   have c1 := Classical.not_not.1 h2
   have hbd := shape_bd c1
   refine au 14 ?_
   refine run_cond rfl (fun h3 => ?_) (fun h3 => ?_)
   ·
    have c2 := h3
    refine au 6 ?_
    have hE : newSE id s = 1 := by unfold newSE; rw [if_neg (Classical.not_not.2 c1), if_pos c2]
    refine run_retGP Tryz.func19 rfl (.cellN rfl (.here) (by rfl) (.tmp rfl (.nil))) ?_ (fun _ _ h => inv_tail (h))
    exact d_tup2 (d_toSrv (t' := srv0) (by unfold newS; rw [if_neg (by rw [hE]; omega)]) (d_aggU (.cons (d_int rfl) (.cons (d_int rfl) (.cons (d_int rfl) (.cons (d_int rfl) (.cons (d_int rfl) (.cons (d_B Iff.rfl) (.cons d_nil (.cons d_nil .nil)))))))))) (d_int hE.symm)
   ·
    have c2 := h3
    refine au 9 ?_
    have hE : newSE id s = 0 := by unfold newSE; rw [if_neg (Classical.not_not.2 c1), if_neg c2]
    refine run_retGP Tryz.func19 rfl (.cellN rfl (.here) (by rfl) (.tmp rfl (.nil))) ?_ (fun _ _ h => inv_tail (h))
    exact d_tup2 (d_toSrv (t' := ⟨id, s, True, [], []⟩) (by unfold newS; rw [if_pos hE]) (d_aggU (.cons (d_int rfl) (.cons (d_int rfl) (.cons (d_int rfl) (.cons (d_int rfl) (.cons (d_int rfl) (.cons (d_B Iff.rfl) (.cons d_nil (.cons d_nil .nil)))))))))) (d_int hE.symm)
theorem rfind30_spec (v : Srv) (n : Int) (hs : ascV v.versions) : SpecP Tryz.prog 64 [dSrv v, dInt .i64 n] (dInt .i64 (findR v n)) := by
  refine specP_of_body Tryz.func64 rfl rfl (fun I M => ?_)
  refine au 11 ?_
  refine run_loopC (σ := Nat) (ks := [1, 2]) (.cons rfl (.cons rfl (.nil))) (fun k => [(5, dInt .i64 (k : Nat))]) (fun k => k ≤ v.versions.length ∧ (∀ j, j < k → (v.versions[j]?.getD default).head.number ≠ n)) (fun k => v.versions.length - k) (0) (⟨by omega, fun j hj => by omega⟩) (.cons rfl (by first | exact fun _ _ h => h | exact d_int (by omega) | exact d_int (by simp) | exact d_intN (by omega) | exact d_any) .nil) ?_
  rintro k ⟨hk, hbk⟩ ih1
  refine au 6 ?_
  first | refine runL_fact (s := 8) rfl (fun _ _ h => dSl_len h) (fun hlen2 => ?_) | skip
  refine au 3 ?_
  refine run_cond rfl (fun h3 => ?_) (fun h3 => ?_)
  ·
   refine au 15 ?_
   refine run_cond rfl (fun h4 => ?_) (fun h4 => ?_)
   ·
    refine au 5 ?_
    refine run_retP Tryz.func64 rfl rfl ?_
    exact d_int (findR_at hs (by omega) (by assumption)).symm
   ·
    refine au 7 ?_
    exact run_againC ih1 (k + 1) (⟨by omega, fun j hj => by by_cases e : j = k; (· subst e; assumption); (· exact hbk j (by omega))⟩) (by omega) (.cons rfl (by first | exact fun _ _ h => h | exact d_int (by omega) | exact d_int (by simp) | exact d_intN (by omega) | exact d_any) .nil) (.cons rfl (fun _ _ x => x) (.cons rfl (fun _ _ x => x) (.nil)))
  ·
   refine au 5 ?_
   refine run_retP Tryz.func64 rfl rfl ?_
   exact d_int (findR_none (fun j hj => hbk j (by omega))).symm
theorem rload_spec (v : Srv) (t : Tab) (hv : okI v) : SpecP Tryz.prog 22 [dSrv v, dTab t] (dTup [dSrv (loadV v t), dInt .i64 (loadE v t)]) := by
  refine specP_of_body Tryz.func22 rfl rfl (fun I M => ?_)
  refine au 2 ?_
  refine run_new (loc_boxOwnN rfl) rfl (fun b1 _ => ?_)
  refine au 1 ?_
  refine run_new (loc_allocOwn (by simp)) rfl (fun b2 _ => ?_)
  refine au 9 ?_
  refine run_cond rfl (fun h3 => ?_) (fun h3 => ?_)
  ·
   have c1 := h3
   refine au 6 ?_
   have hE : loadE v t = 43 := by unfold loadE; rw [if_pos c1]
   refine run_retGP Tryz.func22 rfl (.cellN rfl (.here) (by rfl) (.tmp rfl (.nil))) ?_ (fun _ _ h => inv_tail (inv_tail (h)))
   exact d_tup2 (d_toSrv (by unfold loadV; rw [if_neg (by rw [hE]; first | omega | assumption)]) (fun _ _ h => h)) (d_int hE.symm)
  ·
   have c1 := Classical.not_not.1 h3
   refine au 4 ?_
   refine run_op (loc_call (rhead_spec _) rfl) rfl ?_
   refine au 3 ?_
   refine run_new (loc_allocOwn (by simp)) rfl (fun b4 _ => ?_)
   refine au 9 ?_
   refine run_cond rfl (fun h5 => ?_) (fun h5 => ?_)
   ·
    have c2 := h5
    refine au 7 ?_
    have hE : loadE v t = checkT t := by unfold loadE; rw [if_neg (Classical.not_not.2 c1), if_pos c2]
    refine run_retGP Tryz.func22 rfl (.cellN rfl (.there (.here)) (by rfl) (.tmp rfl (.nil))) ?_ (fun _ _ h => inv_tail (inv_tail (inv_tail (h))))
    exact d_tup2 (d_toSrv (by unfold loadV; rw [if_neg (by rw [hE]; first | omega | assumption)]) (fun _ _ h => h)) (d_int hE.symm)
   ·
    have c2 := Classical.not_not.1 h5
    refine au 8 ?_
    refine run_op (loc_call (rvalid_spec _ _) rfl) rfl ?_
    refine au 2 ?_
    refine run_cond rfl (fun h6 => ?_) (fun h6 => ?_)
    ·
     have c3 := h6
     refine au 6 ?_
     have hE : loadE v t = 40 := by unfold loadE; rw [if_neg (Classical.not_not.2 c1), if_neg (Classical.not_not.2 c2), if_pos c3]
     refine run_retGP Tryz.func22 rfl (.cellN rfl (.there (.here)) (by rfl) (.tmp rfl (.nil))) ?_ (fun _ _ h => inv_tail (inv_tail (inv_tail (h))))
     exact d_tup2 (d_toSrv (by unfold loadV; rw [if_neg (by rw [hE]; first | omega | assumption)]) (fun _ _ h => h)) (d_int hE.symm)
    ·
     have c3 := Classical.not_not.1 h6
     refine au 6 ?_
     first | refine runL_fact (s := 33) rfl (fun _ _ h => dSl_len h) (fun hlen7 => ?_) | skip
     refine au 3 ?_
     refine run_cond rfl (fun h8 => ?_) (fun h8 => ?_)
     ·
      have c4 := h8
      refine au 6 ?_
      have hE : loadE v t = 2 := by unfold loadE; rw [if_neg (Classical.not_not.2 c1), if_neg (Classical.not_not.2 c2), if_neg (Classical.not_not.2 c3), if_pos (by omega)]
      refine run_retGP Tryz.func22 rfl (.cellN rfl (.there (.here)) (by rfl) (.tmp rfl (.nil))) ?_ (fun _ _ h => inv_tail (inv_tail (inv_tail (h))))
      exact d_tup2 (d_toSrv (by unfold loadV; rw [if_neg (by rw [hE]; first | omega | assumption)]) (fun _ _ h => h)) (d_int hE.symm)
     ·
      have c4 := h8
      refine au 7 ?_
      refine run_op (loc_call (rfind30_spec v t.number (okI_asc hv)) rfl) rfl ?_
      refine au 2 ?_
      refine run_cond rfl (fun h9 => ?_) (fun h9 => ?_)
      ·
       have c5 : thereV v t.number := Classical.not_not.1 fun hn => by have h5 := findR_neg.2 hn; omega
       refine au 6 ?_
       have hE : loadE v t = 7 := by unfold loadE; rw [if_neg (Classical.not_not.2 c1), if_neg (Classical.not_not.2 c2), if_neg (Classical.not_not.2 c3), if_neg (by omega), if_pos c5]
       refine run_retGP Tryz.func22 rfl (.cellN rfl (.there (.here)) (by rfl) (.tmp rfl (.nil))) ?_ (fun _ _ h => inv_tail (inv_tail (inv_tail (h))))
       exact d_tup2 (d_toSrv (by unfold loadV; rw [if_neg (by rw [hE]; first | omega | assumption)]) (fun _ _ h => h)) (d_int hE.symm)
      ·
       have c5 : ¬ thereV v t.number := findR_neg.1 (by omega)
       refine au 6 ?_
       first | refine runL_fact (s := 44) rfl (fun _ _ h => dSl_len h) (fun hlen10 => ?_) | skip
       refine au 3 ?_
       refine run_cond rfl (fun h11 => ?_) (fun h11 => ?_)
       ·
        have c6 := h11
        refine au 6 ?_
        have hE : loadE v t = 4 := by unfold loadE; rw [if_neg (Classical.not_not.2 c1), if_neg (Classical.not_not.2 c2), if_neg (Classical.not_not.2 c3), if_neg (by omega), if_neg c5, if_pos (by omega)]
        refine run_retGP Tryz.func22 rfl (.cellN rfl (.there (.here)) (by rfl) (.tmp rfl (.nil))) ?_ (fun _ _ h => inv_tail (inv_tail (inv_tail (h))))
        exact d_tup2 (d_toSrv (by unfold loadV; rw [if_neg (by rw [hE]; first | omega | assumption)]) (fun _ _ h => h)) (d_int hE.symm)
       ·
        have c6 := h11
        refine au 8 ?_
        refine run_op (loc_call (rhold23_spec v.scheme t v.id c2 c3 (by omega) hv.2.2) rfl) rfl ?_
        refine au 12 ?_
        refine run_loopC (σ := Nat) (ks := [2, 3, 4, 6, 8]) (.cons rfl (.cons rfl (.cons rfl (.cons rfl (.cons rfl (.nil)))))) (fun k => [(10, dInt .i64 (k : Nat))]) (fun k => k ≤ v.versions.length ∧ ∀ a, a < k → (v.versions[a]?.getD default).head.number < t.number) (fun k => v.versions.length - k) (0) (⟨Nat.zero_le _, fun a ha => by omega⟩) (.cons rfl (by first | exact fun _ _ h => h | exact d_int (by omega) | exact d_int (by simp) | exact d_intN (by omega) | exact d_any) .nil) ?_
        rintro k ⟨hk, hb⟩ ih12
        refine au 2 ?_
        refine dr_start _ (.none) [⟨[(10, none)], [], none⟩,
            ⟨[(2, none)], [], none⟩,
            ⟨[(58, some (1, false))], [1], some (2, 0, false)⟩,
            ⟨[(59, some (2, false))], [1, 2], none⟩,
            ⟨[(57, some (0, false)), (60, some (3, false))], [0, 1, 2, 3], none⟩,
            ⟨[(61, some (4, false))], [0, 1, 2, 3, 4], none⟩,
            ⟨[(2, none)], [0, 1, 2, 3, 4, 5], none⟩,
            ⟨[(63, some (6, true))], [0, 1, 2, 3, 4, 5, 6], some (2, 0, false)⟩,
            ⟨[(10, none)], [0, 1, 2, 3, 4, 5], none⟩,
            ⟨[(64, some (7, true)), (65, some (8, true))], [0, 1, 2, 3, 4, 5, 6, 7, 8], none⟩,
            ⟨[(66, some (9, true))], [0, 1, 2, 3, 4, 5, 6, 7, 8, 9], none⟩,
            ⟨[(67, some (10, true))], [0, 1, 2, 3, 4, 5, 6, 7, 8, 9, 10], none⟩,
            ⟨[(68, some (11, true))], [0, 1, 2, 3, 4, 5, 6, 7, 8, 9, 10, 11], none⟩,
            ⟨[(3, none)], [0, 1, 2, 3, 4, 5], none⟩,
            ⟨[(70, some (13, true))], [0, 1, 2, 3, 4, 5, 13], none⟩,
            ⟨[(69, some (12, true)), (71, some (14, true))], [0, 1, 2, 3, 4, 5, 6, 7, 8, 9, 10, 11, 12, 13, 14], none⟩,
            ⟨[(62, some (5, false)), (72, some (15, false))], [0, 1, 2, 3, 4, 5, 6, 7, 8, 9, 10, 11, 12, 13, 14, 15], none⟩] [_, _, _] _ rfl rfl ?_
        refine da 7 ?_
        refine dq_gread rfl (fun s => .opU rfl (.nil)) rfl rfl rfl (fun _ => gdI.ok) (fun s hs hg _ hm => loc_loadOwn1 rfl hm (by rfl)) (by exact .nil) ?_
        refine da 9 ?_
        refine dq_end (rs := [_, _, _]) () rfl (fun _ => rfl) (.nil) rfl (fun _ => rfl) (fun _ _ => ?_)
        dsimp only [outG, outM, List.map, List.set, id]
        refine run_cond rfl (fun h13 => ?_) (fun h13 => ?_)
        ·
         refine au 8 ?_
         exact run_againC ih12 (k + 1) (⟨by omega, fun a ha => by by_cases e : a = k; (· subst e; omega); (· exact hb a (by omega))⟩) (by omega) (.cons rfl (by first | exact fun _ _ h => h | exact d_int (by omega) | exact d_int (by simp) | exact d_intN (by omega) | exact d_any) .nil) (.cons rfl (fun _ _ x => x) (.cons rfl (fun _ _ x => x) (.cons rfl (fun _ _ x => x) (.cons rfl (fun _ _ x => x) (.cons rfl (fun _ _ x => x) (.nil))))))
        ·
         refine au 2 ?_
         have hat : atV v t.number = k := atV_stop (okI_asc hv) hk hb (fun h => by omega)
         refine au 4 ?_
         refine run_addNone ?_
         refine dr_start _ (.two (τ1 := Value) (τ2 := Value) 5 10 (fun _ => True) (fun _ => True)) [⟨[(11, none)], [], none⟩,
             ⟨[(2, none)], [], none⟩,
             ⟨[(77, some (1, false))], [1], some (3, 0, false)⟩,
             ⟨[(10, none)], [], none⟩,
             ⟨[(78, some (2, false)), (79, some (3, false))], [1, 2, 3], none⟩,
             ⟨[(76, some (0, false)), (80, some (4, false))], [0, 1, 2, 3, 4], some (0, 0, true)⟩,
             ⟨[(6, none)], [], some (1, 0, false)⟩,
             ⟨[(8, none)], [], none⟩,
             ⟨[(82, some (6, false)), (83, some (7, false))], [6, 7], none⟩,
             ⟨[(84, some (8, false))], [6, 7, 8], none⟩,
             ⟨[(81, some (5, false)), (85, some (9, false))], [0, 1, 2, 3, 4, 5, 6, 7, 8, 9], some (0, 1, true)⟩,
             ⟨[(86, some (10, false))], [0, 1, 2, 3, 4, 5, 6, 7, 8, 9, 10], none⟩] [_, _, _, _] _ rfl rfl ?_
         refine da 4 ?_
         refine dq_pure rfl (fun s => .op rfl (.op rfl (.nil))) (fun s hs _ => loc_sliceTo rfl rfl (by first | omega | assumption)) (by exact .cons (.inr fun _ _ _ => rfl) (.cons (.inr fun _ _ _ => rfl) (.nil))) ?_
         refine dq_choose Prod.fst (fun s t => (t, s.2)) rfl (fun _ _ => ⟨rfl, id, rfl⟩) (fun s => .op rfl (.op rfl (.nil))) rfl rfl (fun s hs => locM_new (loc_appendNil rfl rfl rfl (by first | omega | (simp [lenMax]; omega) | (simp [lenMax]; done) | assumption) (by first | omega | (simp [lenMax]; omega) | (simp [lenMax]; done) | assumption))) (by exact .cons (.inl rfl) (.cons (.inr (.inr fun ⟨a, b⟩ ⟨c, d⟩ h => by have h : c = a := h; subst h; exact rfl)) (.nil))) (fun _ _ => rfl) ?_
         refine da 3 ?_
         refine dq_pure rfl (fun s => .op rfl (.nil)) (fun s hs _ => loc_buildSlice rfl rfl (.agg rfl (.nil)) rfl rfl) (by exact .cons (.inr fun _ _ _ => rfl) (.cons (.inr fun _ _ _ => rfl) (.nil))) ?_
         refine dq_choose Prod.snd (fun s t => (s.1, t)) rfl (fun _ _ => ⟨rfl, id, rfl⟩) (fun s => .op rfl (.op rfl (.nil))) rfl rfl (fun s hs => loc_append1 (⟨headT t, hldL v.scheme t v.id⟩ : Held) rfl rfl rfl rfl (by first | omega | (simp [lenMax]; omega) | (simp [lenMax]; done) | assumption) (by first | omega | (simp [lenMax]; omega) | (simp [lenMax]; done) | assumption)) (by exact .cons (.inr (.inl rfl)) (.cons (.inl rfl) (.nil))) (fun _ _ => rfl) ?_
         refine da 1 ?_
         refine dq_end (rs := [_, _, _, _]) ((.bool true), (.bool true)) rfl (fun _ => rfl) (.cons rfl (.cons rfl (.nil))) rfl (fun _ => rfl) (fun s9 _ => ?_)
         obtain ⟨v81, v86⟩ := s9
         dsimp only [outG, outM, List.map, List.set, id]
         refine au 6 ?_
         refine run_op (loc_sliceFrom rfl rfl (by first | omega | assumption)) rfl ?_
         refine run_upd (LocM.frz (loc_append rfl rfl rfl (by first | omega | (simp [lenMax]; omega) | (simp [lenMax]; done) | assumption) (by first | omega | (simp [lenMax]; omega) | (simp [lenMax]; done) | assumption)) rfl) rfl (.here) (fun v15 hv15 => ?_)
         refine au 9 ?_
         have hE : loadE v t = 0 := by unfold loadE; rw [if_neg (Classical.not_not.2 c1), if_neg (Classical.not_not.2 c2), if_neg (Classical.not_not.2 c3), if_neg (by omega), if_neg c5, if_neg (by omega)]; exact okI_hld hv c2 c3 (by omega)
         refine run_retGP Tryz.func22 rfl (.cellN rfl (.there (.there (.here))) (by rfl) (.tmp rfl (.nil))) ?_ (fun _ _ h => inv_tail (inv_tail (inv_tail (inv_tail (h)))))
         exact d_tup2 (d_toSrv (t' := { v with versions := v.versions.take k ++ [⟨headT t, hldL v.scheme t v.id⟩] ++ v.versions.drop k }) (by unfold loadV; rw [if_pos hE, hat]) (fun _ _ h => h)) (d_int hE.symm)
theorem rask_spec (v : Srv) (n : Nte) (hv : okI v) (hq : n.query.length ≤ 100000) : SpecP Tryz.prog 24 [dSrv v, dNte n] (dTup [dSrv (askV v n), dInt .i64 (askE v n)]) := by
  refine specP_of_body Tryz.func24 rfl rfl (fun I M => ?_)
  refine au 2 ?_
  refine run_new (loc_boxOwnN rfl) rfl (fun b1 _ => ?_)
  refine au 1 ?_
  refine run_new (loc_allocOwn (by simp)) rfl (fun b2 _ => ?_)
  refine au 9 ?_
  refine run_cond rfl (fun h3 => ?_) (fun h3 => ?_)
  ·
   have c1 := h3
   refine au 6 ?_
   have hE : askE v n = 43 := by unfold askE; rw [if_pos c1]
   refine run_retGP Tryz.func24 rfl (.cellN rfl (.here) (by rfl) (.tmp rfl (.nil))) ?_ (fun _ _ h => inv_tail (inv_tail (h)))
   exact d_tup2 (d_toSrv (by unfold askV; rw [if_neg (by rw [hE]; first | omega | assumption)]) (fun _ _ h => h)) (d_int hE.symm)
  ·
   have c1 := Classical.not_not.1 h3
   refine au 16 ?_
   refine run_cond rfl (fun h4 => ?_) (fun h4 => ?_)
   ·
    have c2 := h4
    refine au 6 ?_
    have hE : askE v n = 2 := by unfold askE; rw [if_neg (Classical.not_not.2 c1), if_pos c2]
    refine run_retGP Tryz.func24 rfl (.cellN rfl (.here) (by rfl) (.tmp rfl (.nil))) ?_ (fun _ _ h => inv_tail (inv_tail (h)))
    exact d_tup2 (d_toSrv (by unfold askV; rw [if_neg (by rw [hE]; first | omega | assumption)]) (fun _ _ h => h)) (d_int hE.symm)
   ·
    have c2 := h4
    refine au 6 ?_
    refine run_op (loc_call (rfind30_spec v n.version (okI_asc hv)) rfl) rfl ?_
    refine au 8 ?_
    refine run_cond rfl (fun h5 => ?_) (fun h5 => ?_)
    ·
     have c3 : ¬ thereV v n.version := findR_neg.1 (by omega)
     refine au 6 ?_
     have hE : askE v n = 6 := by unfold askE; rw [if_neg (Classical.not_not.2 c1), if_neg c2, if_pos c3]
     refine run_retGP Tryz.func24 rfl (.cellN rfl (.here) (by rfl) (.tmp rfl (.nil))) ?_ (fun _ _ h => inv_tail (inv_tail (h)))
     exact d_tup2 (d_toSrv (by unfold askV; rw [if_neg (by rw [hE]; first | omega | assumption)]) (fun _ _ h => h)) (d_int hE.symm)
    ·
     have c3 : thereV v n.version := Classical.not_not.1 fun hn => by have h5 := findR_neg.2 hn; omega
     have hat := c3.1
     rw [findR_pos c3]
     have hhd : v.versions[atV v n.version]?.getD default = heldV v n.version := rfl
     have hho := held_ok hv.1 c3
     refine au 3 ?_
     refine dr_start _ (.none) [⟨[(3, none)], [], none⟩,
         ⟨[(32, some (0, false))], [0], none⟩,
         ⟨[(33, some (1, false))], [0, 1], none⟩,
         ⟨[(2, none)], [], none⟩,
         ⟨[(35, some (3, false))], [3], some (1, 0, false)⟩,
         ⟨[(6, none)], [], none⟩,
         ⟨[(36, some (4, false)), (37, some (5, false))], [3, 4, 5], none⟩,
         ⟨[(38, some (6, false))], [3, 4, 5, 6], none⟩,
         ⟨[(39, some (7, false))], [3, 4, 5, 6, 7], none⟩,
         ⟨[(40, some (8, false))], [3, 4, 5, 6, 7, 8], none⟩,
         ⟨[(34, some (2, false)), (41, some (9, false))], [0, 1, 2, 3, 4, 5, 6, 7, 8, 9], none⟩] [_, _] _ rfl rfl ?_
     refine da 11 ?_
     refine dq_end (rs := [_, _]) () rfl (fun _ => rfl) (.nil) rfl (fun _ => rfl) (fun _ _ => ?_)
     dsimp only [outG, outM, List.map, List.set, id]
     refine run_cond rfl (fun h6 => ?_) (fun h6 => ?_)
     ·
      have h5 := h6
      rw [hhd] at h5
      refine au 6 ?_
      have hE : askE v n = 2 := by unfold askE; rw [if_neg (Classical.not_not.2 c1), if_neg c2, if_neg (Classical.not_not.2 c3), if_pos (.inl (by omega))]
      refine run_retGP Tryz.func24 rfl (.cellN rfl (.here) (by rfl) (.tmp rfl (.nil))) ?_ (fun _ _ h => inv_tail (inv_tail (h)))
      exact d_tup2 (d_toSrv (by unfold askV; rw [if_neg (by rw [hE]; first | omega | assumption)]) (fun _ _ h => h)) (d_int hE.symm)
     ·
      have h5 := h6
      rw [hhd] at h5
      refine au 7 ?_
      refine run_loopC (σ := Nat) (ks := [2, 3, 4, 6]) (.cons rfl (.cons rfl (.cons rfl (.cons rfl (.nil))))) (fun k => [(7, dInt .i64 (k : Nat))]) (fun k => k ≤ n.query.length ∧ (∀ j, j < k → hasP (heldV v n.version).head.p (n.query[j]?.getD default))) (fun k => n.query.length - k) (0) (⟨by omega, fun j hj => by omega⟩) (.cons rfl (by first | exact fun _ _ h => h | exact d_int (by omega) | exact d_int (by simp) | exact d_intN (by omega) | exact d_any) .nil) ?_
      rintro k ⟨hk, hbk⟩ ih7
      refine au 6 ?_
      first | refine runL_fact (s := 46) rfl (fun _ _ h => dSl_len h) (fun hlen8 => ?_) | skip
      refine au 3 ?_
      refine run_cond rfl (fun h9 => ?_) (fun h9 => ?_)
      ·
       refine au 4 ?_
       refine dr_start _ (.none) [⟨[(3, none)], [], none⟩,
           ⟨[(51, some (0, false))], [0], none⟩,
           ⟨[(7, none)], [], none⟩,
           ⟨[(52, some (1, false)), (53, some (2, false))], [0, 1, 2], none⟩,
           ⟨[(54, some (3, false))], [0, 1, 2, 3], none⟩,
           ⟨[(55, some (4, false))], [0, 1, 2, 3, 4], none⟩,
           ⟨[(56, some (5, false))], [0, 1, 2, 3, 4, 5], none⟩,
           ⟨[(3, none)], [0, 1, 2, 3, 4, 5, 6], none⟩,
           ⟨[(58, some (7, true))], [0, 1, 2, 3, 4, 5, 6, 7], none⟩,
           ⟨[(7, none)], [0, 1, 2, 3, 4, 5, 6], none⟩,
           ⟨[(59, some (8, true)), (60, some (9, true))], [0, 1, 2, 3, 4, 5, 6, 7, 8, 9], none⟩,
           ⟨[(61, some (10, true))], [0, 1, 2, 3, 4, 5, 6, 7, 8, 9, 10], none⟩,
           ⟨[(2, none)], [0, 1, 2, 3, 4, 5, 6], none⟩,
           ⟨[(63, some (12, true))], [0, 1, 2, 3, 4, 5, 6, 12], some (1, 0, false)⟩,
           ⟨[(6, none)], [0, 1, 2, 3, 4, 5, 6], none⟩,
           ⟨[(64, some (13, true)), (65, some (14, true))], [0, 1, 2, 3, 4, 5, 6, 12, 13, 14], none⟩,
           ⟨[(66, some (15, true))], [0, 1, 2, 3, 4, 5, 6, 12, 13, 14, 15], none⟩,
           ⟨[(67, some (16, true))], [0, 1, 2, 3, 4, 5, 6, 12, 13, 14, 15, 16], none⟩,
           ⟨[(68, some (17, true))], [0, 1, 2, 3, 4, 5, 6, 12, 13, 14, 15, 16, 17], none⟩,
           ⟨[(62, some (11, true)), (69, some (18, true))], [0, 1, 2, 3, 4, 5, 6, 7, 8, 9, 10, 11, 12, 13, 14, 15, 16, 17, 18], none⟩,
           ⟨[(57, some (6, false)), (70, some (19, false))], [0, 1, 2, 3, 4, 5, 6, 7, 8, 9, 10, 11, 12, 13, 14, 15, 16, 17, 18, 19], none⟩] [_, _] _ rfl rfl ?_
       refine da 13 ?_
       refine dq_gread rfl (fun s => .opU rfl (.nil)) rfl rfl rfl (fun _ => gdI.ok) (fun s hs hg _ hm => loc_loadOwn1 rfl hm (by rfl)) (by exact .nil) ?_
       refine da 7 ?_
       refine dq_end (rs := [_, _]) () rfl (fun _ => rfl) (.nil) rfl (fun _ => rfl) (fun _ _ => ?_)
       dsimp only [outG, outM, List.map, List.set, id]
       refine run_cond rfl (fun h10 => ?_) (fun h10 => ?_)
       ·
        have h6 := h10
        rw [hhd] at h6
        have c4 : ¬ (okP (heldV v n.version).head.p ∧ allP (heldV v n.version).head.p n.query) := fun hc => by have h7 := hc.2 _ (getD_mem (xs := n.query) (k := k) (by omega)); unfold hasP at h7; omega
        refine au 6 ?_
        have hE : askE v n = 2 := by unfold askE; rw [if_neg (Classical.not_not.2 c1), if_neg c2, if_neg (Classical.not_not.2 c3), if_pos (.inr c4)]
        refine run_retGP Tryz.func24 rfl (.cellN rfl (.here) (by rfl) (.tmp rfl (.nil))) ?_ (fun _ _ h => inv_tail (inv_tail (h)))
        exact d_tup2 (d_toSrv (by unfold askV; rw [if_neg (by rw [hE]; first | omega | assumption)]) (fun _ _ h => h)) (d_int hE.symm)
       ·
        have h6 := h10
        rw [hhd] at h6
        refine au 7 ?_
        exact run_againC ih7 (k + 1) (⟨by omega, fun j hj => by by_cases e : j = k; (· subst e; (show _ ∧ _; omega)); (· exact hbk j (by omega))⟩) (by omega) (.cons rfl (by first | exact fun _ _ h => h | exact d_int (by omega) | exact d_int (by simp) | exact d_intN (by omega) | exact d_any) .nil) (.cons rfl (fun _ _ x => x) (.cons rfl (fun _ _ x => x) (.cons rfl (fun _ _ x => x) (.cons rfl (fun _ _ x => x) (.nil)))))
      ·
       refine au 7 ?_
       have c4 : ¬ (n.query.length ≠ (heldV v n.version).rows.length ∨ ¬ (okP (heldV v n.version).head.p ∧ allP (heldV v n.version).head.p n.query)) := by rintro (h | h); (· omega); (· exact h ⟨hho.1, fun x hx => by obtain ⟨i, hi, rfl⟩ := List.mem_iff_getElem.1 hx; have h8 := hbk i (by omega); rwa [List.getElem?_eq_getElem hi] at h8⟩)
       refine run_loopC (σ := Nat) (ks := [2, 3, 4]) (.cons rfl (.cons rfl (.cons rfl (.nil)))) (fun u => [(8, dInt .i64 (u : Nat))]) (fun u => u ≤ v.jobs.length ∧ (∀ j, j < u → ¬ ((v.jobs[j]?.getD default).read = n.read ∧ (v.jobs[j]?.getD default).probe = n.probe))) (fun u => v.jobs.length - u) (0) (⟨by omega, fun j hj => by omega⟩) (.cons rfl (by first | exact fun _ _ h => h | exact d_int (by omega) | exact d_int (by simp) | exact d_intN (by omega) | exact d_any) .nil) ?_
       rintro u ⟨hu, hbu⟩ ih11
       refine au 6 ?_
       first | refine runL_fact (s := 75) rfl (fun _ _ h => dSl_len h) (fun hlen12 => ?_) | skip
       refine au 3 ?_
       refine run_cond rfl (fun h13 => ?_) (fun h13 => ?_)
       ·
        refine au 4 ?_
        refine dr_start _ (.none) [⟨[(2, none)], [], none⟩,
            ⟨[(80, some (0, false))], [0], some (1, 0, false)⟩,
            ⟨[(8, none)], [], none⟩,
            ⟨[(81, some (1, false)), (82, some (2, false))], [0, 1, 2], none⟩,
            ⟨[(83, some (3, false))], [0, 1, 2, 3], none⟩,
            ⟨[(84, some (4, false))], [0, 1, 2, 3, 4], none⟩,
            ⟨[(3, none)], [], none⟩,
            ⟨[(86, some (6, false))], [6], none⟩,
            ⟨[(85, some (5, false)), (87, some (7, false))], [0, 1, 2, 3, 4, 5, 6, 7], none⟩,
            ⟨[(88, some (8, false))], [0, 1, 2, 3, 4, 5, 6, 7, 8], none⟩,
            ⟨[(2, none)], [0, 1, 2, 3, 4, 5, 6, 7, 8, 9], none⟩,
            ⟨[(90, some (10, true))], [0, 1, 2, 3, 4, 5, 6, 7, 8, 9, 10], some (1, 0, false)⟩,
            ⟨[(8, none)], [0, 1, 2, 3, 4, 5, 6, 7, 8, 9], none⟩,
            ⟨[(91, some (11, true)), (92, some (12, true))], [0, 1, 2, 3, 4, 5, 6, 7, 8, 9, 10, 11, 12], none⟩,
            ⟨[(93, some (13, true))], [0, 1, 2, 3, 4, 5, 6, 7, 8, 9, 10, 11, 12, 13], none⟩,
            ⟨[(94, some (14, true))], [0, 1, 2, 3, 4, 5, 6, 7, 8, 9, 10, 11, 12, 13, 14], none⟩,
            ⟨[(3, none)], [0, 1, 2, 3, 4, 5, 6, 7, 8, 9], none⟩,
            ⟨[(96, some (16, true))], [0, 1, 2, 3, 4, 5, 6, 7, 8, 9, 16], none⟩,
            ⟨[(95, some (15, true)), (97, some (17, true))], [0, 1, 2, 3, 4, 5, 6, 7, 8, 9, 10, 11, 12, 13, 14, 15, 16, 17], none⟩,
            ⟨[(89, some (9, false)), (98, some (18, false))], [0, 1, 2, 3, 4, 5, 6, 7, 8, 9, 10, 11, 12, 13, 14, 15, 16, 17, 18], none⟩] [_, _] _ rfl rfl ?_
        refine da 11 ?_
        refine dq_gread rfl (fun s => .opU rfl (.nil)) rfl rfl rfl (fun _ => gdI.ok) (fun s hs hg _ hm => loc_loadOwn1 rfl hm (by rfl)) (by exact .nil) ?_
        refine da 8 ?_
        refine dq_end (rs := [_, _]) () rfl (fun _ => rfl) (.nil) rfl (fun _ => rfl) (fun _ _ => ?_)
        dsimp only [outG, outM, List.map, List.set, id]
        refine run_cond rfl (fun h14 => ?_) (fun h14 => ?_)
        ·
         have c5 : ∃ j ∈ v.jobs, j.read = n.read ∧ j.probe = n.probe := ⟨_, getD_mem (k := u) (by omega), by assumption⟩
         refine au 6 ?_
         have hE : askE v n = 7 := by unfold askE; rw [if_neg (Classical.not_not.2 c1), if_neg c2, if_neg (Classical.not_not.2 c3), if_neg c4, if_pos c5]
         refine run_retGP Tryz.func24 rfl (.cellN rfl (.here) (by rfl) (.tmp rfl (.nil))) ?_ (fun _ _ h => inv_tail (inv_tail (h)))
         exact d_tup2 (d_toSrv (by unfold askV; rw [if_neg (by rw [hE]; first | omega | assumption)]) (fun _ _ h => h)) (d_int hE.symm)
        ·
         refine au 7 ?_
         exact run_againC ih11 (u + 1) (⟨by omega, fun j hj => by by_cases e : j = u; (· subst e; assumption); (· exact hbu j (by omega))⟩) (by omega) (.cons rfl (by first | exact fun _ _ h => h | exact d_int (by omega) | exact d_int (by simp) | exact d_intN (by omega) | exact d_any) .nil) (.cons rfl (fun _ _ x => x) (.cons rfl (fun _ _ x => x) (.cons rfl (fun _ _ x => x) (.nil))))
       ·
        refine au 3 ?_
        have c5 : ¬ ∃ j ∈ v.jobs, j.read = n.read ∧ j.probe = n.probe := by rintro ⟨j, hj, e⟩; obtain ⟨i, hi, rfl⟩ := List.mem_iff_getElem.1 hj; have h8 := hbu i (by omega); rw [List.getElem?_eq_getElem hi] at h8; exact h8 e
        refine au 3 ?_
        first | refine runL_fact (s := 102) rfl (fun _ _ h => dSl_len h) (fun hlen15 => ?_) | skip
        refine au 3 ?_
        refine run_cond rfl (fun h16 => ?_) (fun h16 => ?_)
        ·
         have c6 := h16
         refine au 6 ?_
         have hE : askE v n = 4 := by unfold askE; rw [if_neg (Classical.not_not.2 c1), if_neg c2, if_neg (Classical.not_not.2 c3), if_neg c4, if_neg c5, if_pos (by omega)]
         refine run_retGP Tryz.func24 rfl (.cellN rfl (.here) (by rfl) (.tmp rfl (.nil))) ?_ (fun _ _ h => inv_tail (inv_tail (h)))
         exact d_tup2 (d_toSrv (by unfold askV; rw [if_neg (by rw [hE]; first | omega | assumption)]) (fun _ _ h => h)) (d_int hE.symm)
        ·
         have c6 := h16
         refine au 6 ?_
         refine run_addNone ?_
         refine run_addNone ?_
         refine dr_start _ (.two (τ1 := Value) (τ2 := Nat) 3 10 (fun _ => True) (fun _ => True)) [⟨[(9, none)], [], none⟩,
             ⟨[(2, none)], [], none⟩,
             ⟨[(107, some (1, false))], [1], some (3, 0, false)⟩,
             ⟨[(106, some (0, false)), (108, some (2, false))], [0, 1, 2], some (1, 0, true)⟩,
             ⟨[(3, none)], [], none⟩,
             ⟨[(110, some (4, false))], [4], none⟩,
             ⟨[(3, none)], [], none⟩,
             ⟨[(112, some (6, false))], [6], none⟩,
             ⟨[(3, none)], [], none⟩,
             ⟨[(114, some (8, false))], [8], none⟩,
             ⟨[], [], some (0, 0, true)⟩,
             ⟨[(3, none)], [], none⟩,
             ⟨[(117, some (11, false))], [11], none⟩,
             ⟨[(116, some (10, false)), (118, some (12, false))], [0, 1, 2, 3, 10, 11, 12], some (0, 1, true)⟩,
             ⟨[(111, some (5, false)), (113, some (7, false)), (115, some (9, false)), (119, some (13, false))], [0, 1, 2, 3, 4, 5, 6, 7, 8, 9, 10, 11, 12, 13], none⟩,
             ⟨[(120, some (14, false))], [0, 1, 2, 3, 4, 5, 6, 7, 8, 9, 10, 11, 12, 13, 14], none⟩,
             ⟨[(109, some (3, false)), (121, some (15, false))], [0, 1, 2, 3, 4, 5, 6, 7, 8, 9, 10, 11, 12, 13, 14, 15], some (1, 1, true)⟩,
             ⟨[(2, none)], [0, 1, 2, 3, 4, 5, 6, 7, 8, 9, 10, 11, 12, 13, 14, 15, 16], none⟩,
             ⟨[(123, some (17, false)), (122, some (16, false))], [0, 1, 2, 3, 4, 5, 6, 7, 8, 9, 10, 11, 12, 13, 14, 15, 16, 17], some (3, 0, true)⟩] [_, _, _, _] _ rfl rfl ?_
         refine da 3 ?_
         refine dq_choose Prod.fst (fun s t => (t, s.2)) rfl (fun _ _ => ⟨rfl, id, rfl⟩) (fun s => .op rfl (.op rfl (.nil))) rfl rfl (fun s hs => locM_new (loc_appendNil rfl rfl rfl (by first | omega | (simp [lenMax]; omega) | (simp [lenMax]; done) | assumption) (by first | omega | (simp [lenMax]; omega) | (simp [lenMax]; done) | assumption))) (by exact .cons (.inl rfl) (.cons (.inr (.inr fun ⟨a, b⟩ ⟨c, d⟩ h => by have h : c = a := h; subst h; exact rfl)) (.nil))) (fun _ _ => rfl) ?_
         refine da 6 ?_
         refine dq_choose Prod.snd (fun s t => (s.1, t)) rfl (fun _ _ => ⟨rfl, id, rfl⟩) (fun s => .nil) rfl rfl (fun s hs => locM_new (loc_build0 fI)) (by exact .cons (.inr (.inr fun ⟨a, b⟩ ⟨c, d⟩ h => by have h : d = b := h; subst h; exact rfl)) (.cons (.inl rfl) (.nil))) (fun _ _ => rfl) ?_
         refine da 2 ?_
         refine dq_write rfl (fun s => .op rfl (.op rfl (.nil))) rfl rfl (fun s hs => LocM.frz (loc_append rfl rfl rfl (by first | omega | (simp [lenMax]; omega) | (simp [lenMax]; done) | assumption) (by first | omega | (simp [lenMax]; omega) | (simp [lenMax]; done) | assumption)) rfl) (by exact .cons (.inl rfl) (.cons (.inl rfl) (.nil))) ?_
         refine dq_pure rfl (fun s => .op rfl (.op rfl (.op rfl (.op rfl (.nil))))) (fun s hs _ => LocP.imp (d' := dJob ⟨n.read, n.probe, n.version, n.query, []⟩) (loc_build (.one rfl rfl rfl (.one rfl rfl rfl (.one rfl rfl rfl (.one rfl rfl rfl (.nil)))))) (by exact d_aggU (.cons (fun _ _ h => h) (.cons (fun _ _ h => h) (.cons (fun _ _ h => h) (.cons (fun _ _ h => h) (.cons d_nil .nil))))))) (by exact .cons (.inl rfl) (.cons (.inl rfl) (.nil))) ?_
         refine dq_pure rfl (fun s => .op rfl (.nil)) (fun s hs _ => loc_buildSlice rfl rfl (.agg rfl (.nil)) rfl rfl) (by exact .cons (.inl rfl) (.cons (.inl rfl) (.nil))) ?_
         refine dq_write rfl (fun s => .op rfl (.op rfl (.nil))) rfl rfl (fun s hs => LocM.frz (loc_append1 (⟨n.read, n.probe, n.version, n.query, []⟩ : Job) rfl rfl rfl rfl (by first | omega | (simp [lenMax]; omega) | (simp [lenMax]; done) | assumption) (by first | omega | (simp [lenMax]; omega) | (simp [lenMax]; done) | assumption)) rfl) (by exact .cons (.inl rfl) (.cons (.inl rfl) (.nil))) ?_
         refine da 1 ?_
         refine dq_write0 rfl (fun s => .op rfl (.op rfl (.nil))) rfl rfl (fun s hs => loc_store1 rfl rfl rfl) (by exact .cons (.inl rfl) (.cons (.inl rfl) (.nil))) ?_
         refine dq_end (rs := [_, _, _, _]) ((.bool true), 0) rfl (fun _ => rfl) (.cons rfl (.cons rfl (.nil))) rfl (fun _ => rfl) (fun s9 _ => ?_)
         obtain ⟨v109, b116⟩ := s9
         dsimp only [outG, outM, List.map, List.set, id]
         refine au 6 ?_
         have hE : askE v n = 0 := by unfold askE; rw [if_neg (Classical.not_not.2 c1), if_neg c2, if_neg (Classical.not_not.2 c3), if_neg c4, if_neg c5, if_neg (by omega)]
         refine run_retGP Tryz.func24 rfl (.cellN rfl (.there (.there (.here))) (by rfl) (.tmp rfl (.nil))) ?_ (fun _ _ h => inv_tail (inv_tail (inv_tail (inv_tail (h)))))
         exact d_tup2 (d_toSrv (t' := { v with jobs := v.jobs ++ [⟨n.read, n.probe, n.version, n.query, []⟩] }) (by unfold askV; rw [if_pos hE]) (fun _ _ h => h)) (d_int hE.symm)
end Go.Q

namespace Go.Q
open Go.Proofs
open Classical
theorem word_plainX {v : Srv} {j : Job} {rest : List Job} {lie : Int} (hj : v.jobs = j :: rest) : job1 v lie = (⟨j.read, j.probe, j.version, j.query, j.got ++ [(wordX (heldV v j.version) j lie)]⟩ : Job) ∧ note1 v lie = (⟨2, j.read, j.probe, v.id, j.version, j.query, j.got ++ [(wordX (heldV v j.version) j lie)], 0⟩ : Nte) ∧ (moreV v lie ↔ ((j.got ++ [(wordX (heldV v j.version) j lie)]).length : Int) < (heldV v j.version).head.width) := by
 have e0 : v.jobs[0]?.getD default = j := by rw [hj]; rfl
 have e1 : job1 v lie = (⟨j.read, j.probe, j.version, j.query, j.got ++ [(wordX (heldV v j.version) j lie)]⟩ : Job) := by unfold job1; rw [e0]
 refine ⟨e1, by unfold note1; rw [e1], ?_⟩
 unfold moreV; rw [e1, e0]
theorem rnums_spec (n : Nte) (hn : n.query.length ≤ 100000 ∧ n.values.length ≤ 100000) : SpecP Tryz.prog 27 [dNte n] (dInts (numsN n)) := by
 refine specP_of_body Tryz.func27 rfl rfl (fun I M => ?_)
 refine au 19 ?_
 first | refine runL_fact (s := 15) rfl (fun _ _ h => dSl_len h) (fun hlen1 => ?_) | skip
 refine au 1 ?_
 refine run_new (loc_buildOwn (f' := fI) (xs := [n.kind, n.read, n.probe, n.server, n.version, (n.query.length : Nat)]) rfl rfl (.one rfl (.one rfl (.one rfl (.one rfl (.one rfl (.one rfl (.nil))))))) rfl rfl rfl) rfl (fun b2 _ => ?_)
 refine au 3 ?_
 refine dr_start _ (.two (τ1 := Value) (τ2 := Value) 3 8 (fun _ => True) (fun _ => True)) [⟨[(3, none)], [], none⟩,
   ⟨[(1, none)], [], none⟩,
   ⟨[(19, some (1, false))], [1], none⟩,
   ⟨[(18, some (0, false)), (20, some (2, false))], [0, 1, 2], some (0, 0, true)⟩,
   ⟨[(1, none)], [], none⟩,
   ⟨[(22, some (4, false))], [4], none⟩,
   ⟨[(23, some (5, false))], [4, 5], none⟩,
   ⟨[(24, some (6, false))], [4, 5, 6], none⟩,
   ⟨[(21, some (3, false)), (25, some (7, false))], [0, 1, 2, 3, 4, 5, 6, 7], some (0, 1, true)⟩,
   ⟨[(26, some (8, false))], [0, 1, 2, 3, 4, 5, 6, 7, 8], none⟩] [_] _ rfl rfl ?_
 refine da 3 ?_
 refine dq_choose Prod.fst (fun s t => (t, s.2)) rfl (fun _ _ => ⟨rfl, id, rfl⟩) (fun s => .op rfl (.op rfl (.nil))) rfl rfl (fun s hs => loc_append rfl rfl rfl (by first | omega | (simp [lenMax]; omega) | (simp [lenMax]; done) | assumption) (by first | omega | (simp [lenMax]; omega) | (simp [lenMax]; done) | assumption)) (by exact .cons (.inl rfl) (.cons (.inr (.inr fun ⟨a, b⟩ ⟨c, d⟩ h => by have h : c = a := h; subst h; exact rfl)) (.nil))) (fun _ _ => rfl) ?_
 refine da 3 ?_
 refine dq_pure rfl (fun s => .op rfl (.nil)) (fun s hs _ => loc_buildSlice rfl rfl (.one rfl (.nil)) rfl rfl) (by exact .cons (.inr fun _ _ _ => rfl) (.cons (.inr fun _ _ _ => rfl) (.nil))) ?_
 refine dq_choose Prod.snd (fun s t => (s.1, t)) rfl (fun _ _ => ⟨rfl, id, rfl⟩) (fun s => .op rfl (.op rfl (.nil))) rfl rfl (fun s hs => loc_append1 ((n.values.length : Nat) : Int) rfl rfl rfl rfl (by first | omega | (simp [lenMax]; omega) | (simp [lenMax]; done) | assumption) (by first | omega | (simp [lenMax]; omega) | (simp [lenMax]; done) | assumption)) (by exact .cons (.inr (.inl rfl)) (.cons (.inl rfl) (.nil))) (fun _ _ => rfl) ?_
 refine da 1 ?_
 refine dq_end (rs := [_]) ((.bool true), (.bool true)) rfl (fun _ => rfl) (.cons rfl (.cons rfl (.nil))) rfl (fun _ => rfl) (fun s9 _ => ?_)
 obtain ⟨v21, v26⟩ := s9
 dsimp only [outG, outM, List.map, List.set, id]
 refine au 5 ?_
 refine run_upd (LocM.frz (loc_append rfl rfl rfl (by first | omega | (simp [lenMax]; omega) | (simp [lenMax]; done) | assumption) (by first | omega | (simp [lenMax]; omega) | (simp [lenMax]; done) | assumption)) rfl) rfl (.here) (fun v3 hv3 => ?_)
 refine au 2 ?_
 refine run_drop (.cons _ (.refl _)) ?_
 refine run_retP Tryz.func27 rfl rfl ?_
 exact d_toInts (by unfold numsN; simp) (fun _ _ h => h)
theorem rwordN_spec (v : Srv) (p : Psn) (lie : Int) (hno : ¬ v.up ∨ v.jobs.length = 0) : SpecP Tryz.prog 29 [dSrv v, dPsn p, dInt .i64 lie] (dTup [dSrv (wordV v p lie), dNte (wordN v p lie), dB (wordR v p lie), dInt .i64 (wordE v p lie)]) := by
  refine specP_of_body Tryz.func29 rfl rfl (fun I M => ?_)
  refine au 2 ?_
  refine run_new (loc_boxOwnN rfl) rfl (fun b1 _ => ?_)
  refine au 1 ?_
  refine run_new (loc_allocOwn (by simp)) rfl (fun b2 _ => ?_)
  refine run_new (loc_allocOwn (by simp)) rfl (fun b3 _ => ?_)
  refine au 10 ?_
  refine run_cond rfl (fun h4 => ?_) (fun h4 => ?_)
  ·
   have c1 := h4
   refine au 9 ?_
   refine run_retGP Tryz.func29 rfl (.cellN rfl (.there (.here)) (by rfl) (.cellN rfl (.here) (by rfl) (.tmp rfl (.tmp rfl (.nil))))) ?_ (fun _ _ h => inv_tail (inv_tail (inv_tail (h))))
   exact d_tup4 (d_toSrv (by unfold wordV; rw [if_pos hno]) (fun _ _ h => h)) (d_toNte (t' := nte0) (by unfold wordN; rw [if_neg (fun hc => hno.elim (fun h => h hc.1) hc.2.1)]) (d_aggU (.cons (d_int rfl) (.cons (d_int rfl) (.cons (d_int rfl) (.cons (d_int rfl) (.cons (d_int rfl) (.cons d_nil (.cons d_nil (.cons (d_int rfl) .nil)))))))))) (d_B ⟨False.elim, fun hc => hno.elim (fun h => h hc.1) hc.2.1⟩) (d_int (by unfold wordE; rw [if_pos c1]))
  ·
   have c1 := Classical.not_not.1 h4
   refine au 6 ?_
   first | refine runL_fact (s := 27) rfl (fun _ _ h => dSl_len h) (fun hlen5 => ?_) | skip
   refine au 3 ?_
   refine run_cond rfl (fun h6 => ?_) (fun h6 => ?_)
   ·
    have c2 := h6
    refine au 9 ?_
    refine run_retGP Tryz.func29 rfl (.cellN rfl (.there (.here)) (by rfl) (.cellN rfl (.here) (by rfl) (.tmp rfl (.tmp rfl (.nil))))) ?_ (fun _ _ h => inv_tail (inv_tail (inv_tail (h))))
    exact d_tup4 (d_toSrv (by unfold wordV; rw [if_pos hno]) (fun _ _ h => h)) (d_toNte (t' := nte0) (by unfold wordN; rw [if_neg (fun hc => hno.elim (fun h => h hc.1) hc.2.1)]) (d_aggU (.cons (d_int rfl) (.cons (d_int rfl) (.cons (d_int rfl) (.cons (d_int rfl) (.cons (d_int rfl) (.cons d_nil (.cons d_nil (.cons (d_int rfl) .nil)))))))))) (d_B ⟨False.elim, fun hc => hno.elim (fun h => h hc.1) hc.2.1⟩) (d_int (by unfold wordE; rw [if_neg (Classical.not_not.2 c1), if_pos (by omega)]))
   · exfalso; rcases hno with h5 | h5; (· exact h5 c1); (· omega)
theorem rword_spec (v : Srv) (p : Psn) (lie : Int) (hok : okI v) (hup : v.up) (j : Job) (rest : List Job) (hj : v.jobs = j :: rest) : SpecP Tryz.prog 29 [dSrv v, dPsn p, dInt .i64 lie] (dTup [dSrv (wordV v p lie), dNte (wordN v p lie), dB (wordR v p lie), dInt .i64 (wordE v p lie)]) := by
  have hpl := word_plainX (lie := lie) hj
  have hjl : v.jobs.length = rest.length + 1 := by rw [hj]; rfl
  have hj0 : v.jobs[(0 : Int).toNat]?.getD default = j := by rw [hj]; rfl
  have hjf := job_first hok hj
  have hjk := hjf.2
  have hat := hjf.1.1
  have hfr := findR_pos hjf.1
  have hhv : v.versions[((atV v j.version : Nat) : Int).toNat]?.getD default = heldV v j.version := rfl
  have hjb := hok.1.2.1
  have hp1 := hjk.1.1.1
  have hp2 := hjk.1.1.2.1
  have hwd := hjk.1.2.1
  have hrl := hjk.1.2.2.1
  have hql := hjk.2.1
  have hlb := tmod_bd lie (heldV v j.version).head.p (by omega)
  have hlm := mod_bd lie (show 0 < (heldV v j.version).head.p by omega)
  have hl2 := mod_bd (lie.tmod (heldV v j.version).head.p + (heldV v j.version).head.p) (show 0 < (heldV v j.version).head.p by omega)
  have hcw := comb_word (lie := lie) hjk.1 hjk.2.1 hjk.2.2.2.1
  have hcl := combN_ok (p := (heldV v j.version).head.p) hp1 (heldV v j.version).head.width.toNat (heldV v j.version).rows j.query (heldV v j.version).rows.length
  have hcl1 := hcl.1
  have hgw := hjk.2.2.2.1
  have hcx := hcl.2 _ (getD_mem (xs := (combN (heldV v j.version).head.p (heldV v j.version).head.width.toNat (heldV v j.version).rows j.query (heldV v j.version).rows.length)) (k := j.got.length) (by omega))
  unfold hasP at hcx
  have hgl : (j.got ++ [(wordX (heldV v j.version) j lie)]).length = j.got.length + 1 := by simp
  have hnz : ((⟨2, j.read, j.probe, v.id, j.version, j.query, j.got ++ [(wordX (heldV v j.version) j lie)], 0⟩ : Nte)).query.length ≤ 100000 ∧ ((⟨2, j.read, j.probe, v.id, j.version, j.query, j.got ++ [(wordX (heldV v j.version) j lie)], 0⟩ : Nte)).values.length ≤ 100000 := ⟨by show j.query.length ≤ 100000; omega, by show (j.got ++ [(wordX (heldV v j.version) j lie)]).length ≤ 100000; omega⟩
  have hnn : ¬ (¬ v.up ∨ v.jobs.length = 0) := by rintro (h | h); (· exact h hup); (· omega)
  refine specP_of_body Tryz.func29 rfl rfl (fun I M => ?_)
  refine au 2 ?_
  refine run_new (loc_boxOwnN rfl) rfl (fun b1 _ => ?_)
  refine au 1 ?_
  refine run_new (loc_allocOwn (by simp)) rfl (fun b2 _ => ?_)
  refine run_new (loc_allocOwn (by simp)) rfl (fun b3 _ => ?_)
  refine au 10 ?_
  refine run_cond rfl (fun h4 => ?_) (fun h4 => ?_)
  · exfalso; exact h4 hup
  ·
   refine au 6 ?_
   first | refine runL_fact (s := 27) rfl (fun _ _ h => dSl_len h) (fun hlen5 => ?_) | skip
   refine au 3 ?_
   refine run_cond rfl (fun h6 => ?_) (fun h6 => ?_)
   · exfalso; omega
   ·
    refine au 7 ?_
    refine run_new (loc_allocOwn (by simp)) rfl (fun b7 _ => ?_)
    refine au 2 ?_
    rw [hj0]
    refine au 1 ?_
    refine run_addNone ?_
    refine dr_start _ (.one (σ := Nat) 8 (fun _ => True)) [⟨[(3, none)], [], none⟩,
        ⟨[(36, some (0, false))], [0], some (4, 0, false)⟩,
        ⟨[(3, none)], [], some (4, 0, false)⟩,
        ⟨[(10, none)], [], none⟩,
        ⟨[(39, some (3, false))], [3], some (1, 0, false)⟩,
        ⟨[(38, some (2, false)), (40, some (4, false))], [2, 3, 4], none⟩,
        ⟨[(37, some (1, false)), (41, some (5, false))], [0, 1, 2, 3, 4, 5], none⟩,
        ⟨[(42, some (6, false))], [0, 1, 2, 3, 4, 5, 6], none⟩,
        ⟨[], [], some (0, 0, true)⟩,
        ⟨[(11, some (8, false)), (43, some (7, false))], [0, 1, 2, 3, 4, 5, 6, 7, 8], some (0, 1, true)⟩] [_, _, _, _, _] _ rfl rfl ?_
    refine da 5 ?_
    refine dq_pure rfl (fun s => .op rfl (.op rfl (.nil))) (fun s hs _ => loc_call (rfind30_spec v j.version (okI_asc hok)) rfl) (by exact .cons (.inr fun _ _ _ => rfl) (.nil)) ?_
    refine da 2 ?_
    refine dq_choose id (fun _ t => t) rfl (fun _ _ => ⟨rfl, id, trivial⟩) (fun s => .nil) rfl rfl (fun s hs => locM_new (loc_allocOwn (by simp))) (by exact .cons (.inl rfl) (.nil)) (fun _ _ => rfl) ?_
    refine dq_write0 rfl (fun s => .op rfl (.op rfl (.nil))) rfl rfl (fun s hs => loc_storeN (ho := (by show OneAll [_, _, _, _, _, _]; infer_instance)) rfl rfl rfl) (by exact .cons (.inl rfl) (.nil)) ?_
    refine dq_end (rs := [_, _, _, _, _]) 0 rfl (fun _ => rfl) (.cons rfl (.nil)) rfl (fun _ => rfl) (fun b8 _ => ?_)
    dsimp only [outG, outM, List.map, List.set, id]
    rw [hfr, hhv]
    refine au 6 ?_
    refine run_new (loc_allocOwn (by simp)) rfl (fun b9 _ => ?_)
    refine au 12 ?_
    refine run_op (loc_call (answer23_spec (heldV v j.version).head.p (heldV v j.version).head.width (heldV v j.version).rows j.query hjk.1.1 (by omega) hjk.2.1 hjk.1.2.2.2 hjk.2.2.1) rfl) rfl ?_
    refine au 11 ?_
    first | refine runL_fact (s := 62) rfl (fun _ _ h => dSl_len h) (fun hlen10 => ?_) | skip
    refine au 10 ?_
    first | refine runL_fact (s := 67) rfl (fun _ _ h => dSl_len h) (fun hlen11 => ?_) | skip
    refine au 3 ?_
    refine run_joinC (σ := Int) (ks := [3, 4, 6, 7, 10, 11]) (.cons rfl (.cons rfl (.cons rfl (.cons rfl (.cons rfl (.cons rfl (.nil))))))) (fun y => [(15, dInt .i64 y)]) (fun y => y = (wordX (heldV v j.version) j lie)) (fun j12 => ?_) ?_
    ·
     refine run_cond rfl (fun h13 => ?_) (fun h13 => ?_)
     ·
      have g3 := h13
      refine dr_start _ (.none) [⟨[(15, none)], [], none⟩,
          ⟨[(2, none)], [], none⟩,
          ⟨[(12, none)], [], none⟩,
          ⟨[(72, some (2, false))], [2], some (0, 0, false)⟩,
          ⟨[(71, some (1, false)), (73, some (3, false))], [1, 2, 3], none⟩,
          ⟨[(12, none)], [], none⟩,
          ⟨[(75, some (5, false))], [5], some (0, 0, false)⟩,
          ⟨[(74, some (4, false)), (76, some (6, false))], [1, 2, 3, 4, 5, 6], none⟩,
          ⟨[(12, none)], [], none⟩,
          ⟨[(78, some (8, false))], [8], some (0, 0, false)⟩,
          ⟨[(77, some (7, false)), (79, some (9, false))], [1, 2, 3, 4, 5, 6, 7, 8, 9], none⟩,
          ⟨[(70, some (0, false)), (80, some (10, false))], [0, 1, 2, 3, 4, 5, 6, 7, 8, 9, 10], none⟩,
          ⟨[(12, none)], [], none⟩,
          ⟨[(82, some (12, false))], [12], some (0, 0, false)⟩,
          ⟨[(81, some (11, false)), (83, some (13, false))], [0, 1, 2, 3, 4, 5, 6, 7, 8, 9, 10, 11, 12, 13], none⟩,
          ⟨[(84, some (14, false))], [0, 1, 2, 3, 4, 5, 6, 7, 8, 9, 10, 11, 12, 13, 14], none⟩] [_, _, _, _, _, _] _ rfl rfl ?_
      refine da 16 ?_
      refine dq_end (rs := [_, _, _, _, _, _]) () rfl (fun _ => rfl) (.nil) rfl (fun _ => rfl) (fun _ _ => ?_)
      dsimp only [outG, outM, List.map, List.set, id]
      exact run_atC j12 (((combN (heldV v j.version).head.p (heldV v j.version).head.width.toNat (heldV v j.version).rows j.query (heldV v j.version).rows.length)[j.got.length]?.getD default + lie % (heldV v j.version).head.p) % (heldV v j.version).head.p) (by rw [hcw, if_pos (by omega)]) (.cons rfl (d_int (by rw [mod_twice _ _ (by omega)])) .nil) (.cons rfl (fun _ _ x => x) (.cons rfl (fun _ _ x => x) (.cons rfl (fun _ _ x => x) (.cons rfl (fun _ _ x => x) (.cons rfl (fun _ _ x => x) (.cons rfl (fun _ _ x => x) (.nil)))))))
     ·
      have g3 := h13
      refine au 1 ?_
      exact run_atC j12 ((combN (heldV v j.version).head.p (heldV v j.version).head.width.toNat (heldV v j.version).rows j.query (heldV v j.version).rows.length)[j.got.length]?.getD default) (by rw [hcw, if_neg (by omega)]) (.cons rfl (by first | exact fun _ _ h => h | exact d_int (by omega) | exact d_int (by simp) | exact d_intN (by omega) | exact d_any) .nil) (.cons rfl (fun _ _ x => x) (.cons rfl (fun _ _ x => x) (.cons rfl (fun _ _ x => x) (.cons rfl (fun _ _ x => x) (.cons rfl (fun _ _ x => x) (.cons rfl (fun _ _ x => x) (.nil)))))))
    rintro y rfl
    refine au 9 ?_
    refine run_new (loc_appendNil rfl rfl rfl (by first | omega | (simp [lenMax]; omega) | (simp [lenMax]; done) | assumption) (by first | omega | (simp [lenMax]; omega) | (simp [lenMax]; done) | assumption)) rfl (fun b14 _ => ?_)
    refine au 1 ?_
    refine run_op (loc_buildSlice rfl rfl (.one rfl (.nil)) rfl rfl) rfl ?_
    refine run_append1 rfl (.here) rfl (by rfl) (by rfl) (by first | omega | (simp [lenMax]; omega) | (simp [lenMax]; done) | assumption) (by first | omega | (simp [lenMax]; omega) | (simp [lenMax]; done) | assumption) rfl (fun v15 => ?_)
    refine au 16 ?_
    refine run_cond rfl (fun h16 => ?_) (fun h16 => ?_)
    ·
     have c3 := h16
     refine au 1 ?_
     refine run_freezeRow (s := 16) rfl (.here) ?_
     refine au 6 ?_
     refine run_addNone ?_
     refine dr_start _ (.one (σ := Value) 3 (fun _ => True)) [⟨[(17, none)], [], none⟩,
         ⟨[(10, none)], [], some (3, 0, false)⟩,
         ⟨[(101, some (1, false))], [1], none⟩,
         ⟨[(100, some (0, false)), (102, some (2, false))], [0, 1, 2], some (0, 0, true)⟩,
         ⟨[(3, none)], [], none⟩,
         ⟨[(104, some (4, false))], [4], some (6, 0, false)⟩,
         ⟨[(105, some (5, false))], [4, 5], none⟩,
         ⟨[(103, some (3, false)), (106, some (6, false))], [0, 1, 2, 3, 4, 5, 6], some (0, 1, true)⟩,
         ⟨[(107, some (7, false))], [0, 1, 2, 3, 4, 5, 6, 7], none⟩] [_, _, _, _, _, _, _] _ rfl rfl ?_
     refine da 2 ?_
     refine dq_pure rfl (fun s => .op rfl (.nil)) (fun s hs _ => LocP.imp (loc_buildSlice rfl rfl (.agg rfl (.nil)) rfl rfl) (d_sl (ys := [(⟨j.read, j.probe, j.version, j.query, j.got ++ [(wordX (heldV v j.version) j lie)]⟩ : Job)]) (h := cJob) rfl)) (by exact .cons (.inr fun _ _ _ => rfl) (.nil)) ?_
     refine dq_choose id (fun _ t => t) rfl (fun _ _ => ⟨rfl, id, trivial⟩) (fun s => .op rfl (.op rfl (.nil))) rfl rfl (fun s hs => locM_new (loc_appendNil rfl rfl rfl (by simp [lenMax]) (by simp [lenMax]))) (by exact .cons (.inl rfl) (.nil)) (fun _ _ => rfl) ?_
     refine da 2 ?_
     refine dq_pure rfl (fun s => .op rfl (.nil)) (fun s hs _ => loc_sliceFrom rfl rfl (by first | omega | assumption)) (by exact .cons (.inr fun _ _ _ => rfl) (.nil)) ?_
     refine dq_write rfl (fun s => .op rfl (.op rfl (.nil))) rfl rfl (fun s hs => LocM.frz (loc_append rfl rfl rfl (by first | omega | (simp [lenMax]; omega) | (simp [lenMax]; done) | assumption) (by first | omega | (simp [lenMax]; omega) | (simp [lenMax]; done) | assumption)) rfl) (by exact .cons (.inl rfl) (.nil)) ?_
     refine da 1 ?_
     refine dq_end (rs := [_, _, _, _, _, _, _]) (.bool true) rfl (fun _ => rfl) (.cons rfl (.nil)) rfl (fun _ => rfl) (fun v103 _ => ?_)
     dsimp only [outG, outM, List.map, List.set, id]
     refine au 15 ?_
     refine run_retGP Tryz.func29 rfl (.cellN rfl (.there (.there (.there (.there (.there (.here)))))) (by rfl) (.cellN rfl (.there (.there (.there (.there (.here))))) (by rfl) (.tmp rfl (.tmp rfl (.nil))))) ?_ (fun _ _ h => inv_tail (inv_tail (inv_tail (inv_tail (inv_tail (inv_tail (inv_tail (h))))))))
     exact d_tup4 (d_toSrv (t' := { v with jobs := (⟨j.read, j.probe, j.version, j.query, j.got ++ [(wordX (heldV v j.version) j lie)]⟩ : Job) :: rest }) (by unfold wordV; rw [if_neg hnn, if_pos (hpl.2.2.2 c3), hpl.1, hj]; rfl) (by rw [hj]; exact fun _ _ h => h)) (d_toNte (t' := nte0) (by unfold wordN; rw [if_neg (fun hc => hc.2.2.1 (hpl.2.2.2 c3))]) (d_aggU (.cons (d_int rfl) (.cons (d_int rfl) (.cons (d_int rfl) (.cons (d_int rfl) (.cons (d_int rfl) (.cons d_nil (.cons d_nil (.cons (d_int rfl) .nil)))))))))) (d_B ⟨False.elim, fun hc => hc.2.2.1 (hpl.2.2.2 c3)⟩) (d_int (by unfold wordE; rw [if_neg (Classical.not_not.2 hup), if_neg (by omega), if_pos (hpl.2.2.2 c3)]))
    ·
     have c3 := h16
     refine au 2 ?_
     refine run_freezeRow (s := 16) rfl (.here) ?_
     have hmo : ¬ moreV v lie := fun hc => c3 (hpl.2.2.1 hc)
     refine run_addNone ?_
     refine run_addNone ?_
     refine dr_start _ (.two (τ1 := Nat) (τ2 := Nat) 8 14 (fun _ => True) (fun _ => True)) [⟨[(10, none)], [], none⟩,
         ⟨[(112, some (0, false))], [0], some (4, 0, false)⟩,
         ⟨[(10, none)], [], none⟩,
         ⟨[(114, some (2, false))], [2], some (4, 0, false)⟩,
         ⟨[(3, none)], [], none⟩,
         ⟨[(116, some (4, false))], [4], some (7, 0, false)⟩,
         ⟨[(10, none)], [], none⟩,
         ⟨[(118, some (6, false))], [6], some (4, 0, false)⟩,
         ⟨[], [], some (1, 0, true)⟩,
         ⟨[(10, none)], [], none⟩,
         ⟨[(121, some (9, false))], [9], some (4, 0, false)⟩,
         ⟨[(120, some (8, false)), (122, some (10, false))], [8, 9, 10], some (1, 1, true)⟩,
         ⟨[(16, none)], [], none⟩,
         ⟨[(113, some (1, false)), (115, some (3, false)), (117, some (5, false)), (119, some (7, false)), (123, some (11, false)), (124, some (12, false))], [0, 1, 2, 3, 4, 5, 6, 7, 8, 9, 10, 11, 12], none⟩,
         ⟨[], [], some (0, 0, true)⟩,
         ⟨[(18, some (14, false)), (125, some (13, false))], [0, 1, 2, 3, 4, 5, 6, 7, 8, 9, 10, 11, 12, 13, 14], some (0, 1, true)⟩] [_, _, _, _, _, _, _, _] _ rfl rfl ?_
     refine da 8 ?_
     refine dq_choose Prod.fst (fun s t => (t, s.2)) rfl (fun _ _ => ⟨rfl, id, rfl⟩) (fun s => .nil) rfl rfl (fun s hs => locM_new (loc_build0 fI)) (by exact .cons (.inl rfl) (.cons (.inr (.inr fun ⟨a, b⟩ ⟨c, d⟩ h => by have h : c = a := h; subst h; exact rfl)) (.nil))) (fun _ _ => rfl) ?_
     refine da 2 ?_
     refine dq_write rfl (fun s => .op rfl (.op rfl (.nil))) rfl rfl (fun s hs => LocM.frz (loc_append rfl rfl rfl (by first | omega | (simp [lenMax]; omega) | (simp [lenMax]; done) | assumption) (by first | omega | (simp [lenMax]; omega) | (simp [lenMax]; done) | assumption)) rfl) (by exact .cons (.inl rfl) (.cons (.inr fun ⟨a, b⟩ ⟨c, d⟩ h => by have h : c = a := h; subst h; exact ⟨rfl, rfl⟩) (.nil))) ?_
     refine da 1 ?_
     refine dq_pure rfl (fun s => .op rfl (.op rfl (.op rfl (.op rfl (.op rfl (.op rfl (.nil))))))) (fun s hs _ => LocP.imp (d' := dNte (⟨2, j.read, j.probe, v.id, j.version, j.query, j.got ++ [(wordX (heldV v j.version) j lie)], 0⟩ : Nte)) (loc_build (.one rfl rfl rfl (.one rfl rfl rfl (.one rfl rfl rfl (.one rfl rfl rfl (.one rfl rfl rfl (.one rfl rfl rfl (.one rfl rfl rfl (.nil))))))))) (by exact d_aggU (.cons (fun _ _ h => h) (.cons (fun _ _ h => h) (.cons (fun _ _ h => h) (.cons (fun _ _ h => h) (.cons (fun _ _ h => h) (.cons (fun _ _ h => h) (.cons (fun _ _ h => h) (.cons (fun _ _ h => h) (.nil))))))))))) (by exact .cons (.inl rfl) (.cons (.inr fun ⟨a, b⟩ ⟨c, d⟩ h => by have h : c = a := h; subst h; exact rfl) (.nil))) ?_
     refine dq_choose Prod.snd (fun s t => (s.1, t)) rfl (fun _ _ => ⟨rfl, id, rfl⟩) (fun s => .nil) rfl rfl (fun s hs => locM_new (loc_allocOwn (by simp))) (by exact .cons (.inr (.inr fun ⟨a, b⟩ ⟨c, d⟩ h => by have h : d = b := h; subst h; exact rfl)) (.cons (.inl rfl) (.nil))) (fun _ _ => rfl) ?_
     refine dq_write0 rfl (fun s => .op rfl (.op rfl (.nil))) rfl rfl (fun s hs => loc_storeN (ho := (by show OneAll [_, _, _, _, _, _, _, _]; infer_instance)) rfl rfl rfl) (by exact .cons (.inl rfl) (.cons (.inl rfl) (.nil))) ?_
     refine dq_end (rs := [_, _, _, _, _, _, _, _]) (0, 0) rfl (fun _ => rfl) (.cons rfl (.cons rfl (.nil))) rfl (fun _ => rfl) (fun s9 _ => ?_)
     obtain ⟨b18, b19⟩ := s9
     dsimp only [outG, outM, List.map, List.set, id]
     refine au 1 ?_
     refine dr_start _ (.none) [⟨[(4, none)], [], none⟩,
         ⟨[(127, some (0, false))], [0], none⟩,
         ⟨[(18, none)], [], some (0, 0, false)⟩,
         ⟨[(129, some (2, false))], [2], none⟩,
         ⟨[(128, some (1, false)), (130, some (3, false))], [0, 1, 2, 3], none⟩,
         ⟨[(131, some (4, false))], [0, 1, 2, 3, 4], none⟩,
         ⟨[(126, some (5, false))], [0, 1, 2, 3, 4, 5], none⟩,
         ⟨[(126, some (5, false))], [0, 1, 2, 3, 4, 5], none⟩,
         ⟨[(132, some (6, false))], [0, 1, 2, 3, 4, 5, 6], none⟩,
         ⟨[(133, some (7, false))], [0, 1, 2, 3, 4, 5, 6, 7, 8], none⟩] [_, _, _, _, _, _, _, _] _ rfl rfl ?_
     refine da 3 ?_
     refine dq_pure rfl (fun s => .op rfl (.nil)) (fun s hs _ => loc_call (rnums_spec (⟨2, j.read, j.probe, v.id, j.version, j.query, j.got ++ [(wordX (heldV v j.version) j lie)], 0⟩ : Nte) hnz) rfl) (by exact .nil) ?_
     refine dq_pure rfl (fun s => .op rfl (.op rfl (.nil))) (fun s hs _ => loc_call (rsign_spec _ _) rfl) (by exact .nil) ?_
     refine da 5 ?_
     refine dq_end (rs := [_, _, _, _, _, _, _, _]) () rfl (fun _ => rfl) (.nil) rfl (fun _ => rfl) (fun _ _ => ?_)
     dsimp only [outG, outM, List.map, List.set, id]
     refine au 6 ?_
     refine run_cond rfl (fun h20 => ?_) (fun h20 => ?_)
     ·
      have c4 := h20
      refine au 10 ?_
      refine run_retGP Tryz.func29 rfl (.cellN rfl (.there (.there (.there (.there (.there (.there (.here))))))) (by rfl) (.cellN rfl (.there (.there (.there (.there (.there (.here)))))) (by rfl) (.tmp rfl (.tmp rfl (.nil))))) ?_ (fun _ _ h => inv_tail (inv_tail (inv_tail (inv_tail (inv_tail (inv_tail (inv_tail (inv_tail (h)))))))))
      exact d_tup4 (d_toSrv (t' := v) (by unfold wordV; rw [if_neg hnn, if_neg hmo, hpl.2.1, if_neg c4]) (fun _ _ h => h)) (d_toNte (t' := nte0) (by unfold wordN; rw [if_neg (fun hc => c4 (by have := hc.2.2.2; rwa [hpl.2.1] at this))]) (d_aggU (.cons (d_int rfl) (.cons (d_int rfl) (.cons (d_int rfl) (.cons (d_int rfl) (.cons (d_int rfl) (.cons d_nil (.cons d_nil (.cons (d_int rfl) .nil)))))))))) (d_B ⟨False.elim, fun hc => c4 (by have := hc.2.2.2; rwa [hpl.2.1] at this)⟩) (d_int (by unfold wordE; rw [if_neg (Classical.not_not.2 hup), if_neg (by omega), if_neg hmo, hpl.2.1]))
     ·
      have c4 := Classical.not_not.1 h20
      refine au 2 ?_
      have hwr : wordR v p lie := ⟨hup, by omega, hmo, by rw [hpl.2.1]; exact c4⟩
      refine au 10 ?_
      refine run_op (loc_sliceFrom rfl rfl (by first | omega | assumption)) rfl ?_
      refine run_op (LocM.frz0 (loc_appendNil rfl rfl rfl (by first | omega | (simp [lenMax]; omega) | (simp [lenMax]; done) | assumption) (by first | omega | (simp [lenMax]; omega) | (simp [lenMax]; done) | assumption))) rfl ?_
      refine au 4 ?_
      refine dr_start _ (.none) [⟨[(3, none)], [], some (7, 0, false)⟩,
          ⟨[(18, none)], [], some (0, 0, false)⟩,
          ⟨[(6, none), (147, some (0, false))], [0], some (6, 0, true)⟩,
          ⟨[(7, none), (148, some (1, false))], [0, 1, 2], some (5, 0, true)⟩,
          ⟨[], [0, 1, 2, 3], none⟩,
          ⟨[], [0, 1, 2, 3, 4], none⟩] [_, _, _, _, _, _, _, _] _ rfl rfl ?_
      refine da 2 ?_
      refine dq_write0 rfl (fun s => .g rfl (.op rfl (.nil))) rfl rfl (fun s hs => loc_storeN (ho := (by show OneAll [_, _, _, _, _, _, _, _]; infer_instance)) rfl rfl rfl) (by exact .nil) ?_
      refine dq_write0 rfl (fun s => .g rfl (.op rfl (.nil))) rfl rfl (fun s hs => loc_storeN (ho := (by show OneAll [_, _, _, _, _, _, _, _]; infer_instance)) rfl rfl rfl) (by exact .nil) ?_
      refine da 2 ?_
      refine dq_end (rs := [_, _, _, _, _, _, _, _]) () rfl (fun _ => rfl) (.nil) rfl (fun _ => rfl) (fun _ _ => ?_)
      dsimp only [outG, outM, List.map, List.set, id]
      refine run_retGP Tryz.func29 rfl (.cellN rfl (.there (.there (.there (.there (.there (.there (.here))))))) (by rfl) (.cellN rfl (.there (.there (.there (.there (.there (.here)))))) (by rfl) (.tmp rfl (.tmp rfl (.nil))))) ?_ (fun _ _ h => inv_tail (inv_tail (inv_tail (inv_tail (inv_tail (inv_tail (inv_tail (inv_tail (h)))))))))
      exact d_tup4 (d_toSrv (t' := { v with jobs := rest }) (by unfold wordV; rw [if_neg hnn, if_neg hmo, hpl.2.1, if_pos c4, hj]; rfl) (by rw [hj]; exact fun _ _ h => h)) (d_toNte (t' := { (⟨2, j.read, j.probe, v.id, j.version, j.query, j.got ++ [(wordX (heldV v j.version) j lie)], 0⟩ : Nte) with mark := signM p.secret (numsN (⟨2, j.read, j.probe, v.id, j.version, j.query, j.got ++ [(wordX (heldV v j.version) j lie)], 0⟩ : Nte)) }) (by unfold wordN; rw [if_pos hwr, hpl.2.1]) (fun _ _ h => h)) (d_B ⟨fun _ => hwr, fun _ => trivial⟩) (d_int (by unfold wordE; rw [if_neg (Classical.not_not.2 hup), if_neg (by omega), if_neg hmo, hpl.2.1, c4]))
end Go.Q

namespace Go.Q
variable {P : Program} {N : Nat} {g : G} {M : List Res}
variable {dst : Option Tmp} {ty : TypeId} {pos : String} {after : Array Edge} {gd : Option (Nat × Bool)}
instance (f : FuncId) : One (dVal (.func (.func f) #[] #[])) := ⟨fun h => by rw [show _ = _ from h]; exact ⟨rfl, rfl⟩⟩
def entB (k : Int) : Value × Value := (.int .i64 k, .bool true)
def rSet (b : Nat) (ks : List Int) : Res :=
 ⟨some b, fun _ o => ∃ ms clock, o = some (.map ms clock) ∧ ms.toList.map (fun e => (e.key, e.val)) = ks.map entB, fun _ h => h⟩
theorem own_set {I : Imm} {b : Nat} {ks : List Int} {w : World} (h : Inv I M w) (hm : rSet b ks ∈ M) : ∃ ms clock, w.heap[b]? = some (.map ms clock) ∧ ms.toList.map (fun e => (e.key, e.val)) = ks.map entB := by
 obtain ⟨_, o, h1, ms, clock, h2, h3⟩ := h.own _ hm
 injection h2 with h2
 subst h2
 exact ⟨ms, clock, h1, h3⟩
theorem findB {a : Int} : ∀ {l : List MapEntry} {ks : List Int} {i : Nat}, l.map (fun e => (e.key, e.val)) = ks.map entB → a ∉ ks → Instr.findNow (.int .i64) (.int .i64 a) l i = some none
 | [], [], i, _, _ => rfl
 | e :: l, p :: ks, i, h, hn => by
  simp only [List.map_cons, List.cons.injEq, entB, Prod.mk.injEq] at h
  obtain ⟨⟨h1, h2⟩, h3⟩ := h
  have hc : a ≠ p := fun e => hn (by rw [e]; exact List.mem_cons_self ..)
  have g1 := findB (a := a) (i := i + 1) h3 (fun h => hn (List.mem_cons_of_mem _ h))
  have hb : (a == p) = false := by simpa using hc
  simp only [Instr.findNow, h1, Instr.sameNow, if_true, hb, g1]
 | [], _ :: _, _, h, _ => by simp at h
 | _ :: _, [], _, h, _ => by simp at h
theorem loc_makeSet {t : TypeId} : LocM P ⟨dst, .makeMap t none, ty, pos, after, gd⟩ g N [] (fun _ : Nat => True) (fun b => dVal (.map (some b))) (fun b => [rSet b []]) := by
 constructor
 intro F I a w K Q hs hi hK
 unfold Oper.wp
 have hrun : (execOp a.eval ⟨dst, .makeMap t none, ty, pos, after, gd⟩).run P w = .ok (.value (.map (some w.heap.size))) (w.alloc (.map #[] 0)) := by
  simp [execOp, Instr.makeMap]
 rw [hrun]
 exact hK w.heap.size _ _ I trivial I.le_refl rfl (hi.allocOwn _ _ rfl ⟨#[], 0, rfl, rfl⟩)
theorem loc_notIn {t kt et : TypeId} [ht : TyMap P t kt et] {bytes : Nat} [hz : TyZ P et bytes (.bool false)] {x y : Operand} {b : Nat} {a : Int} {ks : List Int} (hx : opd g x = some (dVal (.map (some b)))) (hy : opd g y = some (dInt .i64 a)) (hm : In (rSet b ks) M) (hl : a ∉ ks) :
  LocP P ⟨dst, .lookup t x y false, ty, pos, after, gd⟩ g N M (dB False) :=
 locP_of_run fun I st w hs hinv => by
  have hp : st.eval x = .map (some b) := opd_sound hs hx
  have hk : st.eval y = .int .i64 a := opd_sound hs hy
  obtain ⟨ms, clock, h1, h2⟩ := own_set hinv hm.mem
  refine ⟨.bool false, ?_, ⟨false, rfl, by simp⟩⟩
  have hck : ∀ e n, (Instr.checkKey e (n + 1) kt (.int .i64 a)).run P w = .ok () w := fun e n => by
   unfold Instr.checkKey
   simp [run_underlying ht.key]
  have hf := MapKept.run_findKey (P := P) (w := w) ht.key (findB (i := 0) h2 hl)
  have hzv : (zeroValue et).run P w = .ok (.bool false) w := by
   have h := hz.eq
   cases hin : P.info? et with
   | none => simp [hin] at h
   | some i =>
    rw [hin] at h
    simp only [Option.map_some, Option.some.injEq, Prod.mk.injEq] at h
    simp [zeroValue, typeInfo, hin, h.2]
  simp [execOp, hp, hk, Instr.lookup, run_underlying ht.eq, MapKept.run_getObj_map h1, hck _ 9999, hf, hzv]
theorem loc_insertB {t kt et : TypeId} [ht : TyMap P t kt et] {x y z : Operand} {b : Nat} {a : Int} {ks : List Int} {T : Prop} (hT : T) (hx : opd g x = some (dVal (.map (some b)))) (hy : opd g y = some (dInt .i64 a)) (hz : opd g z = some (dB T)) (hl : a ∉ ks) :
  LocM P ⟨none, .mapUpdate t x y z, ty, pos, after, gd⟩ g N [rSet b ks] (fun _ : Unit => True) (fun _ => dTop) (fun _ => [rSet b (ks ++ [a])]) := by
 constructor
 intro F I st w K Q hs hi hK
 have hp : st.eval x = .map (some b) := opd_sound hs hx
 have hk : st.eval y = .int .i64 a := opd_sound hs hy
 have hv : st.eval z = .bool true := by
  obtain ⟨c, hc1, hc2⟩ := opd_sound hs hz
  rw [hc1, hc2.2 hT]
 obtain ⟨ms, clock, h1, h2⟩ := own_set hi (List.mem_cons_self ..)
 have hck : ∀ e n, (Instr.checkKey e (n + 1) kt (.int .i64 a)).run P w = .ok () w := fun e n => by
  unfold Instr.checkKey
  simp [run_underlying ht.key]
 have hf := MapKept.run_findKey (P := P) (w := w) ht.key (findB (i := 0) h2 hl)
 have hst := MapKept.run_setObj_map (P := P) (.map (ms.push { key := .int .i64 a, val := .bool true, born := clock }) (clock + 1)) h1
 unfold Oper.wp
 have hrun : (execOp st.eval ⟨none, .mapUpdate t x y z, ty, pos, after, gd⟩).run P w = .ok .skip { w with heap := w.heap.setIfInBounds b (.map (ms.push { key := .int .i64 a, val := .bool true, born := clock }) (clock + 1)) } := by
  simp [execOp, hp, hk, hv, Instr.mapUpdate, run_underlying ht.eq, MapKept.run_getObj_map h1, hck _ 9999, hf, hst]
 rw [hrun]
 refine hK () undef _ I trivial I.le_refl trivial ?_
 have hh := MapKept.heap_set (w := w) (o' := .map (ms.push { key := .int .i64 a, val := .bool true, born := clock }) (clock + 1)) h1
 exact hi.write rfl rfl rfl rfl rfl (fun q hq _ => hh.2 q hq) hh.1 ⟨_, _, rfl, by simp [h2, entB]⟩
end Go.Q
