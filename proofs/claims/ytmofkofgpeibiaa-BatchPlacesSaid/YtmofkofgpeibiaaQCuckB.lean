/- Contracts of schemes. -/
import Derived.Test.YtmofkofgpeibiaaQMap
import Derived.Test.YtmofkofgpeibiaaQOwn5
import Derived.Test.YtmofkofgpeibiaaQOps2
set_option linter.unusedVariables false
set_option linter.unusedSimpArgs false
namespace Go.Q
open Go.Proofs
open Classical
instance : TyConc Try.prog 96 := ⟨fun w v => by kernel_rfl⟩
instance : TyConc Try.prog 98 := ⟨fun w v => by kernel_rfl⟩
instance : TyConc Try.prog 100 := ⟨fun w v => by kernel_rfl⟩
instance : TyMeth Try.prog 96 "privatefetch/scheme.limits" 89 := ⟨fun w v args => by kernel_rfl⟩
instance : TyMeth Try.prog 98 "privatefetch/scheme.limits" 94 := ⟨fun w v args => by kernel_rfl⟩
instance : TyMeth Try.prog 100 "privatefetch/scheme.limits" 101 := ⟨fun w v args => by kernel_rfl⟩
theorem within_spec (n lo hi : Int) : SpecP Try.prog 49 [dInt .i64 n, dInt .i64 lo, dInt .i64 hi] (dB (lo ≤ n ∧ n ≤ hi)) := by
 refine specP_of_body Try.func49 rfl rfl (fun I M => ?_)
 refine au 17 ?_
 refine run_retP Try.func49 rfl rfl ?_
 exact d_B (by constructor <;> (intro h; omega))
theorem shape_spec (s : Schm) : SpecP Try.prog 47 [dSchm s] (dB (shapeS s)) := by
  refine specP_of_body Try.func47 rfl rfl (fun I M => ?_)
  refine au 10 ?_
  refine run_op (loc_call (within_spec _ _ _) rfl) rfl ?_
  refine au 2 ?_
  refine run_cond rfl (fun h1 => ?_) (fun h1 => ?_)
  ·
   have c1 := h1
   refine au 4 ?_
   refine run_retP Try.func47 rfl rfl ?_
   exact d_B ⟨False.elim, fun h => by have := shape_bd h; omega⟩
  ·
   have c1 := h1
   refine au 13 ?_
   refine run_cond rfl (fun h2 => ?_) (fun h2 => ?_)
   ·
    refine au 13 ?_
    refine run_retP Try.func47 rfl rfl ?_
    exact d_B (by unfold shapeS; constructor <;> (intro h; omega))
   ·
    refine au 5 ?_
    refine run_cond rfl (fun h3 => ?_) (fun h3 => ?_)
    ·
     refine au 7 ?_
     refine run_op (loc_call (within_spec _ _ _) rfl) rfl ?_
     refine au 8 ?_
     refine run_retP Try.func47 rfl rfl ?_
     exact d_B (by unfold shapeS; constructor <;> (intro h; omega))
    ·
     refine au 5 ?_
     refine run_cond rfl (fun h4 => ?_) (fun h4 => ?_)
     ·
      refine au 1 ?_
      have hbd : (2 ≤ s.servers ∧ s.servers ≤ 10) := by omega
      refine au 5 ?_
      refine run_op (loc_call (within_spec _ _ _) rfl) rfl ?_
      refine au 5 ?_
      refine run_gop rfl rfl gdI.ok (fun hg => loc_call (within_spec _ _ _) rfl) rfl ?_
      refine au 17 ?_
      refine run_retP Try.func47 rfl rfl ?_
      exact d_B (by unfold shapeS; constructor <;> (intro h; omega))
     ·
      refine au 6 ?_
      refine run_retP Try.func47 rfl rfl ?_
      exact d_B ⟨False.elim, fun h => by have := shape_kind h; omega⟩
theorem valid_spec (s : Schm) (p : Int) : SpecP Try.prog 37 [dSchm s, dAgg [dInt .i64 p]] (dB (validS s p)) := by
 refine specP_of_body Try.func37 rfl rfl (fun I M => ?_)
 refine au 9 ?_
 refine run_op (loc_call (shape_spec _) rfl) rfl ?_
 refine au 2 ?_
 refine run_gop rfl rfl gdI.ok (fun hg => loc_call (fcheck_spec _) rfl) rfl ?_
 refine au 15 ?_
 first | refine run_gfirst rfl rfl gdI.ok (fun hg => loc_or rfl rfl) rfl ?_ | refine run_gfirst rfl rfl gdI.ok (fun hg => loc_orG hg rfl rfl) rfl ?_ | refine run_gfirst rfl rfl gdI.ok (fun hg => loc_orH hg rfl rfl) rfl ?_
 refine au 4 ?_
 refine run_retP Try.func37 rfl rfl ?_
 exact d_B (by unfold validS; rw [errP_zero]; constructor; (· rintro ⟨⟨a, b⟩, c⟩; exact ⟨a, b, c⟩); (· rintro ⟨a, b, c⟩; exact ⟨⟨a, b⟩, c⟩))
theorem storage_spec (s : Schm) : SpecP Try.prog 50 [dSchm s] (dAgg [dInt .i64 s.servers, dInt .i64 s.degree, dInt .i64 s.group]) := by
 refine specP_of_body Try.func50 rfl rfl (fun I M => ?_)
 refine au 3 ?_
 refine run_new (loc_allocOwn (by simp)) rfl (fun b1 _ => ?_)
 refine au 12 ?_
 refine run_retGP Try.func50 rfl (.cellN rfl (.here) (by rfl) (.nil)) ?_ (fun _ _ h => inv_tail (h))
 exact fun _ _ h => h
theorem unitsG_spec (s d g n : Int) (hg : 1 ≤ g ∧ g ≤ 10) (hn : 1 ≤ n ∧ n ≤ 1024) : SpecP Try.prog 103 [dAgg [dInt .i64 s, dInt .i64 d, dInt .i64 g], dInt .i64 n] (dInt .i64 ((n + g - 1) / g)) := by
 refine specP_of_body Try.func103 rfl rfl (fun I M => ?_)
 refine au 17 ?_
 refine run_retP Try.func103 rfl rfl ?_
 exact fun _ _ h => h
theorem look_spec (s : Schm) (p n : Int) : SpecP Try.prog 39 [dSchm s, dAgg [dInt .i64 p], dInt .i64 n] (dInt .i64 (lookE s p n)) := by
  refine specP_of_body Try.func39 rfl rfl (fun I M => ?_)
  refine au 12 ?_
  refine run_op (loc_call (valid_spec _ _) rfl) rfl ?_
  refine au 3 ?_
  refine run_cond rfl (fun h1 => ?_) (fun h1 => ?_)
  ·
   have c1 := h1
   refine au 4 ?_
   refine run_retP Try.func39 rfl rfl ?_
   exact d_int (by unfold lookE; rw [if_pos c1])
  ·
   have c1 := h1
   refine au 3 ?_
   refine run_op (loc_call (within_spec _ _ _) rfl) rfl ?_
   refine au 3 ?_
   refine run_cond rfl (fun h2 => ?_) (fun h2 => ?_)
   ·
    have c2 := h2
    refine au 4 ?_
    refine run_retP Try.func39 rfl rfl ?_
    exact d_int (by unfold lookE; rw [if_neg c1, if_pos c2])
   ·
    have c2 := h2
    refine au 6 ?_
    refine run_retP Try.func39 rfl rfl ?_
    exact d_int (by unfold lookE; rw [if_neg c1, if_neg c2])
noncomputable def kindD (s : Schm) : D := if s.kind = 1 then dIface 96 (dAgg [dInt .i64 s.servers]) else if s.kind = 2 then dIface 98 (dAgg [dInt .i64 s.servers, dInt .i64 s.degree]) else dIface 100 (dAgg [dInt .i64 s.servers, dInt .i64 s.degree, dInt .i64 s.group])
theorem kindOf_spec (s : Schm) : SpecP Try.prog 40 [dSchm s] (kindD s) := by
  refine specP_of_body Try.func40 rfl rfl (fun I M => ?_)
  refine au 17 ?_
  refine run_cond rfl (fun h1 => ?_) (fun h1 => ?_)
  ·
   refine au 8 ?_
   refine run_retP Try.func40 rfl rfl ?_
   exact d_eq (by unfold kindD; rw [if_pos (by assumption)] <;> rfl)
  ·
   refine au 5 ?_
   refine run_cond rfl (fun h2 => ?_) (fun h2 => ?_)
   ·
    refine au 10 ?_
    refine run_retP Try.func40 rfl rfl ?_
    exact d_eq (by unfold kindD; rw [if_neg (by assumption), if_pos (by assumption)] <;> rfl)
   ·
    refine au 5 ?_
    refine run_op (loc_call (storage_spec _) rfl) rfl ?_
    refine au 3 ?_
    refine run_retP Try.func40 rfl rfl ?_
    exact d_eq (by unfold kindD; rw [if_neg (by assumption), if_neg (by assumption)] <;> rfl)
theorem sumsLim_spec (s p n : Int) : SpecP Try.prog 89 [dAgg [dInt .i64 s], dAgg [dInt .i64 p], dInt .i64 n] (dTup [dInts (limsP p n s), dInt .i64 (parE p n s)]) := by
 refine specP_of_body Try.func89 rfl rfl (fun I M => ?_)
 refine au 13 ?_
 refine run_op (loc_call (plimits_spec _ _ _) rfl) rfl ?_
 refine au 5 ?_
 refine run_ret2P Try.func89 rfl rfl rfl ?_
 exact fun _ _ h => h
theorem curvesLim_spec (s d p n : Int) : SpecP Try.prog 94 [dAgg [dInt .i64 s, dInt .i64 d], dAgg [dInt .i64 p], dInt .i64 n] (dTup [dInts (limsC p s d n), dInt .i64 (planRE p s d n)]) := by
 refine specP_of_body Try.func94 rfl rfl (fun I M => ?_)
 refine au 12 ?_
 refine run_op (loc_call (climits_spec _ _ _ _) rfl) rfl ?_
 refine au 5 ?_
 refine run_ret2P Try.func94 rfl rfl rfl ?_
 exact fun _ _ h => h
theorem groupsLim_spec (s d g p n : Int) (hg : 1 ≤ g ∧ g ≤ 10) (hn : 1 ≤ n ∧ n ≤ 1024) : SpecP Try.prog 101 [dAgg [dInt .i64 s, dInt .i64 d, dInt .i64 g], dAgg [dInt .i64 p], dInt .i64 n] (dTup [dInts (limsG p s d g ((n + g - 1) / g)), dInt .i64 (codRE p s d g ((n + g - 1) / g))]) := by
 refine specP_of_body Try.func101 rfl rfl (fun I M => ?_)
 refine au 8 ?_
 refine dr_start _ (.none) [⟨[(4, none)], [], none⟩,
   ⟨[(3, none)], [], none⟩,
   ⟨[(3, none)], [], none⟩,
   ⟨[(2, none)], [], none⟩,
   ⟨[(10, some (2, false)), (11, some (3, false))], [2, 3], none⟩,
   ⟨[(8, some (0, false)), (9, some (1, false)), (12, some (4, false))], [0, 1, 2, 3, 4], none⟩,
   ⟨[(13, some (5, false))], [0, 1, 2, 3, 4, 5], none⟩,
   ⟨[(13, some (5, false))], [0, 1, 2, 3, 4, 5], none⟩,
   ⟨[(14, some (6, false))], [0, 1, 2, 3, 4, 5, 6, 7], none⟩,
   ⟨[(15, some (7, false))], [0, 1, 2, 3, 4, 5, 6, 7, 8], none⟩] [] _ rfl rfl ?_
 refine da 4 ?_
 refine dq_pure rfl (fun s => .op rfl (.op rfl (.nil))) (fun s hs _ => loc_call (unitsG_spec _ _ _ _ hg hn) rfl) (by exact .nil) ?_
 refine dq_pure rfl (fun s => .op rfl (.op rfl (.op rfl (.nil)))) (fun s hs _ => loc_call (glimits_spec _ _ _ _ _) rfl) (by exact .nil) ?_
 refine da 4 ?_
 refine dq_end (rs := []) () rfl (fun _ => rfl) (.nil) rfl (fun _ => rfl) (fun _ _ => ?_)
 dsimp only [outG, outM, List.map, List.set, id]
 refine run_ret2P Try.func101 rfl rfl rfl ?_
 exact fun _ _ h => h
theorem kind_lim {s : Schm} {p n : Int} (h : lookE s p n = 0) : ∀ I v, (kindD s).rel I v → (dMeth Try.prog "privatefetch/scheme.limits" [dAgg [dInt .i64 p], dInt .i64 n] (dTup [dInts (limL s p n), dInt .i64 (limE s p n)])).rel I v := by
  obtain ⟨⟨h1, h2, h3⟩, hn⟩ := lookE_zero h
  have hbd := shape_bd h1
  have e1 : limL s p n = if s.kind = 1 then limsP p n s.servers else if s.kind = 2 then limsC p s.servers s.degree n else limsG p s.servers s.degree s.group ((n + s.group - 1) / s.group) := by unfold limL; rw [if_neg (Classical.not_not.2 h)]
  have e2 : limE s p n = if s.kind = 1 then parE p n s.servers else if s.kind = 2 then planRE p s.servers s.degree n else codRE p s.servers s.degree s.group ((n + s.group - 1) / s.group) := by unfold limE; rw [if_neg (Classical.not_not.2 h)]
  unfold kindD
  rw [e1, e2]
  split
  · exact iface_meth (sumsLim_spec s.servers p n)
  · split
    · exact iface_meth (curvesLim_spec s.servers s.degree p n)
    · exact iface_meth (groupsLim_spec s.servers s.degree s.group p n (by unfold shapeS at h1; omega) hn)
theorem kindLim_spec {s : Schm} {p n : Int} (h : lookE s p n = 0) : SpecP Try.prog 40 [dSchm s] (dMeth Try.prog "privatefetch/scheme.limits" [dAgg [dInt .i64 p], dInt .i64 n] (dTup [dInts (limL s p n), dInt .i64 (limE s p n)])) := specP_post (kindOf_spec s) (kind_lim h)
theorem slimits_spec (s : Schm) (p n : Int) : SpecP Try.prog 28 [dSchm s, dAgg [dInt .i64 p], dInt .i64 n] (dTup [dInts (limL s p n), dInt .i64 (limE s p n)]) := by
  refine specP_of_body Try.func28 rfl rfl (fun I M => ?_)
  refine au 13 ?_
  refine run_op (loc_call (look_spec _ _ _) rfl) rfl ?_
  refine au 7 ?_
  refine run_cond rfl (fun h1 => ?_) (fun h1 => ?_)
  ·
   have c1 := h1
   refine au 6 ?_
   refine run_ret2P Try.func28 rfl rfl rfl ?_
   exact d_tup2 (d_toInts (by unfold limL; rw [if_pos c1]) d_nil) (d_int (by unfold limE; rw [if_pos c1]))
  ·
   have c1 := Classical.not_not.1 h1
   refine au 2 ?_
   refine dr_start _ (.none) [⟨[(3, none)], [], none⟩,
       ⟨[(16, some (0, false))], [0], none⟩,
       ⟨[(4, none)], [], none⟩,
       ⟨[(2, none)], [], none⟩,
       ⟨[(17, some (1, false)), (18, some (2, false)), (19, some (3, false))], [0, 1, 2, 3], none⟩,
       ⟨[(20, some (4, false))], [0, 1, 2, 3, 4], none⟩,
       ⟨[(20, some (4, false))], [0, 1, 2, 3, 4], none⟩,
       ⟨[(21, some (5, false))], [0, 1, 2, 3, 4, 5, 6], none⟩,
       ⟨[(22, some (6, false))], [0, 1, 2, 3, 4, 5, 6, 7], none⟩] [] _ rfl rfl ?_
   refine da 1 ?_
   refine dq_pure rfl (fun s => .op rfl (.nil)) (fun s hs _ => loc_call (kindLim_spec (p := p) (n := n) c1) rfl) (by exact .nil) ?_
   refine da 2 ?_
   refine dq_pure rfl (fun s => .op rfl (.op rfl (.op rfl (.nil)))) (fun s hs _ => loc_invokeM rfl rfl) (by exact .nil) ?_
   refine da 4 ?_
   refine dq_end (rs := []) () rfl (fun _ => rfl) (.nil) rfl (fun _ => rfl) (fun _ _ => ?_)
   dsimp only [outG, outM, List.map, List.set, id]
   refine run_ret2P Try.func28 rfl rfl rfl ?_
   exact fun _ _ h => h
end Go.Q

namespace Go.Q
def placeL (rec : Int → List Int → List Bool → Bool × List Int × List Bool) (fx : List Bool) (i : Int) : List Nat → List Int → List Bool → Bool × List Int × List Bool
 | [], bk, sn => (false, bk, sn)
 | b :: bs, bk, sn =>
  if sn[b]?.getD default = true ∨ fx[b]?.getD default = true then placeL rec fx i bs bk sn
  else if bk[b]?.getD default < 0 then (true, bk.set b i, sn)
  else
   let r := rec (bk[b]?.getD default) bk (sn.set b true)
   if r.1 = true then (true, r.2.1.set b i, r.2.2) else placeL rec fx i bs r.2.1 r.2.2
def placeF (hs : Int → List Nat) (fx : List Bool) : Nat → Int → List Int → List Bool → Bool × List Int × List Bool
 | 0, _, bk, sn => (false, bk, sn)
 | n + 1, i, bk, sn => placeL (placeF hs fx n) fx i (hs i) bk sn
def unseen (sn : List Bool) : Nat := (sn.filter fun b => !b).length
theorem unseen_set : ∀ {sn : List Bool} {b : Nat}, b < sn.length → sn[b]?.getD default = false → unseen (sn.set b true) + 1 = unseen sn
 | [], _, h, _ => by simp at h
 | x :: sn, 0, _, h => by
  have hx : x = false := h
  subst hx
  simp [unseen]
 | x :: sn, b + 1, h, h2 => by
  have ih := unseen_set (sn := sn) (b := b) (by simpa using h) (by simpa using h2)
  unfold unseen at ih ⊢
  cases x <;> simp at ih ⊢ <;> omega
structure PlaceKeep (bk bk' : List Int) (sn sn' : List Bool) : Prop where
 blen : bk'.length = bk.length
 slen : sn'.length = sn.length
 up : ∀ b : Nat, sn[b]?.getD default = true → sn'[b]?.getD default = true
theorem PlaceKeep.rfl' {bk : List Int} {sn : List Bool} : PlaceKeep bk bk sn sn := ⟨rfl, rfl, fun _ h => h⟩
theorem PlaceKeep.trans {a b c : List Int} {x y z : List Bool} (h : PlaceKeep a b x y) (g : PlaceKeep b c y z) : PlaceKeep a c x z := ⟨g.blen.trans h.blen, g.slen.trans h.slen, fun i hi => g.up i (h.up i hi)⟩
theorem keep_seen {bk : List Int} {sn : List Bool} {b : Nat} : PlaceKeep bk bk sn (sn.set b true) := ⟨rfl, by simp, fun i hi => by
 by_cases e : i = b
 ·subst e
  by_cases hl : i < sn.length
  ·rw [List.getElem?_set_self hl]; rfl
  ·rw [List.getElem?_eq_none (by omega)] at hi; cases hi
 ·rw [List.getElem?_set_ne (fun h => e h.symm)]; exact hi⟩
theorem keep_put {bk bk' : List Int} {sn sn' : List Bool} {b : Nat} {i : Int} (h : PlaceKeep bk bk' sn sn') : PlaceKeep bk (bk'.set b i) sn sn' := ⟨by rw [List.length_set]; exact h.blen, h.slen, h.up⟩
theorem placeL_keep {rec : Int → List Int → List Bool → Bool × List Int × List Bool} (hr : ∀ j bk sn, PlaceKeep bk (rec j bk sn).2.1 sn (rec j bk sn).2.2) (fx : List Bool) (i : Int) :
  ∀ (bs : List Nat) (bk : List Int) (sn : List Bool), PlaceKeep bk (placeL rec fx i bs bk sn).2.1 sn (placeL rec fx i bs bk sn).2.2
 | [], _, _ => .rfl'
 | b :: bs, bk, sn => by
  unfold placeL
  split
  ·exact placeL_keep hr fx i bs bk sn
  ·split
   ·exact keep_put .rfl'
   ·have h1 := (keep_seen (bk := bk) (sn := sn) (b := b)).trans (hr (bk[b]?.getD default) bk (sn.set b true))
    dsimp only
    split
    ·exact keep_put h1
    ·exact h1.trans (placeL_keep hr fx i bs _ _)
theorem placeF_keep (hs : Int → List Nat) (fx : List Bool) : ∀ (n : Nat) (i : Int) (bk : List Int) (sn : List Bool), PlaceKeep bk (placeF hs fx n i bk sn).2.1 sn (placeF hs fx n i bk sn).2.2
 | 0, _, _, _ => .rfl'
 | n + 1, i, bk, sn => placeL_keep (placeF_keep hs fx n) fx i (hs i) bk sn
theorem placeL_fail {rec : Int → List Int → List Bool → Bool × List Int × List Bool} (hr : ∀ j bk sn, (rec j bk sn).1 = false → (rec j bk sn).2.1 = bk) (fx : List Bool) (i : Int) :
  ∀ (bs : List Nat) (bk : List Int) (sn : List Bool), (placeL rec fx i bs bk sn).1 = false → (placeL rec fx i bs bk sn).2.1 = bk
 | [], _, _, _ => rfl
 | b :: bs, bk, sn, h => by
  unfold placeL at h ⊢
  split at h
  ·rw [if_pos (by assumption)]; exact placeL_fail hr fx i bs bk sn h
  ·rw [if_neg (by assumption)]
   split at h
   ·cases h
   ·rw [if_neg (by assumption)]
    dsimp only at h ⊢
    split at h
    ·cases h
    ·rename_i h3
     rw [if_neg h3]
     have h4 := hr (bk[b]?.getD default) bk (sn.set b true) (by simpa using h3)
     rw [h4] at h ⊢
     exact placeL_fail hr fx i bs bk _ h
theorem placeF_fail (hs : Int → List Nat) (fx : List Bool) : ∀ (n : Nat) (i : Int) (bk : List Int) (sn : List Bool), (placeF hs fx n i bk sn).1 = false → (placeF hs fx n i bk sn).2.1 = bk
 | 0, _, _, _, _ => rfl
 | n + 1, i, bk, sn, h => placeL_fail (placeF_fail hs fx n) fx i (hs i) bk sn h
theorem unseen_le : ∀ {sn sn' : List Bool}, sn'.length = sn.length → (∀ b : Nat, sn[b]?.getD default = true → sn'[b]?.getD default = true) → unseen sn' ≤ unseen sn
 | [], [], _, _ => Nat.le_refl _
 | [], _ :: _, h, _ => by simp at h
 | _ :: _, [], h, _ => by simp at h
 | x :: sn, y :: sn', h, hu => by
  have ih := unseen_le (sn := sn) (sn' := sn') (by simpa using h) (fun b hb => by have := hu (b + 1) (by simpa using hb); simpa using this)
  have h0 := hu 0
  unfold unseen at ih ⊢
  cases x <;> cases y <;> simp at ih h0 ⊢ <;> omega
structure PlaceNo (hs : Int → List Nat) (fx : List Bool) (bk : List Int) (sn sn' : List Bool) (bs : List Nat) : Prop where
 home : ∀ b ∈ bs, sn'[b]?.getD default = true ∨ fx[b]?.getD default = true
 new : ∀ b : Nat, sn'[b]?.getD default = true → sn[b]?.getD default = true ∨ (fx[b]?.getD default = false ∧ 0 ≤ bk[b]?.getD default ∧ ∀ c ∈ hs (bk[b]?.getD default), sn'[c]?.getD default = true ∨ fx[c]?.getD default = true)
theorem placeL_no {hs : Int → List Nat} {m n : Nat} {rec : Int → List Int → List Bool → Bool × List Int × List Bool} {fx : List Bool} (hk : ∀ j bk sn, PlaceKeep bk (rec j bk sn).2.1 sn (rec j bk sn).2.2) (hf : ∀ j bk sn, (rec j bk sn).1 = false → (rec j bk sn).2.1 = bk)
  (hr : ∀ j bk sn, sn.length = m → unseen sn ≤ n → (rec j bk sn).1 = false → PlaceNo hs fx bk sn (rec j bk sn).2.2 (hs j)) (i : Int) :
  ∀ (bs : List Nat) (bk : List Int) (sn : List Bool), (∀ b ∈ bs, b < m) → sn.length = m → unseen sn ≤ n + 1 → (placeL rec fx i bs bk sn).1 = false → PlaceNo hs fx bk sn (placeL rec fx i bs bk sn).2.2 bs
 | [], bk, sn, _, _, _, _ => ⟨fun b hb => absurd hb List.not_mem_nil, fun b hb => .inl hb⟩
 | b :: bs, bk, sn, hb, hl, hu, h => by
  have hbm := hb b (List.mem_cons_self ..)
  have hbs := fun c hc => hb c (List.mem_cons_of_mem _ hc)
  unfold placeL at h ⊢
  split at h
  ·rename_i h1
   rw [if_pos h1]
   have ih := placeL_no hk hf hr i bs bk sn hbs hl hu h
   refine ⟨fun c hc => ?_, ih.new⟩
   rcases List.mem_cons.1 hc with rfl | hc
   ·exact h1.imp ((placeL_keep hk fx i bs bk sn).up c) id
   ·exact ih.home c hc
  ·rename_i h1
   rw [if_neg h1]
   split at h
   ·cases h
   ·rename_i h2
    rw [if_neg h2]
    dsimp only at h ⊢
    split at h
    ·cases h
    ·rename_i h3
     rw [if_neg h3]
     have hsb : sn[b]?.getD default = false := by
      cases e : sn[b]?.getD default
      ·rfl
      ·exact absurd (.inl e) h1
     have hfb : fx[b]?.getD default = false := by
      cases e : fx[b]?.getD default
      ·rfl
      ·exact absurd (.inr e) h1
     have hu1 := unseen_set (sn := sn) (b := b) (by omega) hsb
     have h3' : (rec (bk[b]?.getD default) bk (sn.set b true)).1 = false := by simpa using h3
     have k1 := hk (bk[b]?.getD default) bk (sn.set b true)
     have N1 := hr (bk[b]?.getD default) bk (sn.set b true) (by rw [List.length_set]; exact hl) (by omega) h3'
     rw [hf _ _ _ h3'] at h ⊢
     generalize (rec (bk[b]?.getD default) bk (sn.set b true)).2.2 = s1 at *
     have hl1 : s1.length = m := by rw [k1.slen, List.length_set]; exact hl
     have hu2 := unseen_le k1.slen k1.up
     have N2 := placeL_no hk hf hr i bs bk s1 hbs hl1 (by omega) h
     have k2 := placeL_keep hk fx i bs bk s1
     have hbb : (sn.set b true)[b]?.getD default = true := by rw [List.getElem?_set_self (by omega)]; rfl
     refine ⟨fun c hc => ?_, fun c hc => ?_⟩
     ·rcases List.mem_cons.1 hc with rfl | hc
      ·exact .inl (k2.up c (k1.up c hbb))
      ·exact N2.home c hc
     ·rcases N2.new c hc with g | g
      ·rcases N1.new c g with g | ⟨g1, g2, g3⟩
       ·by_cases e : c = b
        ·subst e
         exact .inr ⟨hfb, by omega, fun x hx => (N1.home x hx).imp (k2.up x) id⟩
        ·rw [List.getElem?_set_ne (fun h => e h.symm)] at g
         exact .inl g
       ·exact .inr ⟨g1, g2, fun x hx => (g3 x hx).imp (k2.up x) id⟩
      ·exact .inr g
theorem all_seen : ∀ {sn : List Bool} {b : Nat}, unseen sn = 0 → b < sn.length → sn[b]?.getD default = true
 | [], _, _, h => by simp at h
 | x :: sn, 0, h, _ => by
  cases x
  ·simp [unseen] at h
  ·rfl
 | x :: sn, b + 1, h, hb => by
  have := all_seen (sn := sn) (b := b) (by unfold unseen at h ⊢; cases x <;> simp at h ⊢; exact h) (by simpa using hb)
  simpa using this
theorem placeF_no {hs : Int → List Nat} {m : Nat} {fx : List Bool} (hh : ∀ j, ∀ b ∈ hs j, b < m) : ∀ (n : Nat) (i : Int) (bk : List Int) (sn : List Bool), sn.length = m → unseen sn ≤ n → (placeF hs fx n i bk sn).1 = false → PlaceNo hs fx bk sn (placeF hs fx n i bk sn).2.2 (hs i)
 | 0, i, bk, sn, hl, hu, _ => ⟨fun b hb => .inl (show sn[b]?.getD default = true from all_seen (by omega) (by rw [hl]; exact hh i b hb)), fun b hb => .inl hb⟩
 | n + 1, i, bk, sn, hl, hu, h => placeL_no (placeF_keep hs fx n) (placeF_fail hs fx n) (placeF_no hh n) i (hs i) bk sn (hh i) hl hu h
end Go.Q

namespace Go.Q
structure PlaceYes (hs : Int → List Nat) (fx : List Bool) (bk bk' : List Int) (sn : List Bool) (i : Int) : Prop where
 cnt : ∀ j, 0 ≤ j → bk'.count j = bk.count j + if i = j then 1 else 0
 same : ∀ c : Nat, sn[c]?.getD default = true ∨ fx[c]?.getD default = true → bk'[c]? = bk[c]?
 home : (∀ (b : Nat) j, bk[b]? = some j → 0 ≤ j → b ∈ hs j) → ∀ (b : Nat) j, bk'[b]? = some j → 0 ≤ j → b ∈ hs j
theorem count_put {bk : List Int} {b : Nat} {i j x : Int} (h : bk[b]? = some x) : (bk.set b i).count j + (if x = j then 1 else 0) = bk.count j + if i = j then 1 else 0 := by
 obtain ⟨hb, hx⟩ := List.getElem?_eq_some_iff.1 h
 have h1 := List.count_set (l := bk) (a := i) (b := j) hb
 rw [hx] at h1
 have h2 : (if x = j then 1 else 0) ≤ bk.count j := by
  split
  ·rename_i e; subst e; rw [← hx]; exact List.count_pos_iff.2 (List.getElem_mem hb)
  ·exact Nat.zero_le _
 simp only [beq_iff_eq] at h1
 omega
theorem placeL_yes {hs : Int → List Nat} {m : Nat} {rec : Int → List Int → List Bool → Bool × List Int × List Bool} {fx : List Bool} (hk : ∀ j bk sn, PlaceKeep bk (rec j bk sn).2.1 sn (rec j bk sn).2.2) (hf : ∀ j bk sn, (rec j bk sn).1 = false → (rec j bk sn).2.1 = bk)
  (hr : ∀ j bk sn, bk.length = m → sn.length = m → (rec j bk sn).1 = true → PlaceYes hs fx bk (rec j bk sn).2.1 sn j) (i : Int) :
  ∀ (bs : List Nat) (bk : List Int) (sn : List Bool), (∀ b ∈ bs, b ∈ hs i ∧ b < m) → bk.length = m → sn.length = m → (placeL rec fx i bs bk sn).1 = true → PlaceYes hs fx bk (placeL rec fx i bs bk sn).2.1 sn i
 | [], _, _, _, _, _, h => by unfold placeL at h; cases h
 | b :: bs, bk, sn, hb, hl, hsl, h => by
  obtain ⟨hbh, hbm⟩ := hb b (List.mem_cons_self ..)
  have hbs := fun c hc => hb c (List.mem_cons_of_mem _ hc)
  have hget : bk[b]? = some (bk[b]?.getD default) := by rw [List.getElem?_eq_getElem (by omega)]; rfl
  unfold placeL at h ⊢
  split at h
  ·rename_i h1
   rw [if_pos h1]
   exact placeL_yes hk hf hr i bs bk sn hbs hl hsl h
  ·rename_i h1
   rw [if_neg h1]
   have hset : ∀ (l : List Int), (∀ (c : Nat) j, l[c]? = some j → 0 ≤ j → c ∈ hs j) → ∀ (c : Nat) j, (l.set b i)[c]? = some j → 0 ≤ j → c ∈ hs j := fun l hh c j hc hj => by
    by_cases e : c = b
    ·subst e
     by_cases hcl : c < l.length
     ·rw [List.getElem?_set_self hcl] at hc; injection hc with hc; subst hc; exact hbh
     ·rw [List.getElem?_eq_none (by rw [List.length_set]; omega)] at hc; cases hc
    ·rw [List.getElem?_set_ne (fun h => e h.symm)] at hc; exact hh c j hc hj
   split at h
   ·rename_i h2
    rw [if_pos h2]
    refine ⟨fun j hj => ?_, fun c hc => ?_, hset bk⟩
    ·have h3 := count_put (i := i) (j := j) hget
     rw [if_neg (by omega)] at h3
     exact h3
    ·show (bk.set b i)[c]? = _
     rw [List.getElem?_set_ne (fun e => h1 (by subst e; exact hc))]
   ·rename_i h2
    rw [if_neg h2]
    dsimp only at h ⊢
    have k1 := hk (bk[b]?.getD default) bk (sn.set b true)
    have hbb : (sn.set b true)[b]?.getD default = true := by rw [List.getElem?_set_self (by omega)]; rfl
    have hup : ∀ c : Nat, sn[c]?.getD default = true → (sn.set b true)[c]?.getD default = true := (keep_seen (bk := bk)).up
    split at h
    ·rename_i h3
     rw [if_pos h3]
     have Y := hr (bk[b]?.getD default) bk (sn.set b true) hl (by rw [List.length_set]; exact hsl) h3
     have hb2 : (rec (bk[b]?.getD default) bk (sn.set b true)).2.1[b]? = some (bk[b]?.getD default) := by rw [Y.same b (.inl hbb)]; exact hget
     refine ⟨fun j hj => ?_, fun c hc => ?_, fun hh => hset _ (Y.home hh)⟩
     ·have h4 := count_put (i := i) (j := j) hb2
      have h5 := Y.cnt j hj
      show ((rec (bk[b]?.getD default) bk (sn.set b true)).2.1.set b i).count j = _
      omega
     ·show ((rec (bk[b]?.getD default) bk (sn.set b true)).2.1.set b i)[c]? = _
      rw [List.getElem?_set_ne (fun e => h1 (by subst e; exact hc))]
      exact Y.same c (hc.imp (hup c) id)
    ·rename_i h3
     rw [if_neg h3]
     have h3' : (rec (bk[b]?.getD default) bk (sn.set b true)).1 = false := by simpa using h3
     rw [hf _ _ _ h3'] at h ⊢
     have Y := placeL_yes hk hf hr i bs bk _ hbs hl (by rw [k1.slen, List.length_set]; exact hsl) h
     exact ⟨Y.cnt, fun c hc => Y.same c (hc.imp (fun g => k1.up c (hup c g)) id), Y.home⟩
theorem placeF_yes {hs : Int → List Nat} {m : Nat} {fx : List Bool} (hh : ∀ j, ∀ b ∈ hs j, b < m) : ∀ (n : Nat) (i : Int) (bk : List Int) (sn : List Bool), bk.length = m → sn.length = m → (placeF hs fx n i bk sn).1 = true → PlaceYes hs fx bk (placeF hs fx n i bk sn).2.1 sn i
 | 0, _, _, _, _, _, h => by cases h
 | n + 1, i, bk, sn, hl, hsl, h => placeL_yes (placeF_keep hs fx n) (placeF_fail hs fx n) (placeF_yes hh n) i (hs i) bk sn (fun b hb => ⟨hb, hh i b hb⟩) hl hsl h
end Go.Q

namespace Go.Q
theorem nodup_le {α : Type} [DecidableEq α] : ∀ {l l' : List α}, l.Nodup → (∀ x ∈ l, x ∈ l') → l.length ≤ l'.length
 | [], _, _, _ => Nat.zero_le _
 | x :: l, l', hn, hs => by
  obtain ⟨h1, h2⟩ := List.nodup_cons.1 hn
  have hx := hs x (List.mem_cons_self ..)
  have ih := nodup_le (l := l) (l' := l'.erase x) h2 (fun y hy => (List.mem_erase_of_ne (fun e => h1 (by rw [← e]; exact hy))).2 (hs y (List.mem_cons_of_mem _ hy)))
  have h3 := List.length_erase_of_mem hx
  have h4 := List.length_pos_of_mem hx
  simp only [List.length_cons]
  omega
theorem nodup_map_on {α β : Type} {f : α → β} : ∀ {l : List α}, l.Nodup → (∀ x ∈ l, ∀ y ∈ l, f x = f y → x = y) → (l.map f).Nodup
 | [], _, _ => List.nodup_nil
 | x :: l, hn, hi => by
  obtain ⟨h1, h2⟩ := List.nodup_cons.1 hn
  refine List.nodup_cons.2 ⟨fun hm => ?_, nodup_map_on h2 (fun a ha b hb => hi a (List.mem_cons_of_mem _ ha) b (List.mem_cons_of_mem _ hb))⟩
  obtain ⟨y, hy, he⟩ := List.mem_map.1 hm
  exact h1 (by rw [hi x (List.mem_cons_self ..) y (List.mem_cons_of_mem _ hy) he.symm]; exact hy)
structure Asg (hs : Int → List Nat) (fx : List Bool) (bk : List Int) (its : Int → Prop) (a : Int → Nat) : Prop where
 home : ∀ j, its j → a j ∈ hs j
 inj : ∀ j k, its j → its k → a j = a k → j = k
 fix : ∀ (b : Nat) j, fx[b]?.getD default = true → bk[b]? = some j → its j ∧ a j = b
theorem place_none {hs : Int → List Nat} {m : Nat} {fx : List Bool} {bk : List Int} {sn' : List Bool} {i : Int} {its : Int → Prop} {a : Int → Nat} (hh : ∀ j, ∀ b ∈ hs j, b < m) (hl : bk.length = m) (hN : PlaceNo hs fx bk (List.replicate m false) sn' (hs i))
  (hone : ∀ (b c : Nat) j, bk[b]? = some j → bk[c]? = some j → 0 ≤ j → b = c) (hfx : ∀ (b : Nat) j, fx[b]?.getD default = true → bk[b]? = some j → 0 ≤ j) (hi : 0 ≤ i) (hib : ∀ b : Nat, bk[b]? ≠ some i) (hits : ∀ (b : Nat) j, bk[b]? = some j → 0 ≤ j → its j) (hii : its i) (hfl : fx.length = m) : ¬ Asg hs fx bk its a := by
 intro hA
 have hnew : ∀ b : Nat, b < m → sn'[b]?.getD default = true → fx[b]?.getD default = false ∧ 0 ≤ bk[b]?.getD default ∧ ∀ c ∈ hs (bk[b]?.getD default), sn'[c]?.getD default = true ∨ fx[c]?.getD default = true := fun b hb h => by
  rcases hN.new b h with g | g
  ·rw [List.getElem?_replicate, if_pos hb] at g; cases g
  ·exact g
 have hget : ∀ b : Nat, b < m → bk[b]? = some (bk[b]?.getD default) := fun b hb => by rw [List.getElem?_eq_getElem (by omega)]; rfl
 let S := (List.range m).filter fun b => sn'[b]?.getD default
 have hS : ∀ b, b ∈ S ↔ b < m ∧ sn'[b]?.getD default = true := fun b => by simp only [S, List.mem_filter, List.mem_range]
 have hSn : S.Nodup := List.nodup_range.filter _
 have hTn : (i :: S.map fun b => bk[b]?.getD default).Nodup := by
  refine List.nodup_cons.2 ⟨fun hm => ?_, nodup_map_on hSn fun x hx y hy e => ?_⟩
  ·obtain ⟨b, hb, he⟩ := List.mem_map.1 hm
   have h1 := hget b ((hS b).1 hb).1
   rw [he] at h1
   exact hib b h1
  ·have h1 := (hS x).1 hx
   have h2 := (hS y).1 hy
   exact hone x y _ (hget x h1.1) (by rw [e]; exact hget y h2.1) (hnew x h1.1 h1.2).2.1
 have hTi : ∀ j ∈ i :: S.map (fun b => bk[b]?.getD default), its j ∧ (∀ c : Nat, fx[c]?.getD default = true → bk[c]? ≠ some j) ∧ ∀ c ∈ hs j, sn'[c]?.getD default = true ∨ fx[c]?.getD default = true := by
  intro j hj
  rcases List.mem_cons.1 hj with rfl | hj
  ·exact ⟨hii, fun c _ => hib c, hN.home⟩
  ·obtain ⟨b, hb, rfl⟩ := List.mem_map.1 hj
   have h1 := (hS b).1 hb
   have h2 := hnew b h1.1 h1.2
   refine ⟨hits b _ (hget b h1.1) h2.2.1, fun c hc hcb => ?_, h2.2.2⟩
   have := hone c b _ hcb (hget b h1.1) h2.2.1
   subst this
   rw [h2.1] at hc; cases hc
 have hle := nodup_le (l := (i :: S.map fun b => bk[b]?.getD default).map a) (l' := S) (nodup_map_on hTn fun x hx y hy e => hA.inj x y (hTi x hx).1 (hTi y hy).1 e) (fun c hc => by
  obtain ⟨j, hj, rfl⟩ := List.mem_map.1 hc
  obtain ⟨g1, g2, g3⟩ := hTi j hj
  have hm := hh j _ (hA.home j g1)
  rcases g3 _ (hA.home j g1) with h | h
  ·exact (hS _).2 ⟨hm, h⟩
  ·obtain ⟨g4, g5⟩ := hA.fix (a j) _ h (hget _ hm)
   have := hA.inj _ _ g4 g1 g5
   have h7 := hget (a j) hm
   rw [this] at h7
   exact absurd h7 (g2 _ h))
 simp only [List.length_map, List.length_cons] at hle
 omega
end Go.Q

namespace Go.Q
def allF (hs : Int → List Nat) (fx : List Bool) (m : Nat) : List Int → List Int → Bool × List Int
 | [], bk => (true, bk)
 | i :: is, bk =>
  let r := placeF hs fx m i bk (List.replicate m false)
  if r.1 = true then allF hs fx m is r.2.1 else (false, r.2.1)
theorem count_one {bk : List Int} {j : Int} (hj : 0 ≤ j) (h : bk.count j ≤ 1) {b c : Nat} (hb : bk[b]? = some j) (hc : bk[c]? = some j) : b = c := by
 by_cases e : b = c
 ·exact e
 ·have h1 := count_put (i := -1) (j := j) hb
  rw [if_pos rfl, if_neg (by omega)] at h1
  have h2 : (bk.set b (-1))[c]? = some j := by rw [List.getElem?_set_ne e]; exact hc
  have h3 := List.count_pos_iff.2 (List.mem_of_getElem? h2)
  omega
structure BkOk (hs : Int → List Nat) (fx : List Bool) (m : Nat) (bk : List Int) : Prop where
 len : bk.length = m
 one : ∀ j, 0 ≤ j → bk.count j ≤ 1
 home : ∀ (b : Nat) j, bk[b]? = some j → 0 ≤ j → b ∈ hs j
 held : ∀ (b : Nat) j, fx[b]?.getD default = true → bk[b]? = some j → 0 ≤ j
theorem bk_place {hs : Int → List Nat} {m : Nat} {fx : List Bool} {bk : List Int} {i : Int} (hh : ∀ j, ∀ b ∈ hs j, b < m) (hi : 0 ≤ i) (h : BkOk hs fx m bk) (hn : i ∉ bk) (hp : (placeF hs fx m i bk (List.replicate m false)).1 = true) :
  BkOk hs fx m (placeF hs fx m i bk (List.replicate m false)).2.1 := by
 have Y := placeF_yes hh m i bk (List.replicate m false) h.len (by simp) hp
 have K := placeF_keep hs fx m i bk (List.replicate m false)
 refine ⟨K.blen.trans h.len, fun j hj => ?_, Y.home h.home, fun b j hb hj => h.held b j hb (by rw [← Y.same b (.inr hb)]; exact hj)⟩
 rw [Y.cnt j hj]
 have := h.one j hj
 split
 ·rename_i e; subst e; rw [List.count_eq_zero.2 hn]; exact Nat.le_refl _
 ·exact this
theorem allF_yes {hs : Int → List Nat} {m : Nat} {fx : List Bool} {its : Int → Prop} {a : Int → Nat} (hh : ∀ j, ∀ b ∈ hs j, b < m) (hfl : fx.length = m) :
  ∀ (is : List Int) (bk : List Int), BkOk hs fx m bk → (∀ i ∈ is, 0 ≤ i ∧ i ∉ bk ∧ its i) → is.Nodup → (∀ (b : Nat) j, bk[b]? = some j → 0 ≤ j → its j) → Asg hs fx bk its a → (allF hs fx m is bk).1 = true
 | [], _, _, _, _, _, _ => rfl
 | i :: is, bk, h, hi, hn, hits, hA => by
  obtain ⟨h1, h2⟩ := List.nodup_cons.1 hn
  obtain ⟨g1, g2, g3⟩ := hi i (List.mem_cons_self ..)
  unfold allF
  dsimp only
  cases hp : (placeF hs fx m i bk (List.replicate m false)).1
  ·exact absurd hA (place_none hh h.len (placeF_no hh m i bk (List.replicate m false) (by simp) (by unfold unseen; exact Nat.le_trans (List.length_filter_le ..) (by simp)) hp) (fun b c j hb hc hj => count_one hj (h.one j hj) hb hc) h.held g1 (fun b hb => g2 (List.mem_of_getElem? hb)) hits g3 hfl)
  ·rw [if_pos rfl]
   have Y := placeF_yes hh m i bk (List.replicate m false) h.len (by simp) hp
   have hmem : ∀ j, 0 ≤ j → j ∈ (placeF hs fx m i bk (List.replicate m false)).2.1 → j = i ∨ j ∈ bk := fun j hj hm => by
    have h3 := List.count_pos_iff.2 hm
    rw [Y.cnt j hj] at h3
    by_cases e : i = j
    ·exact .inl e.symm
    ·rw [if_neg e] at h3; exact .inr (List.count_pos_iff.1 h3)
   refine allF_yes hh hfl is _ (bk_place hh g1 h g2 hp) (fun k hk => ?_) h2 (fun b j hb hj => ?_) ⟨hA.home, hA.inj, fun b j hb hj => hA.fix b j hb (by rw [← Y.same b (.inr hb)]; exact hj)⟩
   ·obtain ⟨q1, q2, q3⟩ := hi k (List.mem_cons_of_mem _ hk)
    refine ⟨q1, fun hm => ?_, q3⟩
    rcases hmem k q1 hm with rfl | hm
    ·exact h1 hk
    ·exact q2 hm
   ·rcases hmem j hj (List.mem_of_getElem? hb) with rfl | hm
    ·exact g3
    ·obtain ⟨c, hc⟩ := List.getElem?_of_mem hm
     exact hits c j hc hj
theorem allF_ok {hs : Int → List Nat} {m : Nat} {fx : List Bool} (hh : ∀ j, ∀ b ∈ hs j, b < m) : ∀ (is : List Int) (bk : List Int), BkOk hs fx m bk → (∀ i ∈ is, 0 ≤ i ∧ i ∉ bk) → is.Nodup → (allF hs fx m is bk).1 = true →
  BkOk hs fx m (allF hs fx m is bk).2 ∧ (∀ j, 0 ≤ j → (j ∈ (allF hs fx m is bk).2 ↔ j ∈ is ∨ j ∈ bk)) ∧ ∀ b : Nat, fx[b]?.getD default = true → (allF hs fx m is bk).2[b]? = bk[b]?
 | [], bk, h, _, _, _ => ⟨h, fun j _ => by simp [allF], fun _ _ => rfl⟩
 | i :: is, bk, h, hi, hn, hp => by
  obtain ⟨h1, h2⟩ := List.nodup_cons.1 hn
  obtain ⟨g1, g2⟩ := hi i (List.mem_cons_self ..)
  unfold allF at hp ⊢
  dsimp only at hp ⊢
  split at hp
  ·rename_i hq
   rw [if_pos hq]
   have Y := placeF_yes hh m i bk (List.replicate m false) h.len (by simp) hq
   have hmem : ∀ j, 0 ≤ j → (j ∈ (placeF hs fx m i bk (List.replicate m false)).2.1 ↔ j = i ∨ j ∈ bk) := fun j hj => by
    rw [← List.count_pos_iff, Y.cnt j hj]
    by_cases e : i = j
    ·simp [e]
    ·rw [if_neg e, Nat.add_zero, List.count_pos_iff]; exact ⟨.inr, fun h => h.resolve_left (fun e2 => e e2.symm)⟩
   obtain ⟨k1, k2, k3⟩ := allF_ok hh is _ (bk_place hh g1 h g2 hq) (fun k hk => ⟨(hi k (List.mem_cons_of_mem _ hk)).1, fun hm => by
    rcases (hmem k (hi k (List.mem_cons_of_mem _ hk)).1).1 hm with rfl | hm
    ·exact h1 hk
    ·exact (hi k (List.mem_cons_of_mem _ hk)).2 hm⟩) h2 hp
   refine ⟨k1, fun j hj => ?_, fun b hb => (k3 b hb).trans (Y.same b (.inr hb))⟩
   rw [k2 j hj, hmem j hj, List.mem_cons]
   constructor
   ·rintro (h | h | h)
    ·exact .inl (.inr h)
    ·exact .inl (.inl h)
    ·exact .inr h
   ·rintro ((h | h) | h)
    ·exact .inr (.inl h)
    ·exact .inl h
    ·exact .inr (.inr h)
  ·cases hp
end Go.Q

namespace Go.Q
noncomputable def whereP (bk : List Int) (j : Int) : Nat := by classical exact if h : ∃ b : Nat, bk[b]? = some j then h.choose else 0
theorem whereP_get {bk : List Int} {j : Int} (h : j ∈ bk) : bk[whereP bk j]? = some j := by
 obtain ⟨b, hb⟩ := List.getElem?_of_mem h
 have hx : ∃ b : Nat, bk[b]? = some j := ⟨b, hb⟩
 unfold whereP
 rw [dif_pos hx]
 exact hx.choose_spec
theorem asg_of {hs : Int → List Nat} {fx : List Bool} {m : Nat} {bk bk' : List Int} (h : BkOk hs fx m bk') (hs' : ∀ b : Nat, fx[b]?.getD default = true → bk'[b]? = bk[b]?) : Asg hs fx bk (fun j => 0 ≤ j ∧ j ∈ bk') (whereP bk') := by
 refine ⟨fun j hj => h.home _ j (whereP_get hj.2) hj.1, fun j k hj hk e => ?_, fun b j hb hj => ?_⟩
 ·have h1 := whereP_get hj.2
  rw [e, whereP_get hk.2] at h1
  injection h1 with h1
  exact h1.symm
 ·have h1 : bk'[b]? = some j := (hs' b hb).trans hj
  have h2 := h.held b j hb h1
  have h3 := List.mem_of_getElem? h1
  exact ⟨⟨h2, h3⟩, count_one h2 (h.one j h2) (whereP_get h3) h1⟩
def clearF (fx : List Bool) (bk : List Int) : List Int := (List.range bk.length).map fun b => if fx[b]?.getD default = true then bk[b]?.getD default else -1
def firstL (hs : Int → List Nat) (m : Nat) (later : List Int) (i : Int) : List Nat → List Bool → List Int → Bool × List Bool × List Int
 | [], fx, bk => (false, fx, bk)
 | b :: bs, fx, bk =>
  if fx[b]?.getD default = true then firstL hs m later i bs fx bk
  else if (allF hs (fx.set b true) m later (clearF (fx.set b true) (bk.set b i))).1 = true then (true, fx.set b true, bk.set b i)
  else firstL hs m later i bs ((fx.set b true).set b false) ((bk.set b i).set b (-1))
def firstF (hs : Int → List Nat) (m : Nat) : List Int → List Bool → List Int → Bool × List Bool × List Int
 | [], fx, bk => (true, fx, bk)
 | i :: is, fx, bk =>
  let r := firstL hs m is i (hs i) fx bk
  if r.1 = true then firstF hs m is r.2.1 r.2.2 else (false, r.2.1, r.2.2)
structure FxOk (hs : Int → List Nat) (m : Nat) (fx : List Bool) (bk : List Int) : Prop extends BkOk hs fx m bk where
 flen : fx.length = m
 free : ∀ b : Nat, b < m → fx[b]?.getD default = false → bk[b]? = some (-1)
theorem clear_id {hs : Int → List Nat} {m : Nat} {fx : List Bool} {bk : List Int} (h : FxOk hs m fx bk) : clearF fx bk = bk := by
 unfold clearF
 refine List.ext_getElem (by simp) fun b h1 h2 => ?_
 rw [List.getElem_map, List.getElem_range]
 split
 ·rw [List.getElem?_eq_getElem h2]; rfl
 ·rename_i hf
  have h3 := h.free b (by rw [← h.len]; exact h2) (by simpa using hf)
  rw [List.getElem?_eq_getElem h2] at h3
  injection h3 with h3
  exact h3.symm
theorem fx_put {hs : Int → List Nat} {m : Nat} {fx : List Bool} {bk : List Int} {b : Nat} {i : Int} (h : FxOk hs m fx bk) (hb : b < m) (hf : fx[b]?.getD default = false) (hi : 0 ≤ i) (hn : i ∉ bk) (hh : b ∈ hs i) : FxOk hs m (fx.set b true) (bk.set b i) := by
 have h0 := h.free b hb hf
 have hl := h.len
 have hfl := h.flen
 refine ⟨⟨by rw [List.length_set]; exact hl, fun j hj => ?_, fun c j hc hj => ?_, fun c j hc hj => ?_⟩, by rw [List.length_set]; exact hfl, fun c hc hcf => ?_⟩
 ·have h1 := count_put (i := i) (j := j) h0
  rw [if_neg (by omega)] at h1
  have h2 := h.one j hj
  by_cases e : i = j
  ·subst e; rw [if_pos rfl, List.count_eq_zero.2 hn] at h1; omega
  ·rw [if_neg e] at h1; omega
 ·by_cases e : c = b
  ·subst e; rw [List.getElem?_set_self (by omega)] at hc; injection hc with hc; subst hc; exact hh
  ·rw [List.getElem?_set_ne (fun h => e h.symm)] at hc; exact h.home c j hc hj
 ·by_cases e : c = b
  ·subst e; rw [List.getElem?_set_self (by omega)] at hj; injection hj with hj; omega
  ·rw [List.getElem?_set_ne (fun h => e h.symm)] at hc hj; exact h.held c j hc hj
 ·by_cases e : c = b
  ·subst e; rw [List.getElem?_set_self (by omega)] at hcf; cases hcf
  ·rw [List.getElem?_set_ne (fun h => e h.symm)] at hcf ⊢; exact h.free c hc hcf
end Go.Q

namespace Go.Q
theorem set_back {α : Type} {l : List α} {b : Nat} {x y : α} (h : l[b]? = some y) : (l.set b x).set b y = l := by
 rw [List.set_set]
 refine List.ext_getElem? fun c => ?_
 by_cases e : c = b
 ·subst e
  obtain ⟨hb, _⟩ := List.getElem?_eq_some_iff.1 h
  rw [List.getElem?_set_self hb, h]
 ·rw [List.getElem?_set_ne (fun g => e g.symm)]
theorem firstL_go {hs : Int → List Nat} {m : Nat} {later : List Int} {i : Int} {fx : List Bool} {bk : List Int} (h : FxOk hs m fx bk) (hi : 0 ≤ i) (hn : i ∉ bk) : ∀ bs : List Nat, (∀ b ∈ bs, b ∈ hs i ∧ b < m) →
  ((firstL hs m later i bs fx bk).1 = true ∧ ∃ b ∈ bs, fx[b]?.getD default = false ∧ (firstL hs m later i bs fx bk).2 = (fx.set b true, bk.set b i) ∧ (allF hs (fx.set b true) m later (bk.set b i)).1 = true)
  ∨ ((firstL hs m later i bs fx bk).1 = false ∧ ∀ b ∈ bs, fx[b]?.getD default = false → (allF hs (fx.set b true) m later (bk.set b i)).1 = false)
 | [], _ => .inr ⟨rfl, fun b hb => absurd hb List.not_mem_nil⟩
 | b :: bs, hb => by
  obtain ⟨hbh, hbm⟩ := hb b (List.mem_cons_self ..)
  have ih := firstL_go h hi hn (later := later) bs (fun c hc => hb c (List.mem_cons_of_mem _ hc))
  unfold firstL
  by_cases h1 : fx[b]?.getD default = true
  ·rw [if_pos h1]
   rcases ih with ⟨g1, c, g2, g3⟩ | ⟨g1, g2⟩
   ·exact .inl ⟨g1, c, List.mem_cons_of_mem _ g2, g3⟩
   ·refine .inr ⟨g1, fun c hc hf => ?_⟩
    rcases List.mem_cons.1 hc with rfl | hc
    ·rw [h1] at hf; cases hf
    ·exact g2 c hc hf
  ·have h1' : fx[b]?.getD default = false := by simpa using h1
   have hput := fx_put h hbm h1' hi hn hbh
   rw [if_neg h1, clear_id hput]
   by_cases h2 : (allF hs (fx.set b true) m later (bk.set b i)).1 = true
   ·rw [if_pos h2]
    exact .inl ⟨rfl, b, List.mem_cons_self .., h1', rfl, h2⟩
   ·have hfb : fx[b]? = some false := by
     have := h.flen
     rw [List.getElem?_eq_getElem (by omega)] at h1' ⊢
     exact congrArg some h1'
    rw [if_neg h2, set_back hfb, set_back (h.free b hbm h1')]
    rcases ih with ⟨g1, c, g2, g3⟩ | ⟨g1, g2⟩
    ·exact .inl ⟨g1, c, List.mem_cons_of_mem _ g2, g3⟩
    ·refine .inr ⟨g1, fun c hc hf => ?_⟩
     rcases List.mem_cons.1 hc with rfl | hc
     ·simpa using h2
     ·exact g2 c hc hf
theorem mem_put {bk : List Int} {b : Nat} {i j x : Int} (h : bk[b]? = some x) (hx : x < 0) (hj : 0 ≤ j) : j ∈ bk.set b i ↔ j = i ∨ j ∈ bk := by
 have h1 := count_put (i := i) (j := j) h
 rw [if_neg (by omega)] at h1
 rw [← List.count_pos_iff, ← List.count_pos_iff]
 by_cases e : i = j
 ·subst e; rw [if_pos rfl] at h1; exact ⟨fun _ => .inl rfl, fun _ => by omega⟩
 ·rw [if_neg e] at h1; rw [show bk.count j = (bk.set b i).count j by omega]; exact ⟨.inr, fun h => h.resolve_left (fun e2 => e e2.symm)⟩
theorem firstF_yes {hs : Int → List Nat} {m : Nat} (hh : ∀ j, ∀ b ∈ hs j, b < m) : ∀ (is : List Int) (fx : List Bool) (bk : List Int), FxOk hs m fx bk → (∀ i ∈ is, 0 ≤ i ∧ i ∉ bk) → is.Nodup → (∃ a, Asg hs fx bk (fun j => 0 ≤ j ∧ (j ∈ is ∨ j ∈ bk)) a) → (firstF hs m is fx bk).1 = true
 | [], _, _, _, _, _, _ => rfl
 | i :: is, fx, bk, h, hi, hn, ⟨a, hA⟩ => by
  obtain ⟨h1, h2⟩ := List.nodup_cons.1 hn
  obtain ⟨g1, g2⟩ := hi i (List.mem_cons_self ..)
  have hai := hA.home i ⟨g1, .inl (List.mem_cons_self ..)⟩
  have ham := hh i _ hai
  have hne : ∀ k ∈ is, k ≠ i := fun k hk e => h1 (by rw [← e]; exact hk)
  have hst : ∀ b, b < m → fx[b]?.getD default = false → b ∈ hs i → FxOk hs m (fx.set b true) (bk.set b i) ∧ (∀ k ∈ is, 0 ≤ k ∧ k ∉ bk.set b i) := fun b hb hf hbh => by
   refine ⟨fx_put h hb hf g1 g2 hbh, fun k hk => ⟨(hi k (List.mem_cons_of_mem _ hk)).1, fun hm => ?_⟩⟩
   rcases (mem_put (h.free b hb hf) (by omega) (hi k (List.mem_cons_of_mem _ hk)).1).1 hm with e | e
   ·exact hne k hk e
   ·exact (hi k (List.mem_cons_of_mem _ hk)).2 e
  unfold firstF
  dsimp only
  rcases firstL_go h g1 g2 (later := is) (hs i) (fun b hb => ⟨hb, hh i b hb⟩) with ⟨q1, b, q2, q3, q4, q5⟩ | ⟨q1, q2⟩
  ·rw [if_pos q1, q4]
   obtain ⟨p1, p2⟩ := hst b (hh i b q2) q3 q2
   obtain ⟨r1, r2, r3⟩ := allF_ok hh is _ p1.toBkOk p2 h2 q5
   have hx := asg_of r1 r3
   refine firstF_yes hh is _ _ p1 p2 h2 ⟨_, ⟨fun j hj => hx.home j ⟨hj.1, (r2 j hj.1).2 hj.2⟩, fun j k hj hk => hx.inj j k ⟨hj.1, (r2 j hj.1).2 hj.2⟩ ⟨hk.1, (r2 k hk.1).2 hk.2⟩, fun c j hc hj => ?_⟩⟩
   obtain ⟨u1, u2⟩ := hx.fix c j hc hj
   exact ⟨⟨u1.1, (r2 j u1.1).1 u1.2⟩, u2⟩
  ·exfalso
   have hfa : fx[a i]?.getD default = false := by
    cases e : fx[a i]?.getD default
    ·rfl
    ·obtain ⟨u1, u2⟩ := hA.fix (a i) _ e (show bk[a i]? = some (bk[a i]?.getD default) by rw [List.getElem?_eq_getElem (by rw [h.len]; exact ham)]; rfl)
     have := hA.inj _ _ u1 ⟨g1, .inl (List.mem_cons_self ..)⟩ u2
     exact absurd (by rw [← this]; exact List.mem_of_getElem? (show bk[a i]? = some (bk[a i]?.getD default) by rw [List.getElem?_eq_getElem (by rw [h.len]; exact ham)]; rfl)) g2
   obtain ⟨p1, p2⟩ := hst (a i) ham hfa hai
   have q5 := q2 (a i) hai hfa
   rw [allF_yes hh p1.flen is _ p1.toBkOk (its := fun j => 0 ≤ j ∧ (j ∈ i :: is ∨ j ∈ bk)) (a := a) (fun k hk => ⟨(p2 k hk).1, (p2 k hk).2, (p2 k hk).1, .inl (List.mem_cons_of_mem _ hk)⟩) h2 (fun b j hb hj => ⟨hj, by
    rcases (mem_put (h.free (a i) ham hfa) (by omega) hj).1 (List.mem_of_getElem? hb) with e | e
    ·rw [e]; exact .inl (List.mem_cons_self ..)
    ·exact .inr e⟩) ⟨hA.home, hA.inj, fun b j hb hj => ?_⟩] at q5
   ·cases q5
   ·by_cases e : b = a i
    ·subst e
     rw [List.getElem?_set_self (by rw [h.len]; exact ham)] at hj
     injection hj with hj
     subst hj
     exact ⟨⟨g1, .inl (List.mem_cons_self ..)⟩, rfl⟩
    ·rw [List.getElem?_set_ne (fun g => e g.symm)] at hb hj
     exact hA.fix b j hb hj
theorem firstF_ok {hs : Int → List Nat} {m : Nat} (hh : ∀ j, ∀ b ∈ hs j, b < m) : ∀ (is : List Int) (fx : List Bool) (bk : List Int), FxOk hs m fx bk → (∀ i ∈ is, 0 ≤ i ∧ i ∉ bk) → is.Nodup → (firstF hs m is fx bk).1 = true →
  FxOk hs m (firstF hs m is fx bk).2.1 (firstF hs m is fx bk).2.2 ∧ ∀ j, 0 ≤ j → (j ∈ (firstF hs m is fx bk).2.2 ↔ j ∈ is ∨ j ∈ bk)
 | [], fx, bk, h, _, _, _ => ⟨h, fun j _ => by simp [firstF]⟩
 | i :: is, fx, bk, h, hi, hn, hp => by
  obtain ⟨h1, h2⟩ := List.nodup_cons.1 hn
  obtain ⟨g1, g2⟩ := hi i (List.mem_cons_self ..)
  unfold firstF at hp ⊢
  dsimp only at hp ⊢
  rcases firstL_go h g1 g2 (later := is) (hs i) (fun b hb => ⟨hb, hh i b hb⟩) with ⟨q1, b, q2, q3, q4, q5⟩ | ⟨q1, q2⟩
  ·rw [if_pos q1, q4] at hp ⊢
   have hm : ∀ j, 0 ≤ j → (j ∈ bk.set b i ↔ j = i ∨ j ∈ bk) := fun j hj => mem_put (h.free b (hh i b q2) q3) (by omega) hj
   obtain ⟨r1, r2⟩ := firstF_ok hh is _ _ (fx_put h (hh i b q2) q3 g1 g2 q2) (fun k hk => ⟨(hi k (List.mem_cons_of_mem _ hk)).1, fun hmk => by
    rcases (hm k (hi k (List.mem_cons_of_mem _ hk)).1).1 hmk with e | e
    ·exact h1 (by rw [← e]; exact hk)
    ·exact (hi k (List.mem_cons_of_mem _ hk)).2 e⟩) h2 hp
   refine ⟨r1, fun j hj => ?_⟩
   rw [r2 j hj, hm j hj, List.mem_cons]
   constructor
   ·rintro (u | u | u)
    ·exact .inl (.inr u)
    ·exact .inl (.inl u)
    ·exact .inr u
   ·rintro ((u | u) | u)
    ·exact .inr (.inl u)
    ·exact .inl u
    ·exact .inr (.inr u)
  ·rw [q1] at hp; cases hp
end Go.Q

namespace Go.Q
structure Hsh where
 m : Int
 ps : List (Int × Int)
abbrev cHsh (h : Hsh) : List D := [dInt .i64 h.m, dSl 2 cSh h.ps]
abbrev dHsh (h : Hsh) : D := dAgg (cHsh h)
abbrev fBo (b : Bool) : List D := [dB (b = true)]
def okSh (p : Int × Int) : Prop := (0 ≤ p.1 ∧ p.1 < 2147483647) ∧ 0 ≤ p.2 ∧ p.2 < 2147483647
def okH (h : Hsh) : Prop := (1 ≤ h.m ∧ h.m ≤ 64) ∧ (1 ≤ h.ps.length ∧ h.ps.length ≤ 4) ∧ ∀ p ∈ h.ps, okSh p
def homeI (m n : Int) (p : Int × Int) : Int := (p.1 * n + p.2) % 2147483647 % m
def homesI (h : Hsh) (n : Int) : List Int := h.ps.map (homeI h.m n)
theorem homesI_len (h : Hsh) (n : Int) : (homesI h n).length = h.ps.length := by simp [homesI]
theorem homesI_bd {h : Hsh} (hh : okH h) (n : Int) : ∀ b ∈ homesI h n, 0 ≤ b ∧ b < h.m := by
 intro b hb
 obtain ⟨p, _, rfl⟩ := List.mem_map.1 hb
 have := hh.1.1
 exact ⟨Int.emod_nonneg _ (by omega), Int.emod_lt_of_pos _ (by omega)⟩
def hsF (H : List (List Int)) (j : Int) : List Nat := (H[j.toNat]?.getD default).map Int.toNat
structure HOk (m : Nat) (H : List (List Int)) : Prop where
 bd : ∀ l ∈ H, ∀ b ∈ l, 0 ≤ b ∧ b < (m : Int)
 len : ∀ l ∈ H, l.length ≤ 4
theorem hsF_bd {m : Nat} {H : List (List Int)} (h : HOk m H) : ∀ j, ∀ b ∈ hsF H j, b < m := by
 intro j b hb
 obtain ⟨c, hc, rfl⟩ := List.mem_map.1 hb
 cases e : H[j.toNat]? with
 | none => rw [e] at hc; cases hc
 | some l =>
  rw [e] at hc
  have := h.bd l (List.mem_of_getElem? e) c hc
  omega
theorem HOk.at {m : Nat} {H : List (List Int)} (h : HOk m H) {i : Nat} (hi : i < H.length) : (H[i]?.getD default).length ≤ 4 ∧ ∀ b ∈ H[i]?.getD default, 0 ≤ b ∧ b < (m : Int) := by
 rw [List.getElem?_eq_getElem hi]
 exact ⟨h.len _ (List.getElem_mem hi), h.bd _ (List.getElem_mem hi)⟩
theorem HOk.home {m : Nat} {H : List (List Int)} (h : HOk m H) {i k : Nat} (hi : i < H.length) (hk : k < (H[i]?.getD default).length) : 0 ≤ (H[i]?.getD default)[k]?.getD default ∧ (H[i]?.getD default)[k]?.getD default < (m : Int) := by
 rw [List.getElem?_eq_getElem hk]
 exact (h.at hi).2 _ (List.getElem_mem hk)
theorem placeL_seen {rec : Int → List Int → List Bool → Bool × List Int × List Bool} {fx : List Bool} {i : Int} {bk : List Int} {sn : List Bool} : ∀ bs : List Nat, (∀ b ∈ bs, sn[b]?.getD default = true) → placeL rec fx i bs bk sn = (false, bk, sn)
 | [], _ => rfl
 | b :: bs, h => by
  unfold placeL
  rw [if_pos (.inl (h b (List.mem_cons_self ..)))]
  exact placeL_seen bs fun c hc => h c (List.mem_cons_of_mem _ hc)
theorem placeF_eq {hs : Int → List Nat} {m n : Nat} (hh : ∀ j, ∀ b ∈ hs j, b < m) {fx : List Bool} {i : Int} {bk : List Int} {sn : List Bool} (hl : sn.length = m) (hu : unseen sn ≤ n) : placeF hs fx n i bk sn = placeL (placeF hs fx (n - 1)) fx i (hs i) bk sn := by
 cases n with
 | zero =>
  rw [placeL_seen]
  ·rfl
  ·exact fun b hb => all_seen (by omega) (by rw [hl]; exact hh i b hb)
 | succ n => rfl
structure PlOk (m q n : Nat) (bk : List Int) (sn : List Bool) : Prop where
 bl : bk.length = m
 sl : sn.length = m
 it : ∀ x ∈ bk, x < (q : Int)
 un : unseen sn ≤ n
theorem PlOk.at {m q n : Nat} {bk : List Int} {sn : List Bool} (h : PlOk m q n bk sn) {b : Nat} (hb : b < m) : bk[b]?.getD default < (q : Int) := by
 have hbl := h.bl
 rw [List.getElem?_eq_getElem (by omega)]
 exact h.it _ (List.getElem_mem _)
theorem PlOk.seen {m q n : Nat} {bk : List Int} {sn : List Bool} (h : PlOk m q n bk sn) {b : Nat} (hb : b < m) (hs : sn[b]?.getD default ≠ true) : PlOk m q (n - 1) bk (sn.set b true) ∧ 0 < n := by
 have hu := unseen_set (sn := sn) (b := b) (by rw [h.sl]; exact hb) (by simpa using hs)
 have := h.un
 exact ⟨⟨h.bl, by rw [List.length_set]; exact h.sl, h.it, by omega⟩, by omega⟩
theorem PlOk.put {m q n : Nat} {bk : List Int} {sn : List Bool} (h : PlOk m q n bk sn) {b : Nat} {i : Int} (hi : i < (q : Int)) : PlOk m q n (bk.set b i) sn :=
 ⟨by rw [List.length_set]; exact h.bl, h.sl, fun x hx => by
  rcases List.mem_or_eq_of_mem_set hx with hx | rfl
  ·exact h.it x hx
  ·exact hi, h.un⟩
theorem PlOk.more {m q n n' : Nat} {bk : List Int} {sn : List Bool} (h : PlOk m q n bk sn) (hn : n ≤ n') : PlOk m q n' bk sn := ⟨h.bl, h.sl, h.it, Nat.le_trans h.un hn⟩
theorem placeL_plok {m q n n' : Nat} {rec : Int → List Int → List Bool → Bool × List Int × List Bool} {fx : List Bool} {i : Int} (hi : i < (q : Int)) (hb0 : ∀ j < (q : Int), ∀ bk sn, PlOk m q n' bk sn → PlOk m q n' (rec j bk sn).2.1 (rec j bk sn).2.2) (hn : n' = n - 1) :
  ∀ (bs : List Nat) (bk : List Int) (sn : List Bool), (∀ b ∈ bs, b < m) → PlOk m q n bk sn → PlOk m q n (placeL rec fx i bs bk sn).2.1 (placeL rec fx i bs bk sn).2.2
 | [], _, _, _, h => h
 | b :: bs, bk, sn, hb, h => by
  have h0 := hb b (List.mem_cons_self ..)
  have h1 := fun c hc => hb c (List.mem_cons_of_mem _ hc)
  unfold placeL
  split
  ·exact placeL_plok hi hb0 hn bs bk sn h1 h
  ·rename_i hs
   split
   ·exact h.put hi
   ·obtain ⟨h2, h3⟩ := h.seen h0 (fun e => hs (.inl e))
    rw [← hn] at h2
    have h4 := (hb0 _ (h.at h0) _ _ h2).more (show n' ≤ n by omega)
    dsimp only
    split
    ·exact h4.put hi
    ·exact placeL_plok hi hb0 hn bs _ _ h1 h4
theorem placeF_plok {m q : Nat} {hs : Int → List Nat} (hh : ∀ j, ∀ b ∈ hs j, b < m) {fx : List Bool} : ∀ (n : Nat) (i : Int) (bk : List Int) (sn : List Bool), i < (q : Int) → PlOk m q n bk sn → PlOk m q n (placeF hs fx n i bk sn).2.1 (placeF hs fx n i bk sn).2.2
 | 0, _, _, _, _, h => h
 | n + 1, i, bk, sn, hi, h => placeL_plok (n' := n) hi (fun j hj bk sn h => placeF_plok hh n j bk sn hj h) rfl (hs i) bk sn (hh i) h
theorem homes_next {H : List (List Int)} {i : Int} {k : Nat} (hk : k < (H[i.toNat]?.getD default).length) : (hsF H i).drop k = ((H[i.toNat]?.getD default)[k]?.getD default).toNat :: (hsF H i).drop (k + 1) := by
 unfold hsF
 rw [List.drop_eq_getElem_cons (by rw [List.length_map]; exact hk), List.getElem_map, List.getElem?_eq_getElem hk]
 rfl
theorem homes_end {H : List (List Int)} {i : Int} {k : Nat} (hk : (H[i.toNat]?.getD default).length ≤ k) : (hsF H i).drop k = [] := List.drop_eq_nil_of_le (by unfold hsF; rw [List.length_map]; exact hk)
end Go.Q

namespace Go.Q
variable {P : Program} {f : FuncId} {N : Nat} {I0 : Imm} {R : Goal} {g : G} {M : List Res} {k : List Item}
theorem stepR_scope {b : Frame} {a : Act} {cs : List Frame} {w : World} {c : Code} : step P (lone (b.atR a (.code (.scope c) :: k)) cs w) = .next (lone (b.atR a (.code c :: .inScope c :: k)) cs w) :=
 step_lone_go (by simp [stepG, stepG.exec, Frame.atR])
theorem run_scope {c : Code} (h : Run P f N I0 R g M (.code c :: .inScope c :: k)) : Run P f N I0 R g M (.code (.scope c) :: k) :=
 ⟨fun I a w b cs hb hk hl hs hi => .step (.one stepR_scope) (h.go I a w b cs hb hk hl hs hi)⟩
end Go.Q

namespace Go.Q
variable {P : Program} {f : FuncId}
def FlatR (r : Res) : Prop := ∀ I J o, r.sat I o → r.sat J o
theorem relL_flatR {I J : Imm} : ∀ {ds : List D} {vs : List Value}, (∀ d ∈ ds, Flat d) → relL ds I vs → relL ds J vs
 | [], [], _, _ => trivial
 | [], _ :: _, _, h => h.elim
 | _ :: _, [], _, h => h.elim
 | d :: ds, v :: vs, hf, h => ⟨(hf d (List.mem_cons_self ..)).flat h.1, relL_flatR (fun e he => hf e (List.mem_cons_of_mem _ he)) h.2⟩
theorem rRow_flat {α : Type} {v : Value} {T n : Nat} {f' : α → List D} {xs : List α} (h : ∀ x, ∀ d ∈ f' x, Flat d) : FlatR (rRow v T n f' xs) := by
 intro I J o hs
 cases o with
 | none => exact hs
 | some ob =>
  obtain ⟨b, cap, cs, h1, h2, h3, h4, h5, h6, h7, h8⟩ := hs
  refine ⟨b, cap, cs, h1, h2, h3, h4, h5, h6, h7, relL_flatR (fun d hd => ?_) h8⟩
  obtain ⟨x, _, hx⟩ := List.mem_flatMap.1 hd
  exact h x d hx
def pinW (w : World) (r : Res) : Res := ⟨r.key, fun _ o => o = r.key.bind fun b => w.heap[b]?, fun _ h => h⟩
theorem keys_pin (w : World) (F : List Res) : keys (F.map (pinW w)) = keys F := by
 unfold keys
 rw [List.filterMap_map]
 rfl
theorem keys_app (A B : List Res) : keys (A ++ B) = keys A ++ keys B := List.filterMap_append
theorem inv_pin {I : Imm} {A F : List Res} {w : World} (h : Inv I (A ++ F) w) : Inv I (A ++ F.map (pinW w)) w := by
 refine ⟨h.os, h.tape, h.output, h.imm, fun r hr => ?_, by rw [keys_app, keys_pin, ← keys_app]; exact h.apart⟩
 rcases List.mem_append.1 hr with hr | hr
 ·exact h.own r (List.mem_append_left _ hr)
 ·obtain ⟨q, hq, rfl⟩ := List.mem_map.1 hr
  have h1 := h.own q (List.mem_append_right _ hq)
  unfold Res.ok at h1 ⊢
  show match q.key with | none => (none : Option Obj) = q.key.bind fun b => w.heap[b]? | some b => I.blk b = none ∧ ∃ o, w.heap[b]? = some o ∧ some o = q.key.bind fun b => w.heap[b]?
  cases hk : q.key with
  | none => rfl
  | some b =>
   rw [hk] at h1
   obtain ⟨h2, o, h3, _⟩ := h1
   exact ⟨h2, o, h3, h3.symm⟩
theorem row_freeze2 {α : Type} {v : Value} {T n : Nat} {f' : α → List D} {xs : List α} {I : Imm} {F : List Res} {w : World} (hi : Inv I (rRow v T n f' xs :: F) w) :
  ∃ J, I.le J ∧ (dSl n f' xs).rel J v ∧ Inv J F w ∧ ∀ b, (rRow v T n f' xs).key = some b → ∃ o, w.heap[b]? = some o ∧ J.blk b = some o := by
 rcases row_cases hi with ⟨rfl, hx⟩ | ⟨b, cap, cs, rfl, h3, h4, h5, h6, h7, h8, h9⟩
 ·subst hx
  exact ⟨I, I.le_refl, ⟨none, 0, rfl, Nat.le_refl _, Nat.zero_le _, Nat.zero_le _, fun i x hx => by simp at hx⟩, hi.sub (List.sublist_cons_self ..), fun b hb => by cases hb⟩
 ·obtain ⟨o, ho, hn, hi'⟩ := hi.freeze (b := b) rfl
  have hblk : o = .cells cs T (0, 0) := by
   have := hi'.imm b o (by simp [Imm.add])
   rw [h3] at this
   injection this with this
   exact this.symm
  subst hblk
  have hle := Imm.le_add (o := .cells cs T (0, 0)) hn
  refine ⟨_, hle, ⟨some ⟨b, 0, none⟩, cap, rfl, h5, h6, h7, fun i x hx => ⟨h8 x (List.mem_of_getElem? hx), ⟨b, 0, none⟩, rfl, rfl, ?_⟩⟩, hi', fun b' hb => by
   have e : b = b' := by injection hb
   subst e
   exact ⟨_, h3, by simp [Imm.add]⟩⟩
  rw [Addr.add_lit, Nat.zero_add]
  refine ⟨rfl, cs, T, (0, 0), by simp [Imm.add], ?_⟩
  have h10 := relL_elem h8 h9 i x hx
  have hlen := h8 x (List.mem_of_getElem? hx)
  rw [List.drop_take, List.take_take] at h10
  have hlt : i < xs.length := (List.getElem?_eq_some_iff.1 hx).1
  have hmin : min n (xs.length * n - i * n) = n := by
   apply Nat.min_eq_left
   rw [← Nat.sub_mul]
   exact Nat.le_mul_of_pos_left n (by omega)
  rw [hmin] at h10
  simp only [hlen]
  exact relL_mono hle h10
theorem relL_at {A B : List D} {d e : D} {I J : Imm} (hle : I.le J) {v : Value} (h : d.rel I v → e.rel J v) (hv : ∀ u, d.rel I u → u = v) : ∀ {vs : List Value}, relL (A ++ d :: B) I vs → relL (A ++ e :: B) J vs := by
 induction A with
 | nil =>
  intro vs hr
  cases vs with
  | nil => exact hr.elim
  | cons u us =>
   have := hv u hr.1
   subst this
   exact ⟨h hr.1, relL_mono hle hr.2⟩
 | cons a A ih =>
  intro vs hr
  cases vs with
  | nil => exact hr.elim
  | cons u us => exact ⟨a.mono hle hr.1, ih hr.2⟩
theorem spec_lend {α : Type} {v : Value} {T n : Nat} {f' : α → List D} {xs : List α} {A B : List D} {Min : List Res} {σ : Type} {φ : σ → Prop} {d : σ → D} {Mout : σ → List Res} (h : Spec P f (A ++ dSl n f' xs :: B) Min φ d Mout)
  (hd : ∀ s, Flat (d s)) (hm : ∀ s, ∀ r ∈ Mout s, FlatR r) : Spec P f (A ++ dVal v :: B) (rRow v T n f' xs :: Min) φ d (fun s => rRow v T n f' xs :: Mout s) := by
 intro I F w vs hv hi
 obtain ⟨J, hle, hdj, hj, hjb⟩ := row_freeze2 hi
 refine Calls.mono (h J (F.map (pinW w)) w vs (relL_at hle (v := v) (fun _ => hdj) (fun u hu => hu) hv) (inv_pin hj)) ?_
 rintro e w' ⟨u, rfl, s, hs, J', hle', hdu, hi'⟩
 have hleI := hle.trans hle'
 have hIn : ∀ b, J'.blk b = none → I.blk b = none := fun b hb => by
  cases hc : I.blk b with
  | none => rfl
  | some o => have := hleI.blk b o hc; rw [hb] at this; cases this
 refine ⟨u, rfl, s, hs, I, I.le_refl, (hd s).flat hdu, ⟨hi'.os.trans hleI.os, hi'.tape.trans hleI.tape, hi'.output.trans hleI.output, fun b o hb => hi'.imm b o (hleI.blk b o hb), fun r hr => ?_, ?_⟩⟩
 ·rcases List.mem_cons.1 (show r ∈ rRow v T n f' xs :: (Mout s ++ F) from hr) with rfl | hr
  ·have h1 := hi.own _ (List.mem_cons_self ..)
   unfold Res.ok at h1 ⊢
   cases hk : (rRow v T n f' xs).key with
   | none => rw [hk] at h1; exact h1
   | some b =>
    rw [hk] at h1
    obtain ⟨h2, o, h3, h4⟩ := h1
    obtain ⟨o2, h5, h6⟩ := hjb b hk
    rw [h3] at h5
    injection h5 with h5
    subst h5
    exact ⟨h2, o, hi'.imm b o (hle'.blk b o h6), h4⟩
  ·rcases List.mem_append.1 hr with hr | hr
   ·have h1 := hi'.own r (List.mem_append_left _ hr)
    have h9 := hm s r hr
    unfold Res.ok at h1 ⊢
    cases hk : r.key with
    | none => rw [hk] at h1; exact h9 _ _ _ h1
    | some b =>
     rw [hk] at h1
     obtain ⟨h2, o, h3, h4⟩ := h1
     exact ⟨hIn b h2, o, h3, h9 _ _ _ h4⟩
   ·have h1 := hi'.own _ (List.mem_append_right _ (List.mem_map_of_mem hr))
    have h0 := hi.own r (List.mem_cons_of_mem _ (List.mem_append_right _ hr))
    unfold Res.ok at h1 h0 ⊢
    cases hk : r.key with
    | none => rw [hk] at h0; exact h0
    | some b =>
     rw [hk] at h0
     have h1' : match (some b : Option Nat) with | none => (none : Option Obj) = (some b : Option Nat).bind fun b => w.heap[b]? | some b => J'.blk b = none ∧ ∃ o, w'.heap[b]? = some o ∧ some o = (some b : Option Nat).bind fun b => w.heap[b]? := by
      have h2 : (match r.key with | none => (none : Option Obj) = r.key.bind fun b => w.heap[b]? | some b => J'.blk b = none ∧ ∃ o, w'.heap[b]? = some o ∧ some o = r.key.bind fun b => w.heap[b]?) := h1
      rw [hk] at h2
      exact h2
     obtain ⟨h2, o, h3, h4⟩ := h1'
     obtain ⟨h5, o2, h6, h7⟩ := h0
     have h8 : some o = w.heap[b]? := h4
     rw [h6] at h8
     injection h8 with h8
     subst h8
     exact ⟨h5, o, h3, h7⟩
 ·have hn := hi'.apart
  rw [keys_app, keys_pin, ← keys_app] at hn
  show (keys (rRow v T n f' xs :: (Mout s ++ F))).Nodup
  unfold keys at hn ⊢
  cases hk : (rRow v T n f' xs).key with
  | none => rw [List.filterMap_cons_none hk]; exact hn
  | some b =>
   rw [List.filterMap_cons_some hk]
   refine List.nodup_cons.2 ⟨fun hb => ?_, hn⟩
   obtain ⟨o, _, h6⟩ := hjb b hk
   have h7 := hle'.blk b o h6
   obtain ⟨r, hr, hrk⟩ := List.mem_filterMap.1 hb
   have hbad : ∀ q ∈ Mout s ++ F.map (pinW w), q.key = some b → False := fun q hq hqk => by
    have h8 := hi'.own q hq
    unfold Res.ok at h8
    rw [hqk] at h8
    have := h8.1
    rw [h7] at this
    cases this
   rcases List.mem_append.1 hr with hr | hr
   ·exact hbad r (List.mem_append_left _ hr) hrk
   ·exact hbad (pinW w r) (List.mem_append_right _ (List.mem_map_of_mem hr)) hrk
end Go.Q

namespace Go.Q
variable {P : Program} {f : FuncId} {N : Nat} {I0 : Imm} {R : Goal} {g : G} {M : List Res} {k : List Item} {dst : Option Tmp} {ty : TypeId} {pos : String} {after : Array Edge} {gd : Option (Nat × Bool)}
variable {t e T : TypeId} {agg : Bool} {n : Nat} {α : Type} {f' : α → List D} {xs : List α} {x y : Operand} {kd : IntKind} {h : Value} {F : List Res}
def dEl (h : Value) (n i : Nat) : D := ⟨fun _ v => ∃ b len cap, h = .slice (some ⟨b, 0, none⟩) len cap ∧ v = ptr b (i * n), fun _ h => h⟩
theorem row_form {I : Imm} {w : World} (hi : Inv I M w) (hm : In (rRow h T n f' xs) M) (hx : 0 < xs.length) : ∃ b cap, h = .slice (some ⟨b, 0, none⟩) xs.length cap := by
 obtain ⟨s, t, e⟩ := List.append_of_mem hm.mem
 rw [e] at hi
 rcases row_cases (hi.perm List.perm_middle) with ⟨_, h2⟩ | ⟨b', cap, cs', h2, _⟩
 ·rw [h2] at hx; cases hx
 ·exact ⟨b', cap, h2⟩
theorem loc_indexEl [ht : TySl P t e] [hv : TyV P e agg n] {i : Int} (hx : opd g x = some (dVal h)) (hy : opd g y = some (dInt kd i)) (hm : In (rRow h T n f' xs) M) (hi : 0 ≤ i ∧ i < xs.length) :
  LocP P ⟨dst, .indexAddr t x y, ty, pos, after, gd⟩ g N M (dEl h n i.toNat) :=
 locP_of_run fun I a w hs hinv => by
  obtain ⟨b, cap, hb⟩ := row_form hinv hm (by omega)
  have hxv : a.eval x = .slice (some ⟨b, 0, none⟩) xs.length cap := by have : a.eval x = h := opd_sound hs hx; rw [this]; exact hb
  have hyv : a.eval y = .int kd i := opd_sound hs hy
  refine ⟨_, ?_, b, xs.length, cap, hb, rfl⟩
  simp [execOp, Instr.indexAt, hxv, hyv, asIntOf, run_underlying ht.eq, hi, run_sizeOf hv, Addr.add_lit, ptr]
theorem loc_loadEl1 [Inhabited α] [ht : TyV P t false 1] {i : Nat} {d : α → D} (hx : opd g x = some (dEl h 1 i)) (hm : In (rRow h T 1 (fun e => [d e]) xs) M) (hi : i < xs.length) :
  LocP P ⟨dst, .load t x, ty, pos, after, gd⟩ g N M (d (xs[i]?.getD default)) :=
 locP_of_run fun I a w hs hinv => by
  obtain ⟨b, len, cap, hb, hp⟩ := opd_sound hs hx
  subst hb
  have hp : a.eval x = .pointer (some ⟨b, i * 1, none⟩) := hp
  obtain ⟨cs, _, hb, hsz, hcap, _, hr⟩ := own_row hinv hm.mem
  have h2 := relL_elem (f := fun e => [d e]) (n := 1) (fun x _ => rfl) hr i xs[i] (by simp [hi])
  obtain ⟨v, hv, hd⟩ := relL_get h2 0 (d xs[i]) rfl
  rw [List.getElem?_take, if_pos (by omega), List.getElem?_drop, List.getElem?_take, if_pos (by omega), Array.getElem?_toList] at hv
  refine ⟨v, ?_, by simpa [hi] using hd⟩
  rw [Nat.mul_one] at hp hv
  have hc : w.cell? ⟨b, i, none⟩ = some v := by simp [World.cell?, hb]; simpa using hv
  have hl : (load (⟨b, i, none⟩ : Addr)).run P w = .ok v w := by rw [run_load, hc]
  simp [execOp, hp, Instr.loadAt, Instr.sureAddr, loadVar, run_isAgg ht, -run_load, hl]
theorem LocM.adr {o : Oper} {r0 : Res} {σ : Type} {φ : σ → Prop} {d : σ → D} {Mo : σ → List Res} (hl : ∀ I F a w, Slots g N I a → Inv I (r0 :: F) w → ∃ g', Slots g' N I a ∧ LocM P o g' N [r0] φ d Mo) : LocM P o g N [r0] φ d Mo :=
 ⟨fun F I a w K Q hs hi hK => by
  obtain ⟨g', h1, h2⟩ := hl I F a w hs hi
  exact h2.go F I a w K Q h1 hi hK⟩
theorem opd_cons_tmp {s : Nat} {d : D} : opd ((s, d) :: g) (.tmp s) = some d := by
 show look ((s, d) :: g) s = some d
 rw [look_cons, if_pos rfl]
theorem loc_storeEl [ht : TyV P t false 1] {i s : Nat} {d : α → D} {d0 : D} (e0 : α) [ho : One d0] (hx : look g s = some (dEl h 1 i)) (hy : opd g y = some d0) (hys : ∀ v : Nat, y = .tmp v → v ≠ s) (he : d e0 = d0) (hi : i < xs.length) :
  LocM P ⟨none, .store t (.tmp s) y, ty, pos, after, gd⟩ g N [rRow h T 1 (fun e => [d e]) xs] (fun _ : Unit => True) (fun _ => dTop) (fun _ => [rRow h T 1 (fun e => [d e]) (xs.set i e0)]) := by
 refine LocM.adr fun I F a w hs hinv => ?_
 obtain ⟨b, cap, hb⟩ := row_form hinv .here (by omega)
 subst hb
 obtain ⟨b', len', cap', h1, h2⟩ := hs.slot _ _ hx
 injection h1 with e1 e2 e3
 injection e1 with e1
 injection e1 with e1
 subst e1
 refine ⟨(s, dVal (ptr b (i * 1))) :: g, ⟨hs.size, hs.defers, fun j e hj => ?_⟩, ?_⟩
 ·rw [look_cons] at hj
  split at hj
  ·rename_i e5
   subst e5
   injection hj with hj
   subst hj
   exact h2
  ·exact hs.slot _ _ hj
 ·refine loc_storeRow1 e0 opd_cons_tmp ?_ he hi
  cases y with
  | tmp v =>
   show look _ v = _
   rw [look_cons, if_neg (fun e => hys v rfl e.symm)]
   exact hy
  | const v => cases v with
   | bool b => cases b <;> exact hy
   | _ => exact hy
  | _ => exact hy
/-! ### Families -/
theorem In.of_mem {r : Res} : ∀ {M : List Res}, r ∈ M → In r M
 | [], h => by cases h
 | s :: M, h => by
  by_cases e : r = s
  ·subst e; exact .here
  ·exact .there (In.of_mem ((List.mem_cons.1 h).resolve_left e))
theorem in_fam {c : α → List D} {fa : List (Value × List α)} (A : List Res) {i : Nat} {p : Value × List α} (hp : fa[i]? = some p) : In (rRow p.1 T n c p.2) (A ++ (fam T n c fa ++ F)) :=
 In.of_mem (List.mem_append_right _ (List.mem_append_left _ (List.mem_map.2 ⟨p, List.mem_of_getElem? hp, rfl⟩)))
end Go.Q

namespace Go.Q
open Go.Proofs
open Classical
theorem ccheck_spec19 (h : Hsh) (hh : okH h) : SpecP Try.prog 30 [dHsh h] (dInt .i64 0) := by
  have hm1 := hh.1
  have hp1 := hh.2.1
  have hq1 := hh.2.2
  refine specP_of_body Try.func30 rfl rfl (fun I M => ?_)
  refine au 32 ?_
  refine run_cond rfl (fun h1 => ?_) (fun h1 => ?_)
  · exfalso; have := h1; omega
  ·
   refine au 6 ?_
   first | refine runL_fact (s := 26) rfl (fun _ _ h => dSl_len h) (fun hlen2 => ?_) | skip
   refine au 4 ?_
   refine run_loopC (σ := Nat) (ks := [26, 27]) (.cons rfl (.cons rfl (.nil))) (fun k => [(28, dInt .i64 (k : Nat))]) (fun k => k ≤ h.ps.length) (fun k => h.ps.length - k) (0) ((by omega)) (.cons rfl (by first | exact fun _ _ h => h | exact d_int (by omega) | exact d_int (by simp) | exact d_intN (by omega) | exact d_any) .nil) ?_
   intro k hk ih3
   refine au 5 ?_
   refine run_cond rfl (fun h4 => ?_) (fun h4 => ?_)
   ·
    have hsh := hq1 (h.ps[k]?.getD default) (getD_mem (by omega))
    unfold okSh at hsh
    refine au 7 ?_
    refine run_new (loc_allocOwn (by simp)) rfl (fun b5 _ => ?_)
    refine au 26 ?_
    refine run_cond rfl (fun h6 => ?_) (fun h6 => ?_)
    · exfalso; have := h6; omega
    ·
     refine au 6 ?_
     refine run_drop (.cons _ (.refl _)) ?_
     exact run_againC ih3 (k + 1) (by omega) (by omega) (.cons rfl (by first | exact fun _ _ h => h | exact d_int (by omega) | exact d_int (by simp) | exact d_intN (by omega) | exact d_any) .nil) (.cons rfl (fun _ _ x => x) (.cons rfl (fun _ _ x => x) (.nil)))
   ·
    refine au 5 ?_
    refine run_retP Try.func30 rfl rfl ?_
    exact fun _ _ h => h
theorem chomesM_spec (h : Hsh) (hh : okH h) (n : Int) (hn : 0 ≤ n ∧ n < 2147483647) : Spec Try.prog 31 [dHsh h, dInt .i64 n] [] (σ := Value) (fun _ => True) (fun v => dVal v) (fun v => [rRow v 3 1 fI (homesI h n)]) := by
  have hm1 := hh.1
  have hp1 := hh.2.1
  have hq1 := hh.2.2
  refine spec_of_body Try.func31 rfl rfl (fun I F => ?_)
  refine au 14 ?_
  first | refine runL_fact (s := 9) rfl (fun _ _ h => dSl_len h) (fun hlen1 => ?_) | skip
  refine au 4 ?_
  refine run_rowNil 3 1 fI ?_
  refine run_loopF (σ := Value × Nat) (ks := [1, 2, 9, 10]) (.cons rfl (.cons rfl (.cons rfl (.cons rfl (.nil))))) (fun q => [(5, dVal q.1), (11, dInt .i64 (q.2 : Nat))]) (fun q => [rRow q.1 3 1 fI ((h.ps.take q.2).map (homeI h.m n))]) (fun q => q.2 ≤ h.ps.length) (fun q => h.ps.length - q.2) ((.slice none 0 0, 0)) (Nat.zero_le _) (.cons rfl (by first | exact fun _ _ h => h | exact d_int (by omega) | exact d_int (by simp) | exact d_intN (by omega) | exact d_any) (.cons rfl (by first | exact fun _ _ h => h | exact d_int (by omega) | exact d_int (by simp) | exact d_intN (by omega) | exact d_any) .nil)) (rfl) ?_
  intro q hq ih2
  have hql : ((h.ps.take q.2).map (homeI h.m n)).length = q.2 := by rw [List.length_map, List.length_take]; omega
  refine au 5 ?_
  refine run_cond rfl (fun h3 => ?_) (fun h3 => ?_)
  ·
   have hsh := hq1 (h.ps[q.2]?.getD default) (getD_mem (by omega))
   unfold okSh at hsh
   have hmul := mul_bd (a := (h.ps[q.2]?.getD default).1) (b := n) (A := 2147483646) (B := 2147483646) (by omega) (by omega) (by omega) (by omega)
   have hmd := mod_bd ((h.ps[q.2]?.getD default).1 * n + (h.ps[q.2]?.getD default).2) (show (0 : Int) < 2147483647 by omega)
   have hsn : (h.ps.take (q.2 + 1)).map (homeI h.m n) = (h.ps.take q.2).map (homeI h.m n) ++ [homeI h.m n (h.ps[q.2]?.getD default)] := by rw [List.take_add_one, List.getElem?_eq_getElem (by omega), List.map_append]; rfl
   refine au 7 ?_
   refine run_new (loc_allocOwn (by simp)) rfl (fun b4 _ => ?_)
   refine au 15 ?_
   refine run_op (loc_buildSlice rfl rfl (.one rfl (.nil)) rfl rfl) rfl ?_
   refine run_append1 rfl (.there (.here)) rfl (by rfl) (by rfl) (by first | omega | (simp [lenMax]; omega) | (simp [lenMax]; done) | assumption) (by first | omega | (simp [lenMax]; omega) | (simp [lenMax]; done) | assumption) rfl (fun v5 => ?_)
   refine au 7 ?_
   refine run_drop (.cons _ (.refl _)) ?_
   exact run_againF ih2 ((v5, q.2 + 1)) (by simp only; omega) (by simp only; omega) (.cons rfl (by first | exact fun _ _ h => h | exact d_int (by omega) | exact d_int (by simp) | exact d_intN (by omega) | exact d_any) (.cons rfl (by first | exact fun _ _ h => h | exact d_int (by omega) | exact d_int (by simp) | exact d_intN (by omega) | exact d_any) .nil)) (.cons rfl (fun _ _ x => x) (.cons rfl (fun _ _ x => x) (.cons rfl (fun _ _ x => x) (.cons rfl (fun _ _ x => x) (.nil))))) (by simp only [appR]; rw [hsn]; rfl)
  ·
   refine au 6 ?_
   refine run_ret (q.1) Try.func31 rfl rfl ?_ (trivial) (fun _ _ h => by rw [List.take_of_length_le (by omega)] at h; exact h)
   exact fun _ _ h => h
theorem chomes_spec (h : Hsh) (hh : okH h) (n : Int) (hn : 0 ≤ n ∧ n < 2147483647) : SpecP Try.prog 31 [dHsh h, dInt .i64 n] (dInts (homesI h n)) := spec_freeze (chomesM_spec h hh n hn)
theorem citem_spec (n : Int) : SpecP Try.prog 42 [dInt .i64 n] (dB (0 ≤ n ∧ n < 2147483647)) := by
 refine specP_of_body Try.func42 rfl rfl (fun I M => ?_)
 refine au 15 ?_
 refine run_retP Try.func42 rfl rfl ?_
 exact d_B (by constructor <;> (intro h; omega))
theorem casked1_spec (n : Int) : SpecP Try.prog 41 [dInt .i64 n] (dB (¬ (0 ≤ n ∧ n < 2147483647))) := by
 refine specP_of_body Try.func41 rfl rfl (fun I M => ?_)
 refine au 7 ?_
 refine run_op (loc_call (citem_spec _) rfl) rfl ?_
 refine au 3 ?_
 refine run_retP Try.func41 rfl rfl ?_
 exact fun _ _ h => h
end Go.Q

namespace Go.Q
variable {P : Program} {f : FuncId} {N : Nat} {I0 : Imm} {R : Goal} {g : G} {k : List Item} {F : List Res} {dst : Tmp} {op : Op} {ty : TypeId} {pos : String} {after : Array Edge} {ops : Array Oper} {rest : List Oper}
theorem run_op2 {r1 r2 : Res} {σ : Type} {φ : σ → Prop} {d : σ → D} {q1 q2 : σ → Res} (hN : Nat.blt dst N = true) (hd : LocM P ⟨some dst, op, ty, pos, after, none⟩ g N [r1, r2] φ d (fun s => [q1 s, q2 s]))
  (h : ∀ s, φ s → RunL P f N I0 R ((dst, d s) :: g) (q1 s :: q2 s :: F) ops rest k) : RunL P f N I0 R g (r1 :: r2 :: F) ops (⟨some dst, op, ty, pos, after, none⟩ :: rest) k :=
 run_opM (Min := [r1, r2]) (Mout := fun s => [q1 s, q2 s]) hd hN h
theorem run_op3 {r1 r2 r3 : Res} {σ : Type} {φ : σ → Prop} {d : σ → D} {q1 q2 q3 : σ → Res} (hN : Nat.blt dst N = true) (hd : LocM P ⟨some dst, op, ty, pos, after, none⟩ g N [r1, r2, r3] φ d (fun s => [q1 s, q2 s, q3 s]))
  (h : ∀ s, φ s → RunL P f N I0 R ((dst, d s) :: g) (q1 s :: q2 s :: q3 s :: F) ops rest k) : RunL P f N I0 R g (r1 :: r2 :: r3 :: F) ops (⟨some dst, op, ty, pos, after, none⟩ :: rest) k :=
 run_opM (Min := [r1, r2, r3]) (Mout := fun s => [q1 s, q2 s, q3 s]) hd hN h
instance (v : Value) : Flat (dSlV v) := ⟨fun h => h⟩
instance (v : Value) : Flat (dVal v) := ⟨fun h => h⟩
theorem spec_perm {Ds : List D} {Min : List Res} {σ : Type} {φ : σ → Prop} {d : σ → D} {Mout Mo : σ → List Res} (h : Spec P f Ds Min φ d Mout) (hp : ∀ s, (Mout s).Perm (Mo s)) : Spec P f Ds Min φ d Mo := by
 intro I F w vs hv hi
 refine (h I F w vs hv hi).mono ?_
 rintro e w' ⟨u, rfl, s, h0, J, h1, h2, h3⟩
 exact ⟨u, rfl, s, h0, J, h1, h2, h3.perm ((hp s).append_right F)⟩
theorem rI_flat {v : Value} {T : Nat} {xs : List Int} : FlatR (rRow v T 1 (fun x => [dInt .i64 x]) xs) := rRow_flat fun x d hd => by
 rw [List.mem_singleton.1 hd]; infer_instance
theorem dBo_true : dB (true = true) = dB True := by simp
theorem dBo_false : dB (false = true) = dB False := by simp
theorem spec_freezeRows2 {Ds : List D} {T T' : Nat} {xs : List (List Int)} {d2 : D}
  (h : Spec P f Ds [] (fun s : Value × List (Value × List Int) => s.2.map (·.2) = xs) (fun s => dTup [dVal s.1, d2]) (fun s => rRow s.1 T 1 (fun u => [dSlV u]) (s.2.map (·.1)) :: fam T' 1 (fun x => [dInt .i64 x]) s.2)) : SpecP P f Ds (dTup [dRows xs, d2]) := by
 intro I M w vs hv hi
 refine (h I M w vs hv hi).mono ?_
 rintro e w' ⟨v, rfl, s, hs, J, h1, ⟨cs, rfl, h2⟩, h3⟩
 obtain ⟨J', h4, h5, h6⟩ := row_freeze h3
 obtain ⟨K, h7, h8, h9⟩ := rows_freeze s.2 h6
 refine ⟨_, rfl, K, (h1.trans h4).trans h7, ⟨cs, rfl, ?_⟩, h9⟩
 match hc : cs.toList, h2 with
 | [v, v2], ⟨e1, e2, _⟩ =>
  have hvs : v = s.1 := e1
  subst hvs
  refine ⟨?_, D.mono _ (h4.trans h7) e2, trivial⟩
  refine sl_up (by rw [← hs]; simp) (fun i x y hx hy => ⟨rfl, fun cs hr => ?_⟩) (D.mono _ h7 h5)
  rw [← hs] at hy
  rw [List.getElem?_map] at hx hy
  match hp : s.2[i]?, cs, hr with
  | some p, [u], hr =>
   rw [hp] at hx hy
   simp only [Option.map_some, Option.some.injEq] at hx hy
   subst hx; subst hy
   have := h8 p (List.mem_of_getElem? hp)
   rw [← show u = p.1 from hr.1.1] at this
   exact ⟨this, trivial⟩
  | none, _, _ => rw [hp] at hx; cases hx
end Go.Q

namespace Go.Q
open Go.Proofs
open Classical
theorem place_spec {m : Nat} {H : List (List Int)} (hH : HOk m H) (hm : 1 ≤ m) {fx : List Bool} (hfx : fx.length = m) : ∀ (n : Nat) (i : Int) (bk : List Int) (sn : List Bool) (vb vf vs : Value), (0 ≤ i ∧ i < (H.length : Int)) → PlOk m H.length n bk sn →
    Spec Try.prog 65 [dBox [dRows H, dSlV vb, dSlV vf], dInt .i64 i, dVal vs] [rRow vb 3 1 fI bk, rRow vf 4 1 fBo fx, rRow vs 4 1 fBo sn] (σ := Unit) (fun _ => True) (fun _ => dB ((placeF (hsF H) fx n i bk sn).1 = true)) (fun _ => [rRow vb 3 1 fI (placeF (hsF H) fx n i bk sn).2.1, rRow vf 4 1 fBo fx, rRow vs 4 1 fBo (placeF (hsF H) fx n i bk sn).2.2]) := by
  intro n
  induction n using Nat.strongRecOn with
  | _ n ih =>
  intro i bk sn vb vf vs hi hpl
  have hbl0 := hpl.bl
  have hsl0 := hpl.sl
  refine spec_of_body Try.func65 rfl rfl (fun I F => ?_)
  show Run _ _ _ _ _ _ (rRow vb 3 1 fI bk :: rRow vf 4 1 fBo fx :: rRow vs 4 1 fBo sn :: F) _
  refine run_rowForm .here (by omega) (fun b1 c1 e1 => ?_)
  refine run_rowForm (.there .here) (by omega) (fun b2 c2 e2 => ?_)
  refine run_rowForm (.there (.there .here)) (by omega) (fun b3 c3 e3 => ?_)
  subst e1 e2 e3
  refine au 4 ?_
  refine run_scope ?_
  refine au 1 ?_
  refine run_label ?_
  refine au 14 ?_
  refine run_loopF (σ := Nat × List Int × List Bool) (ks := [0, 1, 2, 16, 17]) (.cons rfl (.cons rfl (.cons rfl (.cons rfl (.cons rfl (.nil)))))) (fun s => [(18, dInt .i64 (s.1 : Nat))]) (fun s => [rRow (.slice (some ⟨b1, 0, none⟩) bk.length c1) 3 1 fI s.2.1, rRow (.slice (some ⟨b2, 0, none⟩) fx.length c2) 4 1 fBo fx, rRow (.slice (some ⟨b3, 0, none⟩) sn.length c3) 4 1 fBo s.2.2]) (fun s => s.1 ≤ (H[i.toNat]?.getD default).length ∧ PlOk m H.length n s.2.1 s.2.2 ∧ placeF (hsF H) fx n i bk sn = placeL (placeF (hsF H) fx (n - 1)) fx i ((hsF H i).drop s.1) s.2.1 s.2.2) (fun s => (H[i.toNat]?.getD default).length - s.1) ((0, bk, sn)) (⟨Nat.zero_le _, hpl, placeF_eq (hsF_bd hH) hpl.sl hpl.un⟩) (.cons rfl (by first | exact fun _ _ h => h | exact d_int (by omega) | exact d_int (by simp) | exact d_intN (by omega) | exact d_any) .nil) (rfl) ?_
  rintro s ⟨hk, hok, he⟩ ih1
  have hbl := hok.bl
  have hsl := hok.sl
  have h4 := (hH.at (i := i.toNat) (by omega)).1
  refine au 5 ?_
  refine run_cond rfl (fun h2 => ?_) (fun h2 => ?_)
  ·
   have hbd := hH.home (i := i.toNat) (k := s.1) (by omega) (by omega)
   have hN := homes_next (H := H) (i := i) (k := s.1) (by omega)
   have hq := hok.at (b := ((H[i.toNat]?.getD default)[s.1]?.getD default).toNat) (by omega)
   refine au 21 ?_
   refine run_gop rfl rfl gdI.ok (fun hg => LocP.upV (loc_load1 rfl)) rfl ?_
   refine au 7 ?_
   refine run_cond rfl (fun h3 => ?_) (fun h3 => ?_)
   ·
    have hg := h3
    refine au 5 ?_
    exact run_againF ih1 ((s.1 + 1, s.2)) (⟨by simp only; omega, hok, by rw [he, hN, placeL, if_pos hg]⟩) (by simp only; omega) (.cons rfl (by first | exact fun _ _ h => h | exact d_int (by omega) | exact d_int (by simp) | exact d_intN (by omega) | exact d_any) .nil) (.cons rfl (fun _ _ x => x) (.cons rfl (fun _ _ x => x) (.cons rfl (fun _ _ x => x) (.cons rfl (fun _ _ x => x) (.cons rfl (fun _ _ x => x) (.nil)))))) (rfl)
   ·
    have hg := h3
    refine au 5 ?_
    refine run_op (LocP.upV (loc_load1 rfl)) rfl ?_
    refine au 6 ?_
    refine run_cond rfl (fun h4 => ?_) (fun h4 => ?_)
    ·
     have hz := h4
     have hE : placeF (hsF H) fx n i bk sn = (true, s.2.1.set ((H[i.toNat]?.getD default)[s.1]?.getD default).toNat i, s.2.2) := by rw [he, hN, placeL, if_neg hg, if_pos hz]
     refine au 5 ?_
     refine run_op (LocP.upV (loc_load1 rfl)) rfl ?_
     refine au 3 ?_
     refine run_storeRow1 rfl (.here) rfl (by rfl) (by first | omega | assumption) ?_
     refine au 5 ?_
     refine run_ret (()) Try.func65 rfl rfl ?_ (trivial) (fun _ _ h => by rw [hE]; exact h)
     exact d_B (by rw [hE]; simp)
    ·
     have hz := h4
     obtain ⟨hok1, hn0⟩ := hok.seen (b := ((H[i.toNat]?.getD default)[s.1]?.getD default).toNat) (by omega) (fun e => hg (.inl e))
     refine au 7 ?_
     refine run_storeRow1 (e0 := true) rfl (.there (.there .here)) rfl dBo_true (by first | omega | assumption) ?_
     refine au 6 ?_
     refine run_op (LocP.upV (loc_load1 rfl)) rfl ?_
     refine au 10 ?_
     refine run_op3 rfl (loc_callM (ih (n - 1) (by omega) (s.2.1[((H[i.toNat]?.getD default)[s.1]?.getD default).toNat]?.getD default) s.2.1 (s.2.2.set ((H[i.toNat]?.getD default)[s.1]?.getD default).toNat true) (.slice (some ⟨b1, 0, none⟩) bk.length c1) (.slice (some ⟨b2, 0, none⟩) fx.length c2) (.slice (some ⟨b3, 0, none⟩) sn.length c3) ⟨by omega, hq⟩ hok1) rfl) (fun _ _ => ?_)
     refine au 1 ?_
     have hk2 := placeF_plok (hsF_bd hH) (fx := fx) (n - 1) _ _ _ hq hok1
     have hk2l := hk2.bl
     refine run_cond rfl (fun h5 => ?_) (fun h5 => ?_)
     ·
      have hr := h5
      refine au 5 ?_
      refine run_op (LocP.upV (loc_load1 rfl)) rfl ?_
      refine au 3 ?_
      refine run_storeRow1 rfl (.here) rfl (by rfl) (by first | omega | assumption) ?_
      refine au 5 ?_
      have hE : placeF (hsF H) fx n i bk sn = (true, ((placeF (hsF H) fx (n - 1)) (s.2.1[((H[i.toNat]?.getD default)[s.1]?.getD default).toNat]?.getD default) s.2.1 (s.2.2.set ((H[i.toNat]?.getD default)[s.1]?.getD default).toNat true)).2.1.set ((H[i.toNat]?.getD default)[s.1]?.getD default).toNat i, ((placeF (hsF H) fx (n - 1)) (s.2.1[((H[i.toNat]?.getD default)[s.1]?.getD default).toNat]?.getD default) s.2.1 (s.2.2.set ((H[i.toNat]?.getD default)[s.1]?.getD default).toNat true)).2.2) := by rw [he, hN, placeL, if_neg hg, if_neg hz]; dsimp only; rw [if_pos hr]
      refine run_ret (()) Try.func65 rfl rfl ?_ (trivial) (fun _ _ h => by rw [hE]; exact h)
      exact d_B (by rw [hE]; simp)
     ·
      have hr := h5
      refine au 6 ?_
      exact run_againF ih1 ((s.1 + 1, ((placeF (hsF H) fx (n - 1)) (s.2.1[((H[i.toNat]?.getD default)[s.1]?.getD default).toNat]?.getD default) s.2.1 (s.2.2.set ((H[i.toNat]?.getD default)[s.1]?.getD default).toNat true)).2)) (⟨by simp only; omega, hk2.more (by omega), by rw [he, hN, placeL, if_neg hg, if_neg hz]; dsimp only; rw [if_neg hr]⟩) (by simp only; omega) (.cons rfl (by first | exact fun _ _ h => h | exact d_int (by omega) | exact d_int (by simp) | exact d_intN (by omega) | exact d_any) .nil) (.cons rfl (fun _ _ x => x) (.cons rfl (fun _ _ x => x) (.cons rfl (fun _ _ x => x) (.cons rfl (fun _ _ x => x) (.cons rfl (fun _ _ x => x) (.nil)))))) (rfl)
  ·
   have hN := homes_end (H := H) (i := i) (k := s.1) (by omega)
   refine au 5 ?_
   refine run_ret (()) Try.func65 rfl rfl ?_ (trivial) (fun _ _ h => by rw [he, hN]; exact h)
   exact d_B (by rw [he, hN]; simp [placeL])
end Go.Q
