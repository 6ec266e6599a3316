/- Contracts of draws. -/
import Derived.Test.YtmofkofgpeibiaaGreatQRes
set_option linter.unusedVariables false
set_option linter.unusedSimpArgs false
namespace Go.Q
open Go.Proofs
open Classical
theorem take_snoc2 {xs : List Int} {k : Nat} (h : k < xs.length) : xs.take (k + 1) = xs.take k ++ [xs[k]?.getD default] := by
 rw [List.take_add_one, List.getElem?_eq_getElem h]; rfl
theorem tvalid_spec (t : Tape) : SpecP Tryz.prog 102 [dTape t] (dB (okTape t)) := by
 refine specP_of_body Tryz.func102 rfl rfl (fun I M => ?_)
 refine au 9 ?_
 first | refine runL_fact (s := 4) rfl (fun _ _ h => dSl_len h) (fun hlen1 => ?_) | skip
 refine au 19 ?_
 refine run_retP Tryz.func102 rfl rfl ?_
 exact d_B (by unfold okTape; constructor <;> (intro h; omega))
theorem tlimit_spec (n : Int) : SpecP Tryz.prog 103 [dInt .i64 n] (dB (1 ≤ n ∧ n ≤ 2147483647)) := by
 refine specP_of_body Tryz.func103 rfl rfl (fun I M => ?_)
 refine au 15 ?_
 refine run_retP Tryz.func103 rfl rfl ?_
 exact fun _ _ h => h
theorem next_spec (b : Nat) (xs : List Int) (k : Nat) (n : Int) (d3 : D) (hk : k ≤ xs.length) (hx : xs.length ≤ 16384) : Spec Tryz.prog 108 [dVal (ptr b 0), dInt .i64 n] [rCells b 169 [dInts xs, dInt .i64 (k : Nat), d3]] (σ := Unit) (fun _ => True) (fun _ => dTup [dInt .i64 (if k < xs.length ∧ hasP n (xs[k]?.getD default) then xs[k]?.getD default else 0), dInt .i64 (if k < xs.length then if hasP n (xs[k]?.getD default) then 0 else 8 else 3)]) (fun _ => [rCells b 169 [dInts xs, dInt .i64 (if k < xs.length ∧ hasP n (xs[k]?.getD default) then ((k + 1 : Nat) : Int) else (k : Nat)), d3]]) := by
  refine spec_of_body Tryz.func108 rfl rfl (fun I F => ?_)
  refine au 7 ?_
  refine dr_start _ (.none) [⟨[(0, none)], [], none⟩,
      ⟨[(7, some (0, false))], [0], none⟩,
      ⟨[(8, some (1, false))], [0, 1], none⟩,
      ⟨[(9, some (2, false))], [0, 1, 2], some (0, 0, false)⟩,
      ⟨[(0, none)], [], none⟩,
      ⟨[(11, some (4, false))], [4], none⟩,
      ⟨[(12, some (5, false))], [4, 5], none⟩,
      ⟨[(13, some (6, false))], [4, 5, 6], some (0, 0, false)⟩,
      ⟨[(14, some (7, false))], [4, 5, 6, 7], none⟩,
      ⟨[(10, some (3, false)), (15, some (8, false))], [0, 1, 2, 3, 4, 5, 6, 7, 8], none⟩] [_] _ rfl rfl ?_
  refine da 10 ?_
  refine dq_end (rs := [_]) () rfl (fun _ => rfl) (.nil) rfl (fun _ => rfl) (fun _ _ => ?_)
  dsimp only [outG, outM, List.map, List.set, id]
  refine run_cond rfl (fun h1 => ?_) (fun h1 => ?_)
  ·
   refine au 5 ?_
   refine run_ret2 (()) Tryz.func108 rfl rfl rfl ?_ (trivial) (fun _ _ h => by rw [if_neg (by omega)]; exact h)
   exact d_tup2 (d_int (by rw [if_neg (by omega)])) (d_int (by rw [if_neg (by omega)]))
  ·
   refine au 2 ?_
   refine dr_start _ (.none) [⟨[(0, none)], [], none⟩,
       ⟨[(17, some (0, false))], [0], none⟩,
       ⟨[(18, some (1, false))], [0, 1], none⟩,
       ⟨[(19, some (2, false))], [0, 1, 2], some (0, 0, false)⟩,
       ⟨[(0, none)], [], none⟩,
       ⟨[(21, some (4, false))], [4], none⟩,
       ⟨[(22, some (5, false))], [4, 5], none⟩,
       ⟨[(23, some (6, false))], [4, 5, 6], some (0, 0, false)⟩,
       ⟨[(20, some (3, false)), (24, some (7, false))], [0, 1, 2, 3, 4, 5, 6, 7], none⟩,
       ⟨[(25, some (8, false))], [0, 1, 2, 3, 4, 5, 6, 7, 8], none⟩,
       ⟨[(26, some (9, false))], [0, 1, 2, 3, 4, 5, 6, 7, 8, 9], none⟩] [_] _ rfl rfl ?_
   refine da 11 ?_
   refine dq_end (rs := [_]) () rfl (fun _ => rfl) (.nil) rfl (fun _ => rfl) (fun _ _ => ?_)
   dsimp only [outG, outM, List.map, List.set, id]
   refine au 12 ?_
   refine run_cond rfl (fun h2 => ?_) (fun h2 => ?_)
   ·
    refine au 5 ?_
    refine run_ret2 (()) Tryz.func108 rfl rfl rfl ?_ (trivial) (fun _ _ h => by rw [if_neg (by unfold hasP; omega)]; exact h)
    exact d_tup2 (d_int (by rw [if_neg (by unfold hasP; omega)])) (d_int (by rw [if_pos (by omega), if_neg (by unfold hasP; omega)]))
   ·
    refine au 18 ?_
    have hgo : k < xs.length ∧ hasP n (xs[k]?.getD default) := ⟨by omega, by unfold hasP; omega⟩
    refine run_ret2 (()) Tryz.func108 rfl rfl rfl ?_ (trivial) (fun _ _ h => by rw [if_pos hgo]; exact h)
    exact d_tup2 (d_int (by rw [if_pos hgo])) (d_int (by rw [if_pos (by omega), if_pos hgo.2]))
theorem draw_spec (b : Nat) (xs : List Int) (k0 : Nat) (n c : Int) (hk : k0 ≤ xs.length) (hx : xs.length ≤ 16384) (hn : 1 ≤ n ∧ n ≤ 2147483647) (hc : 0 ≤ c) : Spec Tryz.prog 104 [dVal (ptr b 0), dInt .i64 n, dInt .i64 c] [rCells b 169 [dInts xs, dInt .i64 (k0 : Nat), dVal (.slice none 0 0)]] (σ := Nat) (fun m => stepE n (xs.drop k0) c.toNat = 0 → m = c.toNat) (fun _ => dInt .i64 (stepE n (xs.drop k0) c.toNat)) (fun m => [rCells b 169 [dInts xs, dInt .i64 ((k0 + m : Nat) : Int), dInts ((xs.drop k0).take m)]]) := by
  refine spec_of_body Tryz.func104 rfl rfl (fun I F => ?_)
  refine au 10 ?_
  refine run_rowNil 3 1 fI ?_
  refine run_cellsUp (kk := 2) (b := b) (dVal (.slice none 0 0)) (dSlV (.slice none 0 0)) (.there (.here)) rfl (fun J u h => ⟨h, _, _, _, h⟩) ?_
  refine run_front (.here) ?_
  refine run_front (.there (.here)) ?_
  refine run_loopF (σ := Value × Nat) (ks := [0, 1, 2]) (.cons rfl (.cons rfl (.cons rfl (.nil)))) (fun s => [(7, dInt .i64 (s.2 : Nat))]) (fun s => [rCells b 169 [dInts xs, dInt .i64 ((k0 + s.2 : Nat) : Int), dSlV s.1], rRow s.1 3 1 fI ((xs.drop k0).take s.2)]) (fun s => s.2 ≤ c.toNat ∧ k0 + s.2 ≤ xs.length ∧ ∀ j, j < s.2 → hasP n (xs[k0 + j]?.getD default)) (fun s => c.toNat - s.2) ((.slice none 0 0, 0)) (⟨Nat.zero_le _, hk, fun j hj => by simp only at hj; omega⟩) (.cons rfl (by first | exact fun _ _ h => h | exact d_int (by omega) | exact d_int (by simp) | exact d_intN (by omega) | exact d_any) .nil) (rfl) ?_
  rintro s ⟨hA, hB, hC⟩ ih1
  have htl : ((xs.drop k0).take s.2).length = s.2 := by rw [List.length_take, List.length_drop]; omega
  have hg : ∀ j, (xs.drop k0)[j]? = xs[k0 + j]? := fun j => List.getElem?_drop
  refine au 7 ?_
  refine run_cond rfl (fun h2 => ?_) (fun h2 => ?_)
  ·
   have hc1 := h2
   refine au 9 ?_
   refine run_callM rfl (.here) (next_spec _ _ (k0 + s.2) _ _ (by omega) hx) rfl (fun s3 hs3 => ?_)
   refine au 12 ?_
   refine run_cond rfl (fun h4 => ?_) (fun h4 => ?_)
   ·
    have hg1 := h4
    refine au 5 ?_
    have hE : (if k0 + s.2 < xs.length then if hasP n (xs[k0 + s.2]?.getD default) then (0 : Int) else 8 else 3) = stepE n (xs.drop k0) c.toNat := by
      by_cases h1 : k0 + s.2 < xs.length
      · rw [if_pos h1] at hg1 ⊢
        by_cases h2 : hasP n (xs[k0 + s.2]?.getD default)
        · rw [if_pos h2] at hg1; omega
        · rw [if_neg h2, stepE_bad (i := s.2) (by rw [List.length_drop]; omega) (by omega) (fun j hj => by rw [hg]; exact hC j hj) (by rw [hg]; exact h2)]
      · rw [if_neg h1, stepE_short (fun x hx => by obtain ⟨j, hj⟩ := List.getElem?_of_mem hx; have h5 := (List.getElem?_eq_some_iff.1 hj).1; rw [List.length_drop] at h5; have := hC j (by omega); rw [← hg, hj] at this; exact this) (by rw [List.length_drop]; omega)]
    have hne : (if k0 + s.2 < xs.length ∧ hasP n (xs[k0 + s.2]?.getD default) then ((k0 + s.2 + 1 : Nat) : Int) else ((k0 + s.2 : Nat) : Int)) = ((k0 + s.2 : Nat) : Int) := if_neg (fun h => hg1 (by rw [if_pos h.1, if_pos h.2]))
    rw [hne]
    first | refine run_freezeRowCellV (kk := 2) (.there (.here)) (.here) rfl ?_ | refine run_freezeRowCell (kk := 2) (.there (.here)) (.here) rfl ?_
    refine run_ret (s.2) Tryz.func104 rfl rfl ?_ (fun h0 => by rw [hE] at hg1; exact absurd h0 hg1) (fun _ _ h => h)
    exact d_int (by rw [hE])
   ·
    have hg1 : k0 + s.2 < xs.length ∧ hasP n (xs[k0 + s.2]?.getD default) := by by_cases h1 : k0 + s.2 < xs.length; (· rw [if_pos h1] at h4; by_cases h2 : hasP n (xs[k0 + s.2]?.getD default); (· exact ⟨h1, h2⟩); (· rw [if_neg h2] at h4; omega)); (· rw [if_neg h1] at h4; omega)
    refine au 6 ?_
    first | refine run_op (LocP.upV (loc_loadOwn1 rfl (.here) (by rfl))) rfl ?_ | refine run_op (loc_loadOwn1 rfl (.here) (by rfl)) rfl ?_
    refine au 1 ?_
    refine run_op (loc_buildSlice rfl rfl (.one rfl (.nil)) rfl rfl) rfl ?_
    refine run_append1 rfl (.there (.here)) rfl (by rfl) (by rfl) (by first | omega | (simp [lenMax]; omega) | (simp [lenMax]; done) | assumption) (by first | omega | (simp [lenMax]; omega) | (simp [lenMax]; done) | assumption) rfl (fun v5 => ?_)
    refine runL_rowV (s := 33) rfl (.there (.here)) ?_
    refine au 10 ?_
    rw [if_pos hg1]
    exact run_againF ih1 ((v5, s.2 + 1)) (⟨by simp only; omega, by simp only; omega, fun j hj => by simp only at hj; by_cases e : j = s.2; (· subst e; exact hg1.2); (· exact hC j (by omega))⟩) (by simp only; omega) (.cons rfl (by first | exact fun _ _ h => h | exact d_int (by omega) | exact d_int (by simp) | exact d_intN (by omega) | exact d_any) .nil) (.cons rfl (fun _ _ x => x) (.cons rfl (fun _ _ x => x) (.cons rfl (fun _ _ x => x) (.nil)))) (by simp only [appR]; rw [if_pos hg1, take_snoc2 (xs := xs.drop k0) (by rw [List.length_drop]; omega), hg]; rfl)
  ·
   refine au 5 ?_
   have hE : stepE n (xs.drop k0) c.toNat = 0 := by rw [show c.toNat = s.2 by omega]; exact stepE_ok (by rw [List.length_drop]; omega) (fun j hj => by rw [hg]; exact hC j hj)
   first | refine run_freezeRowCellV (kk := 2) (.there (.here)) (.here) rfl ?_ | refine run_freezeRowCell (kk := 2) (.there (.here)) (.here) rfl ?_
   refine run_ret (s.2) Tryz.func104 rfl rfl ?_ (fun _ => by omega) (fun _ _ h => h)
   exact d_int (by rw [hE])
theorem draws_spec (t : Tape) (n c : Int) : SpecP Tryz.prog 97 [dTape t, dInt .i64 n, dInt .i64 c] (dTup [dTape (drawT t n c), dInts (drawL t n c), dInt .i64 (drawE t n c)]) := by
  refine specP_of_body Tryz.func97 rfl rfl (fun I M => ?_)
  refine au 3 ?_
  refine run_new (loc_allocOwn (by simp)) rfl (fun b1 _ => ?_)
  refine au 7 ?_
  refine run_op (loc_call (tvalid_spec _) rfl) rfl ?_
  refine au 2 ?_
  refine run_cond rfl (fun h2 => ?_) (fun h2 => ?_)
  ·
   have c1 := h2
   refine au 7 ?_
   have hE : drawE t n c = 2 := by unfold drawE; rw [if_pos c1]
   refine run_retGP Tryz.func97 rfl (.cellN rfl (.here) (by rfl) (.tmp rfl (.tmp rfl (.nil)))) ?_ (fun _ _ h => inv_tail (h))
   exact d_tup3 (d_toTape (by unfold drawT; rw [if_neg (by rw [hE]; omega)]) (d_aggU (.cons d_nil (.cons (d_int rfl) .nil)))) (d_toInts (by unfold drawL; rw [if_neg (by rw [hE]; omega)]) d_nil) (d_int hE.symm)
  ·
   have c1 : okTape t := Classical.not_not.1 h2
   refine au 5 ?_
   refine run_op (loc_call (tlimit_spec _) rfl) rfl ?_
   refine au 7 ?_
   refine run_cond rfl (fun h3 => ?_) (fun h3 => ?_)
   ·
    have c2 := h3
    refine au 7 ?_
    have hE : drawE t n c = 1 := by unfold drawE; rw [if_neg (Classical.not_not.2 c1), if_pos c2]
    refine run_retGP Tryz.func97 rfl (.cellN rfl (.here) (by rfl) (.tmp rfl (.tmp rfl (.nil)))) ?_ (fun _ _ h => inv_tail (h))
    exact d_tup3 (d_toTape (by unfold drawT; rw [if_neg (by rw [hE]; omega)]) (d_aggU (.cons d_nil (.cons (d_int rfl) .nil)))) (d_toInts (by unfold drawL; rw [if_neg (by rw [hE]; omega)]) d_nil) (d_int hE.symm)
   ·
    have c2 : ¬ (¬ (1 ≤ n ∧ n ≤ 2147483647) ∨ c < 0) := h3
    refine au 2 ?_
    have hok := c1
    unfold okTape at hok
    refine au 7 ?_
    refine run_new (loc_boxOwnN rfl) rfl (fun b29 _ => ?_)
    refine au 2 ?_
    have hE : drawE t n c = stepE n (t.numbers.drop t.at'.toNat) c.toNat := by unfold drawE; rw [if_neg (Classical.not_not.2 c1), if_neg c2]
    refine run_cellsUp (kk := 1) (b := b29) (dInt .i64 t.at') (dInt .i64 (t.at'.toNat : Nat)) (.here) rfl (d_int (by omega)) ?_
    refine au 6 ?_
    refine run_callM rfl (.here) (draw_spec _ _ t.at'.toNat _ _ (by omega) (by omega) ⟨by omega, by omega⟩ (by omega)) rfl (fun m hm => ?_)
    refine au 2 ?_
    have m1 := hm
    refine au 5 ?_
    refine run_cond rfl (fun h4 => ?_) (fun h4 => ?_)
    ·
     have c3 := h4
     refine au 8 ?_
     refine run_retGP Tryz.func97 rfl (.cellN rfl (.there (.here)) (by rfl) (.tmp rfl (.tmp rfl (.nil)))) ?_ (fun _ _ h => inv_tail (inv_tail (h)))
     exact d_tup3 (d_toTape (by unfold drawT; rw [if_neg (by rw [hE]; exact c3)]) (d_aggU (.cons d_nil (.cons (d_int rfl) .nil)))) (d_toInts (by unfold drawL; rw [if_neg (by rw [hE]; exact c3)]) d_nil) (d_int hE.symm)
    ·
     have c3 := Classical.not_not.1 h4
     refine au 2 ?_
     refine dr_start _ (.none) [⟨[(3, none)], [], none⟩,
         ⟨[(38, some (0, false))], [0], none⟩,
         ⟨[(39, some (1, false))], [0, 1], none⟩,
         ⟨[(9, none)], [], none⟩,
         ⟨[(41, some (3, false))], [3], none⟩,
         ⟨[(42, some (4, false))], [3, 4], none⟩,
         ⟨[(43, some (5, false))], [3, 4, 5], none⟩,
         ⟨[(44, some (6, false))], [3, 4, 5, 6], some (0, 0, false)⟩,
         ⟨[(40, some (2, false)), (45, some (7, false))], [0, 1, 2, 3, 4, 5, 6, 7], none⟩,
         ⟨[(9, none)], [], none⟩,
         ⟨[(47, some (9, false))], [9], none⟩,
         ⟨[(48, some (10, false))], [9, 10], none⟩,
         ⟨[(49, some (11, false))], [9, 10, 11], some (0, 0, false)⟩,
         ⟨[(6, none), (46, some (8, false))], [0, 1, 2, 3, 4, 5, 6, 7, 8], some (1, 0, true)⟩,
         ⟨[(50, some (12, false))], [0, 1, 2, 3, 4, 5, 6, 7, 8, 9, 10, 11, 12, 13], none⟩,
         ⟨[], [0, 1, 2, 3, 4, 5, 6, 7, 8, 9, 10, 11, 12, 13, 14], none⟩] [_, _] _ rfl rfl ?_
     refine da 2 ?_
     refine dq_pure rfl (fun s => .op rfl (.nil)) (fun s hs _ => loc_call (cloneI_spec _ (by omega)) rfl) (by exact .nil) ?_
     refine da 10 ?_
     refine dq_write0 rfl (fun s => .g rfl (.op rfl (.nil))) rfl rfl (fun s hs => loc_storeN (ho := (by show OneAll [_, _]; infer_instance)) rfl rfl rfl) (by exact .nil) ?_
     refine da 2 ?_
     refine dq_end (rs := [_, _]) () rfl (fun _ => rfl) (.nil) rfl (fun _ => rfl) (fun _ _ => ?_)
     dsimp only [outG, outM, List.map, List.set, id]
     refine run_retGP Tryz.func97 rfl (.cellN rfl (.there (.here)) (by rfl) (.tmp rfl (.tmp rfl (.nil)))) ?_ (fun _ _ h => inv_tail (inv_tail (h)))
     exact d_tup3 (d_toTape (t' := ⟨t.numbers, t.at' + c⟩) (by unfold drawT; rw [if_pos (hE.trans c3)]) (d_aggU (.cons (fun _ _ h => h) (.cons (d_int (by have := m1 c3; simp only; omega)) .nil)))) (d_eq (by unfold drawL; rw [if_pos (hE.trans c3), m1 c3])) (d_int (c3.symm.trans hE.symm))
end Go.Q

namespace Go.Q
open Classical
abbrev cSh (q : Int × Int) : List D := [dInt .i64 q.1, dInt .i64 q.2]
def sharesL (p : Int) (cs pts : List Int) : List (Int × Int) := pts.map fun x => (x, valP p cs x)
def ptsL (k : Nat) : List Int := (List.range k).map fun x : Nat => (x : Int) + 1
theorem ptsL_len (k : Nat) : (ptsL k).length = k := by simp [ptsL]
theorem ptsL_snoc (k : Nat) : ptsL (k + 1) = ptsL k ++ [(k : Int) + 1] := by simp [ptsL, List.range_succ]
theorem ptsL_mem {k : Nat} {x : Int} (h : x ∈ ptsL k) : 1 ≤ x ∧ x ≤ k := by
 obtain ⟨j, hj, rfl⟩ := List.mem_map.1 h
 have := List.mem_range.1 hj
 omega
theorem ofP_pos {p : Int} (h : okP p) : ofP p = p := if_pos h
theorem ofP_and {p x : Int} (h : ¬ (¬ okP p ∨ ¬ hasP (ofP p) x)) : okP p ∧ hasP p x := by
 by_cases hp : okP p
 ·rw [ofP_pos hp] at h; exact ⟨hp, Classical.not_not.1 fun hx => h (.inr hx)⟩
 ·exact absurd (.inl hp) h
theorem ofP_or {p x : Int} (h : ¬ okP p ∨ ¬ hasP (ofP p) x) : ¬ okP p ∨ ¬ hasP p x := by
 by_cases hp : okP p
 ·rw [ofP_pos hp] at h; exact h
 ·exact .inl hp
theorem ofP_nor {p x : Int} (h : ¬ (¬ okP p ∨ ¬ hasP (ofP p) x)) : ¬ (¬ okP p ∨ ¬ hasP p x) := by
 have := ofP_and h
 rintro (h1 | h1)
 ·exact h1 this.1
 ·exact h1 this.2
noncomputable def splitE (p secret most count : Int) (t : Tape) : Int := if ¬ okP p ∨ ¬ hasP p secret then 9 else if ¬ (0 ≤ most ∧ most ≤ 9) ∨ count < 1 ∨ count ≥ p ∨ count > 512 then 1 else drawE t p most
noncomputable def splitL (p secret most count : Int) (t : Tape) : List (Int × Int) := if splitE p secret most count t = 0 then sharesL p ([secret] ++ drawL t p most) (ptsL count.toNat) else []
noncomputable def splitT (p secret most count : Int) (t : Tape) : Tape := if splitE p secret most count t = 0 then drawT t p most else ⟨[], 0⟩
theorem d_toShares {d : D} {t t' : List (Int × Int)} (e : t = t') (h : ∀ I v, d.rel I v → (dSl 2 cSh t').rel I v) : ∀ I v, d.rel I v → (dSl 2 cSh t).rel I v := e ▸ h

noncomputable def planE (p s d : Int) : Int := if ¬ okP p then 9 else if ¬ ((2 ≤ s ∧ s ≤ 10) ∧ 1 ≤ d ∧ d < s) ∨ s ≥ p then 1 else 0
noncomputable def planRE (p s d rows : Int) : Int := if planE p s d = 0 ∧ (rows < 1 ∨ rows > 1024) then 1 else planE p s d
theorem planRE_zero {p s d rows : Int} (h : planRE p s d rows = 0) : okP p ∧ (2 ≤ s ∧ s ≤ 10) ∧ (1 ≤ d ∧ d < s) ∧ s < p ∧ (1 ≤ rows ∧ rows ≤ 1024) := by
 unfold planRE at h
 split at h
 ·cases h
 ·rename_i h1
  have h2 := h
  unfold planE at h
  split at h
  ·cases h
  ·split at h
   ·cases h
   ·rename_i h3 h4
    have h5 : ¬ (rows < 1 ∨ rows > 1024) := fun hr => h1 ⟨h2, hr⟩
    exact ⟨Classical.not_not.1 h3, by omega, by omega, by omega, by omega⟩
theorem planRE_ok {p s d rows : Int} (hp : okP p) (h1 : 2 ≤ s ∧ s ≤ 10) (h2 : 1 ≤ d ∧ d < s) (h3 : s < p) (h4 : 1 ≤ rows ∧ rows ≤ 1024) : planRE p s d rows = 0 := by
 have e : planE p s d = 0 := by unfold planE; rw [if_neg (Classical.not_not.2 hp), if_neg (by omega)]
 unfold planRE
 rw [if_neg (by omega), e]
noncomputable def limsC (p s d rows : Int) : List Int := if planRE p s d rows = 0 then List.replicate (rows * d).toNat p else []
theorem rep_snoc {α : Type} (n : Nat) (x : α) : List.replicate (n + 1) x = List.replicate n x ++ [x] := List.replicate_succ'
noncomputable def cV (p d index : Int) (dr : List Int) (k r : Nat) : Int := valP p ([if (r : Int) = index then 1 else 0] ++ ((dr.take (((r : Int) + 1) * d).toNat).drop ((r : Int) * d).toNat)) ((k : Int) + 1)
noncomputable def cqE (p s d rows index : Int) (t : Tape) : Int := if planRE p s d rows ≠ 0 then planRE p s d rows else if index < 0 ∨ index ≥ rows then 6 else drawE t p (rows * d)
noncomputable def cqQ (p s d rows index : Int) (dr : List Int) : List (List Int) := (List.range s.toNat).map fun k => (List.range rows.toNat).map fun r => cV p d index dr k r
noncomputable def cqL (p s d rows index : Int) (t : Tape) : List (List Int) := if cqE p s d rows index t = 0 then cqQ p s d rows index (drawL t p (rows * d)) else []
noncomputable def cqT (p s d rows index : Int) (t : Tape) : Tape := if cqE p s d rows index t = 0 then drawT t p (rows * d) else ⟨[], 0⟩
noncomputable def cqP (p d index : Int) (dr : List Int) (s : Nat) (k i : Nat) : List (List Int) := (List.range s).map fun j => (List.range (if j < k then i + 1 else i)).map fun r => cV p d index dr j r
theorem cqP_0 (p d index : Int) (dr : List Int) (s : Nat) : cqP p d index dr s 0 0 = List.replicate s [] := by
 unfold cqP
 apply List.ext_getElem (by simp)
 intro i h1 h2
 simp
theorem cqP_next (p d index : Int) (dr : List Int) (s i : Nat) : cqP p d index dr s s i = cqP p d index dr s 0 (i + 1) := by
 unfold cqP
 apply List.ext_getElem (by simp)
 intro j h1 h2
 have : j < s := by simpa using h1
 simp [this]
theorem cqP_get {p d index : Int} {dr : List Int} {s k i : Nat} (h : k < s) : (cqP p d index dr s k i)[k]?.getD default = (List.range i).map fun r => cV p d index dr k r := by
 unfold cqP
 simp [h]
theorem cqP_set {p d index : Int} {dr : List Int} {s k i : Nat} (h : k < s) : (cqP p d index dr s k i).set k ((List.range i).map (fun r => cV p d index dr k r) ++ [cV p d index dr k i]) = cqP p d index dr s (k + 1) i := by
 unfold cqP
 apply List.ext_getElem (by simp)
 intro j h1 h2
 rw [List.getElem_set]
 split
 ·rename_i e; subst e; simp [List.range_succ]
 ·rename_i e
  have : (j < k + 1) ↔ (j < k) := by omega
  simp [this]
theorem cqP_end (p d index rows : Int) (dr : List Int) (s : Int) : cqP p d index dr s.toNat 0 rows.toNat = cqQ p s d rows index dr := by
 unfold cqP cqQ
 simp
theorem split_ok {p sec most count : Int} {l : List Int} (hp : okP p) (hs : hasP p sec) (hm : 0 ≤ most ∧ most ≤ 9) (hc : 1 ≤ count ∧ count < p ∧ count ≤ 512) (hl : l.length = most.toNat) (ha : ∀ x ∈ l, hasP p x) :
  splitE p sec most count ⟨l, 0⟩ = 0 ∧ splitL p sec most count ⟨l, 0⟩ = sharesL p ([sec] ++ l) (ptsL count.toNat) := by
 have hb := hp.1
 have hb2 := hp.2.1
 have e0 : drawE ⟨l, 0⟩ p most = 0 := by
  unfold drawE
  rw [if_neg (Classical.not_not.2 ⟨by simp only; omega, by simp, by simp⟩), if_neg (by omega)]
  refine stepE_ok (by simp; omega) (fun j hj => ?_)
  simp only [Int.toNat_zero, List.drop_zero]
  exact ha _ (getD_mem (by omega))
 have e : splitE p sec most count ⟨l, 0⟩ = 0 := by
  unfold splitE
  rw [if_neg (fun h => h.elim (fun h => h hp) (fun h => h hs)), if_neg (by omega), e0]
 refine ⟨e, ?_⟩
 unfold splitL
 rw [if_pos e]
 congr 2
 unfold drawL
 rw [if_pos e0]
 simp only [Int.toNat_zero, List.drop_zero]
 exact List.take_of_length_le (by omega)
theorem shares_get {p : Int} {cs : List Int} {n k : Nat} (h : k < n) : (sharesL p cs (ptsL n))[k]?.getD default = ((k : Int) + 1, valP p cs ((k : Int) + 1)) := by
 unfold sharesL ptsL
 simp [h]
theorem shares_len (p : Int) (cs : List Int) (n : Nat) : (sharesL p cs (ptsL n)).length = n := by simp [sharesL, ptsL]
theorem sl_all {p : Int} {l : List Int} {i j : Nat} (h : ∀ x ∈ l, hasP p x) : ∀ x ∈ (l.take j).drop i, hasP p x := fun x hx => h x (List.mem_of_mem_take (List.mem_of_mem_drop hx))
end Go.Q

namespace Go.Q
open Go.Proofs
open Classical
theorem thr_spec (n : Int) : SpecP Tryz.prog 118 [dInt .i64 n] (dB (0 ≤ n ∧ n ≤ 9)) := by
 refine specP_of_body Tryz.func118 rfl rfl (fun I M => ?_)
 refine au 15 ?_
 refine run_retP Tryz.func118 rfl rfl ?_
 exact fun _ _ h => h
theorem sharesM_spec (p : Int) (cs pts : List Int) (h : 2 ≤ p ∧ p ≤ 65521) (hc : ∀ c ∈ cs, hasP p c) (hp : ∀ x ∈ pts, 0 ≤ x ∧ x ≤ 65521) (hl : pts.length ≤ 1000) : Spec Tryz.prog 119 [dInt .i64 p, dInts cs, dInts pts] [] (σ := Value) (fun _ => True) (fun v => dVal v) (fun v => [rRow v 60 2 cSh (sharesL p cs pts)]) := by
  refine spec_of_body Tryz.func119 rfl rfl (fun I F => ?_)
  refine au 12 ?_
  first | refine runL_fact (s := 10) rfl (fun _ _ h => dSl_len h) (fun hlen1 => ?_) | skip
  refine au 4 ?_
  refine run_rowNil 60 2 cSh ?_
  refine run_loopF (σ := Value × Nat) (ks := [0, 1, 10, 11]) (.cons rfl (.cons rfl (.cons rfl (.cons rfl (.nil))))) (fun s => [(7, dVal s.1), (12, dInt .i64 (s.2 : Nat))]) (fun s => [rRow s.1 60 2 cSh (sharesL p cs (pts.take s.2))]) (fun s => s.2 ≤ pts.length) (fun s => pts.length - s.2) ((.slice none 0 0, 0)) (Nat.zero_le _) (.cons rfl (by first | exact fun _ _ h => h | exact d_int (by omega) | exact d_int (by simp) | exact d_intN (by omega) | exact d_any) (.cons rfl (by first | exact fun _ _ h => h | exact d_int (by omega) | exact d_int (by simp) | exact d_intN (by omega) | exact d_any) .nil)) (rfl) ?_
  intro s hs ih2
  have hsl : (sharesL p cs (pts.take s.2)).length = s.2 := by unfold sharesL; rw [List.length_map, List.length_take]; omega
  refine au 5 ?_
  refine run_cond rfl (fun h3 => ?_) (fun h3 => ?_)
  ·
   refine au 15 ?_
   refine run_op (loc_call (value_spec _ _ _ h (hp _ (getD_mem (by omega))) hc) rfl) rfl ?_
   refine au 1 ?_
   refine run_op (loc_buildSlice rfl rfl (.agg rfl (.nil)) rfl rfl) rfl ?_
   refine run_append1 (e0 := (pts[s.2]?.getD default, valP p cs (pts[s.2]?.getD default))) rfl (.here) rfl (by rfl) (by rfl) (by first | omega | (simp [lenMax]; omega) | (simp [lenMax]; done) | assumption) (by first | omega | (simp [lenMax]; omega) | (simp [lenMax]; done) | assumption) rfl (fun v4 => ?_)
   refine au 7 ?_
   exact run_againF ih2 ((v4, s.2 + 1)) (by simp only; omega) (by simp only; omega) (.cons rfl (by first | exact fun _ _ h => h | exact d_int (by omega) | exact d_int (by simp) | exact d_intN (by omega) | exact d_any) (.cons rfl (by first | exact fun _ _ h => h | exact d_int (by omega) | exact d_int (by simp) | exact d_intN (by omega) | exact d_any) .nil)) (.cons rfl (fun _ _ x => x) (.cons rfl (fun _ _ x => x) (.cons rfl (fun _ _ x => x) (.cons rfl (fun _ _ x => x) (.nil))))) (by simp only [appR]; unfold sharesL; rw [take_snoc2 (by omega), List.map_append]; rfl)
  ·
   refine au 6 ?_
   refine run_ret (s.1) Tryz.func119 rfl rfl ?_ (trivial) (fun _ _ h => by rw [List.take_of_length_le (by omega)] at h; exact h)
   exact fun _ _ h => h
theorem shares_spec (p : Int) (cs pts : List Int) (h : 2 ≤ p ∧ p ≤ 65521) (hc : ∀ c ∈ cs, hasP p c) (hp : ∀ x ∈ pts, 0 ≤ x ∧ x ≤ 65521) (hl : pts.length ≤ 1000) : SpecP Tryz.prog 119 [dInt .i64 p, dInts cs, dInts pts] (dSl 2 cSh (sharesL p cs pts)) := spec_freeze (sharesM_spec p cs pts h hc hp hl)
theorem split_spec (p secret most count : Int) (t : Tape) : SpecP Tryz.prog 115 [dAgg [dInt .i64 p], dInt .i64 secret, dInt .i64 most, dInt .i64 count, dTape t] (dTup [dSl 2 cSh (splitL p secret most count t), dTape (splitT p secret most count t), dInt .i64 (splitE p secret most count t)]) := by
  refine specP_of_body Tryz.func115 rfl rfl (fun I M => ?_)
  refine au 3 ?_
  refine run_new (loc_boxOwnN rfl) rfl (fun b1 _ => ?_)
  refine au 1 ?_
  refine run_new (loc_allocOwn (by simp)) rfl (fun b2 _ => ?_)
  refine au 5 ?_
  refine run_op (loc_call (of_spec _) rfl) rfl ?_
  refine au 15 ?_
  refine run_gop rfl rfl gdI.ok (fun hg => loc_call (has_spec _ _) rfl) rfl ?_
  refine au 5 ?_
  refine run_cond rfl (fun h3 => ?_) (fun h3 => ?_)
  ·
   have c1 := h3
   refine au 7 ?_
   have hE : splitE p secret most count t = 9 := by unfold splitE; rw [if_pos (ofP_or c1)]
   refine run_retGP Tryz.func115 rfl (.tmp rfl (.cellN rfl (.here) (by rfl) (.tmp rfl (.nil)))) ?_ (fun _ _ h => inv_tail (inv_tail (h)))
   exact d_tup3 (d_toShares (by unfold splitL; rw [if_neg (by rw [hE]; omega)]) d_nil) (d_toTape (by unfold splitT; rw [if_neg (by rw [hE]; omega)]) (d_aggU (.cons d_nil (.cons (d_int rfl) .nil)))) (d_int hE.symm)
  ·
   have c1 := h3
   refine au 3 ?_
   refine run_op (loc_call (thr_spec _) rfl) rfl ?_
   refine au 20 ?_
   refine run_cond rfl (fun h4 => ?_) (fun h4 => ?_)
   ·
    have c2 := h4
    refine au 7 ?_
    have hE : splitE p secret most count t = 1 := by unfold splitE; rw [if_neg (ofP_nor c1), if_pos (by omega)]
    refine run_retGP Tryz.func115 rfl (.tmp rfl (.cellN rfl (.here) (by rfl) (.tmp rfl (.nil)))) ?_ (fun _ _ h => inv_tail (inv_tail (h)))
    exact d_tup3 (d_toShares (by unfold splitL; rw [if_neg (by rw [hE]; omega)]) d_nil) (d_toTape (by unfold splitT; rw [if_neg (by rw [hE]; omega)]) (d_aggU (.cons d_nil (.cons (d_int rfl) .nil)))) (d_int hE.symm)
   ·
    have c2 := h4
    refine au 8 ?_
    refine run_op (loc_call (draws_spec _ _ _) rfl) rfl ?_
    refine au 8 ?_
    have hp := (ofP_and c1).1
    have hsec := (ofP_and c1).2
    have hpb := hp.1
    have hpb2 := hp.2.1
    have hE : splitE p secret most count t = drawE t p most := by unfold splitE; rw [if_neg (ofP_nor c1), if_neg (by omega)]
    refine au 6 ?_
    refine run_cond rfl (fun h5 => ?_) (fun h5 => ?_)
    ·
     have c3 := h5
     refine au 8 ?_
     refine run_retGP Tryz.func115 rfl (.tmp rfl (.cellN rfl (.here) (by rfl) (.tmp rfl (.nil)))) ?_ (fun _ _ h => inv_tail (inv_tail (h)))
     exact d_tup3 (d_toShares (by unfold splitL; rw [if_neg (by rw [hE]; exact c3)]) d_nil) (d_toTape (by unfold splitT; rw [if_neg (by rw [hE]; exact c3)]) (d_aggU (.cons d_nil (.cons (d_int rfl) .nil)))) (d_int hE.symm)
    ·
     have c3 := Classical.not_not.1 h5
     refine au 12 ?_
     refine run_rowNil 3 1 fI ?_
     refine run_loopF (σ := Value × Nat) (ks := [1, 9, 11, 13, 15, 66]) (.cons rfl (.cons rfl (.cons rfl (.cons rfl (.cons rfl (.cons rfl (.nil))))))) (fun s => [(17, dVal s.1), (67, dInt .i64 (s.2 : Nat))]) (fun s => [rRow s.1 3 1 fI (ptsL s.2)]) (fun s => s.2 ≤ count.toNat) (fun s => count.toNat - s.2) ((.slice none 0 0, 0)) (Nat.zero_le _) (.cons rfl (by first | exact fun _ _ h => h | exact d_int (by omega) | exact d_int (by simp) | exact d_intN (by omega) | exact d_any) (.cons rfl (by first | exact fun _ _ h => h | exact d_int (by omega) | exact d_int (by simp) | exact d_intN (by omega) | exact d_any) .nil)) (rfl) ?_
     intro s hs ih6
     have hpl := ptsL_len s.2
     refine au 5 ?_
     refine run_cond rfl (fun h7 => ?_) (fun h7 => ?_)
     ·
      refine au 12 ?_
      refine run_op (loc_buildSlice rfl rfl (.one rfl (.nil)) rfl rfl) rfl ?_
      refine run_append1 rfl (.here) rfl (by rfl) (by rfl) (by first | omega | (simp [lenMax]; omega) | (simp [lenMax]; done) | assumption) (by first | omega | (simp [lenMax]; omega) | (simp [lenMax]; done) | assumption) rfl (fun v8 => ?_)
      refine au 7 ?_
      exact run_againF ih6 ((v8, s.2 + 1)) (by simp only; omega) (by simp only; omega) (.cons rfl (by first | exact fun _ _ h => h | exact d_int (by omega) | exact d_int (by simp) | exact d_intN (by omega) | exact d_any) (.cons rfl (by first | exact fun _ _ h => h | exact d_int (by omega) | exact d_int (by simp) | exact d_intN (by omega) | exact d_any) .nil)) (.cons rfl (fun _ _ x => x) (.cons rfl (fun _ _ x => x) (.cons rfl (fun _ _ x => x) (.cons rfl (fun _ _ x => x) (.cons rfl (fun _ _ x => x) (.cons rfl (fun _ _ x => x) (.nil))))))) (by simp only [appR]; rw [ptsL_snoc])
     ·
      refine au 2 ?_
      refine run_freezeRow (s := 17) rfl (.here) ?_
      have hdz := drawE_zero c3
      rw [show s.2 = count.toNat by omega]
      rw [ofP_pos hp]
      have hdl := hdz.2.2.2.2.1
      have hcs : ∀ c ∈ [secret] ++ drawL t p most, hasP p c := by intro c hc; rcases List.mem_append.1 hc with hc | hc; (· rw [List.mem_singleton.1 hc]; exact hsec); (· exact hdz.2.2.2.2.2 c hc)
      have hpt : ∀ x ∈ ptsL count.toNat, 0 ≤ x ∧ x ≤ 65521 := fun x hx => by have := ptsL_mem hx; omega
      refine run_addNone ?_
      refine dr_start _ (.one (σ := Nat) 2 (fun _ => True)) [⟨[(13, none)], [], none⟩,
          ⟨[(1, none)], [], none⟩,
          ⟨[(77, some (1, false))], [1], some (0, 0, true)⟩,
          ⟨[(15, none)], [], none⟩,
          ⟨[(78, some (2, false)), (79, some (3, false))], [1, 2, 3], some (0, 1, true)⟩,
          ⟨[(17, none)], [], none⟩,
          ⟨[(76, some (0, false)), (80, some (4, false)), (81, some (5, false))], [0, 1, 2, 3, 4, 5], none⟩,
          ⟨[(9, none)], [], some (2, 0, false)⟩,
          ⟨[(82, some (6, false))], [0, 1, 2, 3, 4, 5, 6], none⟩,
          ⟨[(11, none), (83, some (7, false))], [0, 1, 2, 3, 4, 5, 6, 7, 8], some (1, 0, true)⟩,
          ⟨[], [0, 1, 2, 3, 4, 5, 6, 7, 8, 9], none⟩] [_, _, _] _ rfl rfl ?_
      refine da 2 ?_
      refine dq_choose id (fun _ t => t) rfl (fun _ _ => ⟨rfl, id, trivial⟩) (fun s => .op rfl (.nil)) rfl rfl (fun s hs => locM_new (loc_buildOwn (f' := fI) (xs := [secret]) rfl rfl (.one rfl (.nil)) rfl rfl rfl)) (by exact .cons (.inl rfl) (.nil)) (fun _ _ => rfl) ?_
      refine da 1 ?_
      refine dq_write rfl (fun s => .op rfl (.op rfl (.nil))) rfl rfl (fun s hs => LocM.frz (loc_append rfl rfl rfl (by first | omega | (simp [lenMax]; omega) | (simp [lenMax]; done) | assumption) (by first | omega | (simp [lenMax]; omega) | (simp [lenMax]; done) | assumption)) rfl) (by exact .cons (.inl rfl) (.nil)) ?_
      refine da 1 ?_
      refine dq_pure rfl (fun s => .op rfl (.op rfl (.op rfl (.nil)))) (fun s hs _ => loc_call (shares_spec _ _ _ ⟨by omega, by omega⟩ hcs hpt (by rw [ptsL_len]; omega)) rfl) (by exact .cons (.inl rfl) (.nil)) ?_
      refine da 2 ?_
      refine dq_write0 rfl (fun s => .g rfl (.op rfl (.nil))) rfl rfl (fun s hs => loc_storeN (ho := (by show OneAll [_, _]; infer_instance)) rfl rfl rfl) (by exact .cons (.inl rfl) (.nil)) ?_
      refine da 1 ?_
      refine dq_end (rs := [_, _, _]) 0 rfl (fun _ => rfl) (.cons rfl (.nil)) rfl (fun _ => rfl) (fun b9 _ => ?_)
      dsimp only [outG, outM, List.map, List.set, id]
      refine run_retGP Tryz.func115 rfl (.tmp rfl (.cellN rfl (.there (.here)) (by rfl) (.tmp rfl (.nil)))) ?_ (fun _ _ h => inv_tail (inv_tail (inv_tail (h))))
      exact d_tup3 (d_eq (by unfold splitL; rw [if_pos (hE.trans c3)])) (d_toTape (by unfold splitT; rw [if_pos (hE.trans c3)]) (fun _ _ h => h)) (d_int (c3.symm.trans hE.symm))
end Go.Q

namespace Go.Q
variable {P : Program} {f : FuncId} {N : Nat} {I0 : Imm} {R : Goal} {g : G} {k : List Item} {F : List Res}
def fam {α : Type} (T n : Nat) (c : α → List D) (hs : List (Value × List α)) : List Res := hs.map fun p => rRow p.1 T n c p.2
theorem fam_perm {α : Type} {T n : Nat} {c : α → List D} {hs : List (Value × List α)} {i : Nat} {p : Value × List α} (h : hs[i]? = some p) : (fam T n c hs ++ F).Perm (rRow p.1 T n c p.2 :: (fam T n c (hs.eraseIdx i) ++ F)) := by
 obtain ⟨hi, rfl⟩ := List.getElem?_eq_some_iff.1 h
 have h1 : hs.Perm (hs[i] :: hs.eraseIdx i) := by
  rw [List.eraseIdx_eq_take_drop_succ]
  conv => lhs; rw [← List.take_append_drop i hs, List.drop_eq_getElem_cons hi]
  exact List.perm_middle
 have h2 := h1.map fun p => rRow p.1 T n c p.2
 exact h2.append_right F
theorem fam_back {α : Type} {T n : Nat} {c : α → List D} {hs : List (Value × List α)} {i : Nat} {p : Value × List α} (hi : i < hs.length) : (rRow p.1 T n c p.2 :: (fam T n c (hs.eraseIdx i) ++ F)).Perm (fam T n c (hs.set i p) ++ F) := by
 have h1 : (hs.set i p)[i]? = some p := List.getElem?_set_self hi
 have h2 := fam_perm (T := T) (n := n) (c := c) (F := F) h1
 rw [List.eraseIdx_set_eq] at h2
 exact h2.symm
theorem fam_nils {α : Type} {T n : Nat} {c : α → List D} (A : List Res) (m : Nat) {I : Imm} {w : World} (h : Inv I (A ++ F) w) : Inv I (A ++ (fam T n c (List.replicate m (.slice none 0 0, [])) ++ F)) w := by
 induction m with
 | zero => exact h
 | succ m ih =>
  have h1 : Inv I (rRow (.slice none 0 0) T n c [] :: (A ++ (fam T n c (List.replicate m (.slice none 0 0, [])) ++ F))) w := nil_ok ih
  exact h1.perm (List.perm_middle.symm)
theorem fam_out {α : Type} {T n : Nat} {c : α → List D} {hs : List (Value × List α)} (A : List Res) (i : Nat) {p : Value × List α} (h : hs[i]? = some p) {I : Imm} {w : World} (hi : Inv I (A ++ (fam T n c hs ++ F)) w) : Inv I (rRow p.1 T n c p.2 :: (A ++ (fam T n c (hs.eraseIdx i) ++ F))) w :=
 hi.perm (((fam_perm h).append_left A).trans List.perm_middle)
theorem fam_in {α : Type} {T n : Nat} {c : α → List D} {hs : List (Value × List α)} (A : List Res) (i : Nat) {p : Value × List α} (h : i < hs.length) {I : Imm} {w : World} (hi : Inv I (rRow p.1 T n c p.2 :: (A ++ (fam T n c (hs.eraseIdx i) ++ F))) w) : Inv I (A ++ (fam T n c (hs.set i p) ++ F)) w :=
 hi.perm ((List.perm_middle.symm).trans ((fam_back h).append_left A))
theorem run_inv {M M' : List Res} (hw : ∀ I w, Inv I M w → Inv I M' w) (h : Run P f N I0 R g M' k) : Run P f N I0 R g M k :=
 run_weaken (fun I _ w hs hi => ⟨hs, hw I w hi⟩) h
theorem runL_inv {M M' : List Res} {ops : Array Oper} {l : List Oper} (hw : ∀ I w, Inv I M w → Inv I M' w) (h : RunL P f N I0 R g M' ops l k) : RunL P f N I0 R g M ops l k :=
 ⟨fun I a w b cs hb hk hl hs hi => h.go I a w b cs hb hk hl hs (hw I w hi)⟩
theorem run_rowV {M : List Res} {s : Nat} {C : Res → List Res} {F' : List Res} {α : Type} {T n : Nat} {f' : α → List D} {xs : List α} {v : Value} (hs : look g s = some (dVal v)) (hm : Sel (rRow v T n f' xs) M C F')
  (h : Run P f N I0 R ((s, dSlV v) :: g) M k) : Run P f N I0 R g M k := by
 constructor
 intro I a w b cs hb hk hl hsl hi
 refine h.go I a w b cs hb hk hl (slots_cast hsl I.le_refl hs (fun u hu => ⟨hu, ?_⟩)) hi
 rw [show u = v from hu]
 rcases row_cases (hi.perm hm.perm.1) with ⟨e, _⟩ | ⟨b, cap, cs, e, _⟩
 ·exact ⟨_, _, _, e⟩
 ·exact ⟨_, _, _, e⟩
theorem spec_freezeS {Ds : List D} {T n : Nat} {α : Type} {f' : α → List D} {xs : List α} {Min Mo : List Res} (h : Spec P f Ds Min (fun _ : Value => True) (fun v => dVal v) (fun v => rRow v T n f' xs :: Mo)) : Spec P f Ds Min (fun _ : Unit => True) (fun _ => dSl n f' xs) (fun _ => Mo) := by
 intro I M w vs hv hi
 refine (h I M w vs hv hi).mono ?_
 rintro e w' ⟨v, rfl, s, _, J, h1, h2, h3⟩
 obtain ⟨J', h4, h5, h6⟩ := row_freeze h3
 have hvs : v = s := h2
 subst hvs
 exact ⟨v, rfl, (), trivial, J', h1.trans h4, h5, h6⟩
theorem spec_freeze3 {Ds : List D} {T n : Nat} {α : Type} {f' : α → List D} {xs : List α} {d2 d3 : D} (h : Spec P f Ds [] (fun _ : Value => True) (fun v => dTup [dVal v, d2, d3]) (fun v => [rRow v T n f' xs])) : SpecP P f Ds (dTup [dSl n f' xs, d2, d3]) := by
 intro I M w vs hv hi
 refine (h I M w vs hv hi).mono ?_
 rintro e w' ⟨v, rfl, s, _, J, h1, ⟨cs, rfl, h2⟩, h3⟩
 obtain ⟨J', h4, h5, h6⟩ := row_freeze h3
 refine ⟨_, rfl, J', h1.trans h4, ⟨cs, rfl, ?_⟩, h6⟩
 match hc : cs.toList, h2 with
 | [v, v2, v3], ⟨e1, e2, e3, _⟩ =>
  have hvs : v = s := e1
  subst hvs
  exact ⟨h5, D.mono _ h4 e2, D.mono _ h4 e3, trivial⟩
theorem row_nilV {v : Value} {T m : Nat} {F : List Res} {I : Imm} {w : World} (h : Inv I (rRow v T 1 (fun u => [dVal u]) (List.replicate m (.slice none 0 0)) :: F) w) : Inv I (rRow v T 1 (fun u => [dSlV u]) (List.replicate m (.slice none 0 0)) :: F) w := by
 have hup : ∀ (J : Imm) (m : Nat) (cs : List Value), relL ((List.replicate m (Value.slice none 0 0)).flatMap fun u => [dVal u]) J cs → relL ((List.replicate m (Value.slice none 0 0)).flatMap fun u => [dSlV u]) J cs := by
  intro J m
  induction m with
  | zero => intro cs h; exact h
  | succ m ih =>
   intro cs h
   cases cs with
   | nil => exact h.elim
   | cons c cs => exact ⟨⟨h.1, _, _, _, h.1⟩, ih cs h.2⟩
 have hi := h
 refine ⟨h.os, h.tape, h.output, h.imm, fun r hr => ?_, h.apart⟩
 rcases List.mem_cons.1 hr with rfl | hr
 ·rcases row_cases h with ⟨e, e2⟩ | ⟨b, cap, cs, e, h2, h3, h4, h5, h6, h7, h8⟩
  ·subst e
   rw [e2]
   exact (nil_ok (inv_tail h)).own _ (List.mem_cons_self ..)
  ·have h1 := h.own _ (List.mem_cons_self ..)
   subst e
   obtain ⟨g1, o, g2, g3⟩ := h1
   rw [h2] at g2
   injection g2 with g2
   subst g2
   exact ⟨g1, _, h2, b, cap, cs, rfl, rfl, h3, h4, h5, h6, fun x _ => rfl, hup _ _ _ h8⟩
 ·exact h.own r (List.mem_cons_of_mem _ hr)
theorem spec_freezeRows3 {Ds : List D} {T T' : Nat} {xs : List (List Int)} {d2 d3 : D}
  (h : Spec P f Ds [] (fun s : Value × List (Value × List Int) => s.2.map (·.2) = xs) (fun s => dTup [dVal s.1, d2, d3]) (fun s => rRow s.1 T 1 (fun u => [dSlV u]) (s.2.map (·.1)) :: fam T' 1 (fun x => [dInt .i64 x]) s.2)) : SpecP P f Ds (dTup [dRows xs, d2, d3]) := by
 intro I M w vs hv hi
 refine (h I M w vs hv hi).mono ?_
 rintro e w' ⟨v, rfl, s, hs, J, h1, ⟨cs, rfl, h2⟩, h3⟩
 obtain ⟨J', h4, h5, h6⟩ := row_freeze h3
 obtain ⟨K, h7, h8, h9⟩ := rows_freeze s.2 h6
 refine ⟨_, rfl, K, (h1.trans h4).trans h7, ⟨cs, rfl, ?_⟩, h9⟩
 match hc : cs.toList, h2 with
 | [v, v2, v3], ⟨e1, e2, e3, _⟩ =>
  have hvs : v = s.1 := e1
  subst hvs
  refine ⟨?_, D.mono _ (h4.trans h7) e2, D.mono _ (h4.trans h7) e3, trivial⟩
  refine sl_up (by rw [← hs]; simp) (fun i x y hx hy => ⟨rfl, fun cs hr => ?_⟩) (D.mono _ h7 h5)
  rw [← hs] at hy
  rw [List.getElem?_map] at hx hy
  match hp : s.2[i]?, cs, hr with
  | some p, [u], hr =>
   rw [hp] at hx hy
   simp only [Option.map_some, Option.some.injEq] at hx hy
   subst hx; subst hy
   have := h8 p (List.mem_of_getElem? hp)
   rw [← show u = p.1 from hr.1.1] at this
   exact ⟨this, trivial⟩
  | none, _, _ => rw [hp] at hx; cases hx
end Go.Q

namespace Go.Q
open Go.Proofs
open Classical
theorem cvalid_spec (sv d : Int) : SpecP Tryz.prog 120 [dAgg [dInt .i64 sv, dInt .i64 d]] (dB ((2 ≤ sv ∧ sv ≤ 10) ∧ 1 ≤ d ∧ d < sv)) := by
 refine specP_of_body Tryz.func120 rfl rfl (fun I M => ?_)
 refine au 32 ?_
 refine run_retP Tryz.func120 rfl rfl ?_
 exact d_B (by constructor <;> (intro h; omega))
theorem ccheck_spec (p sv d : Int) : SpecP Tryz.prog 116 [dAgg [dInt .i64 p], dAgg [dInt .i64 sv, dInt .i64 d]] (dInt .i64 (planE p sv d)) := by
  refine specP_of_body Tryz.func116 rfl rfl (fun I M => ?_)
  refine au 10 ?_
  refine run_op (loc_call (of_spec _) rfl) rfl ?_
  refine au 11 ?_
  refine run_cond rfl (fun h1 => ?_) (fun h1 => ?_)
  ·
   have c1 := h1
   refine au 4 ?_
   refine run_retP Tryz.func116 rfl rfl ?_
   exact d_int (by unfold planE; rw [if_pos c1])
  ·
   have c1 := h1
   refine au 5 ?_
   refine run_op (loc_call (cvalid_spec _ _) rfl) rfl ?_
   refine au 10 ?_
   refine run_cond rfl (fun h2 => ?_) (fun h2 => ?_)
   ·
    have c2 := h2
    refine au 4 ?_
    refine run_retP Tryz.func116 rfl rfl ?_
    exact d_int (by unfold planE; rw [if_neg c1, if_pos c2])
   ·
    have c2 := h2
    refine au 5 ?_
    refine run_retP Tryz.func116 rfl rfl ?_
    exact d_int (by unfold planE; rw [if_neg c1, if_neg c2])
theorem ccheckR_spec (p sv d rows : Int) : SpecP Tryz.prog 114 [dAgg [dInt .i64 p], dAgg [dInt .i64 sv, dInt .i64 d], dInt .i64 rows] (dInt .i64 (planRE p sv d rows)) := by
  refine specP_of_body Tryz.func114 rfl rfl (fun I M => ?_)
  refine au 10 ?_
  refine run_op (loc_call (ccheck_spec _ _ _) rfl) rfl ?_
  refine au 15 ?_
  first | refine run_gfirst rfl rfl gdI.ok (fun hg => loc_or rfl rfl) rfl ?_ | refine run_gfirst rfl rfl gdI.ok (fun hg => loc_orG hg rfl rfl) rfl ?_ | refine run_gfirst rfl rfl gdI.ok (fun hg => loc_orH hg rfl rfl) rfl ?_
  refine au 3 ?_
  refine run_cond rfl (fun h1 => ?_) (fun h1 => ?_)
  ·
   have c1 := h1
   refine au 4 ?_
   refine run_retP Tryz.func114 rfl rfl ?_
   exact d_int (by unfold planRE; rw [if_pos c1])
  ·
   have c1 := h1
   refine au 6 ?_
   refine run_retP Tryz.func114 rfl rfl ?_
   exact d_int (by unfold planRE; rw [if_neg c1])
theorem climits_spec (p sv d rows : Int) : SpecP Tryz.prog 112 [dAgg [dInt .i64 p], dAgg [dInt .i64 sv, dInt .i64 d], dInt .i64 rows] (dTup [dInts (limsC p sv d rows), dInt .i64 (planRE p sv d rows)]) := by
  refine specP_of_body Tryz.func112 rfl rfl (fun I M => ?_)
  refine au 13 ?_
  refine run_op (loc_call (ccheckR_spec _ _ _ _) rfl) rfl ?_
  refine au 7 ?_
  refine run_cond rfl (fun h1 => ?_) (fun h1 => ?_)
  ·
   have c1 := h1
   refine au 6 ?_
   refine run_ret2P Tryz.func112 rfl rfl rfl ?_
   exact d_tup2 (d_toInts (by unfold limsC; rw [if_neg c1]) d_nil) (d_int rfl)
  ·
   have c1 := Classical.not_not.1 h1
   refine au 7 ?_
   obtain ⟨hp, hsv, hd, hsp, hr⟩ := planRE_zero c1
   have hm := mul_bd (a := rows) (b := d) (A := 1024) (B := 10) (by omega) (by omega) (by omega) (by omega)
   refine au 8 ?_
   refine run_rowNil 3 1 fI ?_
   refine run_loopF (σ := Value × Nat) (ks := [3, 20]) (.cons rfl (.cons rfl (.nil))) (fun q => [(9, dVal q.1), (21, dInt .i64 (q.2 : Nat))]) (fun q => [rRow q.1 3 1 fI (List.replicate q.2 p)]) (fun q => q.2 ≤ (rows * d).toNat) (fun q => (rows * d).toNat - q.2) ((.slice none 0 0, 0)) (Nat.zero_le _) (.cons rfl (by first | exact fun _ _ h => h | exact d_int (by omega) | exact d_int (by simp) | exact d_intN (by omega) | exact d_any) (.cons rfl (by first | exact fun _ _ h => h | exact d_int (by omega) | exact d_int (by simp) | exact d_intN (by omega) | exact d_any) .nil)) (rfl) ?_
   intro q hq ih2
   have hql : (List.replicate q.2 p).length = q.2 := List.length_replicate
   refine au 5 ?_
   refine run_cond rfl (fun h3 => ?_) (fun h3 => ?_)
   ·
    refine au 7 ?_
    refine run_op (loc_buildSlice rfl rfl (.one rfl (.nil)) rfl rfl) rfl ?_
    refine run_append1 rfl (.here) rfl (by rfl) (by rfl) (by first | omega | (simp [lenMax]; omega) | (simp [lenMax]; done) | assumption) (by first | omega | (simp [lenMax]; omega) | (simp [lenMax]; done) | assumption) rfl (fun v4 => ?_)
    refine au 7 ?_
    exact run_againF ih2 ((v4, q.2 + 1)) (by simp only; omega) (by simp only; omega) (.cons rfl (by first | exact fun _ _ h => h | exact d_int (by omega) | exact d_int (by simp) | exact d_intN (by omega) | exact d_any) (.cons rfl (by first | exact fun _ _ h => h | exact d_int (by omega) | exact d_int (by simp) | exact d_intN (by omega) | exact d_any) .nil)) (.cons rfl (fun _ _ x => x) (.cons rfl (fun _ _ x => x) (.nil))) (by simp only [appR]; rw [rep_snoc])
   ·
    refine au 2 ?_
    refine run_freezeRow (s := 9) rfl (.here) ?_
    refine au 5 ?_
    refine run_ret2P Tryz.func112 rfl rfl rfl ?_
    exact d_tup2 (d_eq (by unfold limsC; rw [if_pos c1, show q.2 = (rows * d).toNat by omega])) (d_int c1.symm)
theorem cqueriesM_spec (p sv d rows index : Int) (t : Tape) : Spec Tryz.prog 113 [dAgg [dInt .i64 p], dAgg [dInt .i64 sv, dInt .i64 d], dInt .i64 rows, dInt .i64 index, dTape t] [] (σ := Value × List (Value × List Int)) (fun q => q.2.map (·.2) = cqL p sv d rows index t) (fun q => dTup [dVal q.1, dTape (cqT p sv d rows index t), dInt .i64 (cqE p sv d rows index t)]) (fun q => rRow q.1 38 1 (fun u => [dSlV u]) (q.2.map (·.1)) :: fam 3 1 (fun x => [dInt .i64 x]) q.2) := by
  refine spec_of_body Tryz.func113 rfl rfl (fun I F => ?_)
  refine au 4 ?_
  refine run_new (loc_boxOwnN rfl) rfl (fun b9 _ => ?_)
  refine au 1 ?_
  refine run_new (loc_allocOwn (by simp)) rfl (fun b11 _ => ?_)
  refine au 8 ?_
  refine run_op (loc_call (ccheckR_spec _ _ _ _) rfl) rfl ?_
  refine au 7 ?_
  refine run_cond rfl (fun h1 => ?_) (fun h1 => ?_)
  ·
   have c1 := h1
   refine au 8 ?_
   have hE : cqE p sv d rows index t = planRE p sv d rows := by unfold cqE; rw [if_pos c1]
   refine run_retG ((.slice none 0 0, [])) Tryz.func113 rfl (.tmp rfl (.cellN rfl (.here) (by rfl) (.tmp rfl (.nil)))) ?_ (by unfold cqL; rw [if_neg (by rw [hE]; omega)]; rfl) (fun I w h => nil_ok ((fun _ _ h => h.sub (.cons _ (.cons _ (.refl _)))) I w h))
   exact d_tup3 (fun _ _ h => h) (d_toTape (by unfold cqT; rw [if_neg (by rw [hE]; omega)]) (d_aggU (.cons d_nil (.cons (d_int rfl) .nil)))) (d_int hE.symm)
  ·
   have c1 := Classical.not_not.1 h1
   refine au 13 ?_
   refine run_cond rfl (fun h2 => ?_) (fun h2 => ?_)
   ·
    have c2 := h2
    refine au 7 ?_
    have hE : cqE p sv d rows index t = 6 := by unfold cqE; rw [if_neg (Classical.not_not.2 c1), if_pos (by omega)]
    refine run_retG ((.slice none 0 0, [])) Tryz.func113 rfl (.tmp rfl (.cellN rfl (.here) (by rfl) (.tmp rfl (.nil)))) ?_ (by unfold cqL; rw [if_neg (by rw [hE]; omega)]; rfl) (fun I w h => nil_ok ((fun _ _ h => h.sub (.cons _ (.cons _ (.refl _)))) I w h))
    exact d_tup3 (fun _ _ h => h) (d_toTape (by unfold cqT; rw [if_neg (by rw [hE]; omega)]) (d_aggU (.cons d_nil (.cons (d_int rfl) .nil)))) (d_int hE.symm)
   ·
    have c2 := h2
    refine au 2 ?_
    obtain ⟨hp, hsv, hd, hsp, hr⟩ := planRE_zero c1
    have hpb := hp.1
    have hpb2 := hp.2.1
    have hm := mul_bd (a := rows) (b := d) (A := 1024) (B := 9) (by omega) (by omega) (by omega) (by omega)
    refine au 8 ?_
    refine run_op (loc_call (draws_spec _ _ _) rfl) rfl ?_
    refine au 4 ?_
    refine run_new (loc_allocOwn (by simp)) rfl (fun b14 _ => ?_)
    refine au 4 ?_
    have hE : cqE p sv d rows index t = drawE t p (rows * d) := by unfold cqE; rw [if_neg (Classical.not_not.2 c1), if_neg (by omega)]
    refine au 6 ?_
    refine run_cond rfl (fun h3 => ?_) (fun h3 => ?_)
    ·
     have c3 := h3
     refine au 8 ?_
     skip
     refine run_retG ((.slice none 0 0, [])) Tryz.func113 rfl (.tmp rfl (.cellN rfl (.there (.here)) (by rfl) (.tmp rfl (.nil)))) ?_ (by unfold cqL; rw [if_neg (by rw [hE]; omega)]; rfl) (fun I w h => nil_ok ((fun _ _ h => h.sub (.cons _ (.cons _ (.cons _ (.refl _))))) I w h))
     exact d_tup3 (fun _ _ h => h) (d_toTape (by unfold cqT; rw [if_neg (by rw [hE]; omega)]) (d_aggU (.cons d_nil (.cons (d_int rfl) .nil)))) (d_int hE.symm)
    ·
     have c3 := Classical.not_not.1 h3
     refine au 2 ?_
     have hdz := drawE_zero c3
     have hok := hdz.1
     unfold okTape at hok
     have hdl := hdz.2.2.2.2.1
     have hda := hdz.2.2.2.2.2
     refine au 3 ?_
     refine run_new (loc_makeSlice rfl rfl (by first | omega | assumption) (by first | omega | assumption) _ _ rfl (by simp)) rfl (fun b17 _ => ?_)
     refine au 4 ?_
     refine run_inv (M' := rRow (.slice (some ⟨b17, 0, none⟩) sv.toNat sv.toNat) 38 1 (fun u => [dSlV u]) ((List.replicate sv.toNat ((.slice none 0 0 : Value), ([] : List Int))).map (·.1)) :: rCells b11 50 [dVal (.slice none 0 0), dInt .i64 0] :: rCells b9 50 [dInts t.numbers, dInt .i64 t.at'] :: (fam 3 1 fI (List.replicate sv.toNat ((.slice none 0 0 : Value), ([] : List Int))) ++ F)) (fun I w h => fam_nils [_, _, _] sv.toNat (by rw [List.map_replicate]; exact row_nilV (h.sub (.cons_cons _ (.cons _ (.refl _)))))) ?_
     refine au 5 ?_
     refine run_loopE (σ := Nat × List (Value × List Int)) (ks := [3, 5, 6, 9, 11, 15, 17, 60]) (.cons rfl (.cons rfl (.cons rfl (.cons rfl (.cons rfl (.cons rfl (.cons rfl (.cons rfl (.nil))))))))) (fun q => [(61, dInt .i64 (q.1 : Nat))]) (fun q => rRow (.slice (some ⟨b17, 0, none⟩) sv.toNat sv.toNat) 38 1 (fun u => [dSlV u]) (q.2.map (·.1)) :: rCells b11 50 [dVal (.slice none 0 0), dInt .i64 0] :: rCells b9 50 [dInts t.numbers, dInt .i64 t.at'] :: (fam 3 1 fI q.2 ++ F)) (fun q => q.1 ≤ rows.toNat ∧ q.2.length = sv.toNat ∧ q.2.map (·.2) = cqP p d index (drawL t p (rows * d)) sv.toNat 0 q.1) (fun q => rows.toNat - q.1) ((0, (List.replicate sv.toNat ((.slice none 0 0 : Value), ([] : List Int))))) (⟨Nat.zero_le _, by simp, by rw [cqP_0]; simp⟩) (.cons rfl (by first | exact fun _ _ h => h | exact d_int (by omega) | exact d_int (by simp) | exact d_intN (by omega) | exact d_any) .nil) (rfl) ?_
     rintro q ⟨hq1, hq2, hq3⟩ ih4
     refine au 5 ?_
     refine run_cond rfl (fun h5 => ?_) (fun h5 => ?_)
     ·
      refine au 19 ?_
      refine run_joinC (σ := Unit) (ks := [3, 5, 6, 9, 11, 15, 17, 18, 60, 61]) (.cons rfl (.cons rfl (.cons rfl (.cons rfl (.cons rfl (.cons rfl (.cons rfl (.cons rfl (.cons rfl (.cons rfl (.nil))))))))))) (fun _u => [(19, dInt .i64 (if (q.1 : Int) = index then 1 else 0))]) (fun _u => True) (fun j6 => ?_) ?_
      ·
       refine run_cond rfl (fun h7 => ?_) (fun h7 => ?_)
       ·
        refine au 3 ?_
        exact run_atC j6 (()) (trivial) (.cons rfl (d_int (by rw [if_pos (by omega)])) .nil) (.cons rfl (fun _ _ x => x) (.cons rfl (fun _ _ x => x) (.cons rfl (fun _ _ x => x) (.cons rfl (fun _ _ x => x) (.cons rfl (fun _ _ x => x) (.cons rfl (fun _ _ x => x) (.cons rfl (fun _ _ x => x) (.cons rfl (fun _ _ x => x) (.cons rfl (fun _ _ x => x) (.cons rfl (fun _ _ x => x) (.nil)))))))))))
       ·
        refine au 1 ?_
        exact run_atC j6 (()) (trivial) (.cons rfl (d_int (by rw [if_neg (by omega)])) .nil) (.cons rfl (fun _ _ x => x) (.cons rfl (fun _ _ x => x) (.cons rfl (fun _ _ x => x) (.cons rfl (fun _ _ x => x) (.cons rfl (fun _ _ x => x) (.cons rfl (fun _ _ x => x) (.cons rfl (fun _ _ x => x) (.cons rfl (fun _ _ x => x) (.cons rfl (fun _ _ x => x) (.cons rfl (fun _ _ x => x) (.nil)))))))))))
      intro _u _
      refine au 1 ?_
      have hqd := mul_bd (a := (q.1 : Int)) (b := d) (A := 1024) (B := 9) (by omega) (by omega) (by omega) (by omega)
      have hqd1 : ((q.1 : Int) + 1) * d = (q.1 : Int) * d + d := by rw [Int.add_mul, Int.one_mul]
      have hqd2 : ((q.1 : Int) + 1) * d ≤ rows * d := Int.mul_le_mul_of_nonneg_right (by omega) (by omega)
      have hsp1 := split_ok (p := p) (sec := (if (q.1 : Int) = index then 1 else 0)) (most := d) (count := sv) (l := ((drawL t p (rows * d)).take (((q.1 : Int) + 1) * d).toNat).drop ((q.1 : Int) * d).toNat) hp (by unfold hasP; split <;> omega) (by omega) (by omega) (by rw [List.length_drop, List.length_take]; omega) (sl_all hda)
      refine run_addNone ?_
      refine dr_start _ (.one (σ := Nat) 23 (fun _ => True)) [⟨[(5, none)], [], none⟩,
          ⟨[(19, none)], [], none⟩,
          ⟨[(6, none)], [], none⟩,
          ⟨[(70, some (2, false))], [2], none⟩,
          ⟨[(6, none)], [], none⟩,
          ⟨[(72, some (4, false))], [4], none⟩,
          ⟨[(15, none)], [], none⟩,
          ⟨[(18, none)], [], none⟩,
          ⟨[(6, none)], [], none⟩,
          ⟨[(76, some (8, false))], [8], none⟩,
          ⟨[(75, some (7, false)), (77, some (9, false))], [7, 8, 9], none⟩,
          ⟨[(18, none)], [], none⟩,
          ⟨[(79, some (11, false))], [11], none⟩,
          ⟨[(6, none)], [], none⟩,
          ⟨[(81, some (13, false))], [13], none⟩,
          ⟨[(80, some (12, false)), (82, some (14, false))], [11, 12, 13, 14], none⟩,
          ⟨[(74, some (6, false)), (78, some (10, false)), (83, some (15, false))], [6, 7, 8, 9, 10, 11, 12, 13, 14, 15], none⟩,
          ⟨[(84, some (16, false))], [6, 7, 8, 9, 10, 11, 12, 13, 14, 15, 16], none⟩,
          ⟨[(68, some (0, false)), (69, some (1, false)), (71, some (3, false)), (73, some (5, false)), (85, some (17, false))], [0, 1, 2, 3, 4, 5, 6, 7, 8, 9, 10, 11, 12, 13, 14, 15, 16, 17], none⟩,
          ⟨[(86, some (18, false))], [0, 1, 2, 3, 4, 5, 6, 7, 8, 9, 10, 11, 12, 13, 14, 15, 16, 17, 18], none⟩,
          ⟨[(67, some (19, false))], [0, 1, 2, 3, 4, 5, 6, 7, 8, 9, 10, 11, 12, 13, 14, 15, 16, 17, 18, 19], none⟩,
          ⟨[(67, some (19, false))], [0, 1, 2, 3, 4, 5, 6, 7, 8, 9, 10, 11, 12, 13, 14, 15, 16, 17, 18, 19], none⟩,
          ⟨[(67, some (19, false))], [0, 1, 2, 3, 4, 5, 6, 7, 8, 9, 10, 11, 12, 13, 14, 15, 16, 17, 18, 19], none⟩,
          ⟨[], [], some (0, 0, true)⟩,
          ⟨[(87, some (20, false))], [0, 1, 2, 3, 4, 5, 6, 7, 8, 9, 10, 11, 12, 13, 14, 15, 16, 17, 18, 19, 20, 23], none⟩,
          ⟨[(21, some (23, false)), (88, some (21, false))], [0, 1, 2, 3, 4, 5, 6, 7, 8, 9, 10, 11, 12, 13, 14, 15, 16, 17, 18, 19, 20, 21, 23, 24], some (0, 1, true)⟩,
          ⟨[(89, some (22, false))], [0, 1, 2, 3, 4, 5, 6, 7, 8, 9, 10, 11, 12, 13, 14, 15, 16, 17, 18, 19, 20, 21, 22, 23, 24, 25], none⟩] [_, _, _, _] _ rfl rfl ?_
      refine da 16 ?_
      refine dq_pure rfl (fun s => .op rfl (.op rfl (.op rfl (.nil)))) (fun s hs _ => loc_slice rfl rfl rfl (by first | omega | assumption)) (by exact .cons (.inr fun _ _ _ => rfl) (.nil)) ?_
      refine da 1 ?_
      refine dq_pure rfl (fun s => .op rfl (.op rfl (.op rfl (.op rfl (.op rfl (.nil)))))) (fun s hs _ => loc_call (split_spec _ _ _ _ ⟨_, _⟩) rfl) (by exact .cons (.inr fun _ _ _ => rfl) (.nil)) ?_
      refine da 4 ?_
      refine dq_choose id (fun _ t => t) rfl (fun _ _ => ⟨rfl, id, trivial⟩) (fun s => .nil) rfl rfl (fun s hs => locM_new (loc_allocOwn (by simp))) (by exact .cons (.inl rfl) (.nil)) (fun _ _ => rfl) ?_
      refine da 1 ?_
      refine dq_write0 rfl (fun s => .op rfl (.op rfl (.nil))) rfl rfl (fun s hs => loc_storeN (ho := (by show OneAll [_, _]; infer_instance)) rfl rfl rfl) (by exact .cons (.inl rfl) (.nil)) ?_
      refine da 1 ?_
      refine dq_end (rs := [_, _, _, _]) 0 rfl (fun _ => rfl) (.cons rfl (.nil)) rfl (fun _ => rfl) (fun b8 _ => ?_)
      dsimp only [outG, outM, List.map, List.set, id]
      refine au 6 ?_
      refine run_cond rfl (fun h9 => ?_) (fun h9 => ?_)
      · exfalso; exact h9 hsp1.1
      ·
       refine au 4 ?_
       first | refine runL_fact (s := 94) rfl (fun _ _ h => dSl_len h) (fun hlen10 => ?_) | skip
       refine au 4 ?_
       refine run_inv (fun _ _ h => inv_tail h) ?_
       refine run_loopE (σ := Nat × List (Value × List Int)) (ks := [3, 5, 6, 9, 11, 15, 17, 60, 61, 94, 95]) (.cons rfl (.cons rfl (.cons rfl (.cons rfl (.cons rfl (.cons rfl (.cons rfl (.cons rfl (.cons rfl (.cons rfl (.cons rfl (.nil)))))))))))) (fun u => [(96, dInt .i64 (u.1 : Nat))]) (fun u => rRow (.slice (some ⟨b17, 0, none⟩) sv.toNat sv.toNat) 38 1 (fun u => [dSlV u]) (u.2.map (·.1)) :: rCells b11 50 [dVal (.slice none 0 0), dInt .i64 0] :: rCells b9 50 [dInts t.numbers, dInt .i64 t.at'] :: (fam 3 1 fI u.2 ++ F)) (fun u => u.1 ≤ sv.toNat ∧ u.2.length = sv.toNat ∧ u.2.map (·.2) = cqP p d index (drawL t p (rows * d)) sv.toNat u.1 q.1) (fun u => sv.toNat - u.1) ((0, q.2)) (⟨Nat.zero_le _, hq2, hq3⟩) (.cons rfl (by first | exact fun _ _ h => h | exact d_int (by omega) | exact d_int (by simp) | exact d_intN (by omega) | exact d_any) .nil) (rfl) ?_
       rintro u ⟨hu1, hu2, hu3⟩ ih11
       refine au 5 ?_
       refine run_cond rfl (fun h12 => ?_) (fun h12 => ?_)
       ·
        have hus : u.1 < sv.toNat := by have := h12; rw [hsp1.2, shares_len] at this; omega
        obtain ⟨pk, hpk⟩ : ∃ pk, u.2[u.1]? = some pk := ⟨u.2[u.1]'(by omega), List.getElem?_eq_getElem (by omega)⟩
        have hpk1 : (u.2.map (·.1))[u.1]?.getD default = pk.1 := by rw [List.getElem?_map, hpk]; rfl
        have hpk2 : pk.2 = (List.range q.1).map (fun r => cV p d index (drawL t p (rows * d)) u.1 r) := by rw [← cqP_get (d := d) (index := index) hus, ← hu3, List.getElem?_map, hpk]; rfl
        have hml : (u.2.map (·.1)).length = sv.toNat := by rw [List.length_map]; exact hu2
        have hpl : pk.2.length = q.1 := by rw [hpk2]; simp
        have hsh : (splitL p (if (q.1 : Int) = index then 1 else 0) d sv ⟨((drawL t p (rows * d)).take (((q.1 : Int) + 1) * d).toNat).drop ((q.1 : Int) * d).toNat, 0⟩)[u.1]?.getD default = ((u.1 : Int) + 1, cV p d index (drawL t p (rows * d)) u.1 q.1) := by rw [hsp1.2, shares_get hus]; rfl
        refine au 8 ?_
        refine runL_recast (s := 100) rfl (d_eq (d' := dAgg [dInt .i64 ((u.1 : Int) + 1), dInt .i64 (cV p d index (drawL t p (rows * d)) u.1 q.1)]) (by rw [hsh]; rfl)) ?_
        refine run_new (loc_allocOwn (by simp)) rfl (fun b13 _ => ?_)
        refine au 3 ?_
        refine run_inv (fun I w h => fam_out [_, _, _, _] u.1 hpk h) ?_
        refine dr_start _ (.one (σ := Value) 9 (fun _ => True)) [⟨[(17, none)], [], none⟩,
            ⟨[(23, none)], [], none⟩,
            ⟨[(17, none)], [], none⟩,
            ⟨[(23, none)], [], none⟩,
            ⟨[(103, some (2, false)), (104, some (3, false))], [2, 3], none⟩,
            ⟨[(105, some (4, false))], [2, 3, 4], some (2, 0, false)⟩,
            ⟨[(24, none)], [], none⟩,
            ⟨[(107, some (6, false))], [6], some (1, 0, false)⟩,
            ⟨[(108, some (7, false))], [6, 7], none⟩,
            ⟨[(106, some (5, false)), (109, some (8, false))], [2, 3, 4, 5, 6, 7, 8], some (0, 0, true)⟩,
            ⟨[(101, some (0, false)), (102, some (1, false))], [0, 1, 2, 3, 4, 5, 6, 7, 8, 9], none⟩,
            ⟨[(111, some (10, false)), (110, some (9, false))], [0, 1, 2, 3, 4, 5, 6, 7, 8, 9, 10], some (2, 0, true)⟩] [_, _, _, _, _] _ rfl rfl ?_
        refine da 5 ?_
        refine dq_read rfl (fun s => .op rfl (.nil)) rfl rfl (fun s hs _ hm => LocP.conv (loc_loadRow1 rfl hm (by omega)) (congrArg dSlV hpk1)) (by exact .cons (.inr fun _ _ _ => rfl) (.nil)) ?_
        refine da 2 ?_
        refine dq_pure rfl (fun s => .op rfl (.nil)) (fun s hs _ => loc_buildSlice rfl rfl (.one rfl (.nil)) rfl rfl) (by exact .cons (.inr fun _ _ _ => rfl) (.nil)) ?_
        refine dq_choose id (fun _ t => t) rfl (fun _ _ => ⟨rfl, id, trivial⟩) (fun s => .op rfl (.op rfl (.nil))) rfl rfl (fun s hs => loc_append1V _ rfl rfl rfl rfl (by first | omega | (simp [lenMax]; omega) | (simp [lenMax]; done) | assumption) (by first | omega | (simp [lenMax]; omega) | (simp [lenMax]; done) | assumption)) (by exact .cons (.inl rfl) (.nil)) (fun _ _ => rfl) ?_
        refine da 1 ?_
        refine dq_write0 rfl (fun s => .op rfl (.op rfl (.nil))) rfl rfl (fun s hs => loc_storeRow1 _ rfl rfl rfl (by first | omega | assumption)) (by exact .cons (.inl rfl) (.nil)) ?_
        refine dq_end (rs := [_, _, _, _, _]) (.bool true) rfl (fun _ => rfl) (.cons rfl (.nil)) rfl (fun _ => rfl) (fun v9 _ => ?_)
        dsimp only [outG, outM, List.map, List.set, id]
        refine au 5 ?_
        refine run_inv (M' := rRow (.slice (some ⟨b17, 0, none⟩) sv.toNat sv.toNat) 38 1 (fun u => [dSlV u]) ((u.2.set u.1 (v9, pk.2 ++ [cV p d index (drawL t p (rows * d)) u.1 q.1])).map (·.1)) :: rCells b11 50 [dVal (.slice none 0 0), dInt .i64 0] :: rCells b9 50 [dInts t.numbers, dInt .i64 t.at'] :: (fam 3 1 fI (u.2.set u.1 (v9, pk.2 ++ [cV p d index (drawL t p (rows * d)) u.1 q.1])) ++ F)) (fun I w h => by have h2 := fam_in [_, _, _, _] u.1 (p := (v9, pk.2 ++ [cV p d index (drawL t p (rows * d)) u.1 q.1])) (by omega) h; rw [List.map_set]; exact h2.sub (.cons _ (.refl _))) ?_
        exact run_againE ih11 ((u.1 + 1, u.2.set u.1 (v9, pk.2 ++ [cV p d index (drawL t p (rows * d)) u.1 q.1]))) (⟨by simp only; omega, by simp only [List.length_set]; exact hu2, by simp only [List.map_set]; rw [hu3, hpk2, cqP_set hus]⟩) (by simp only; omega) (.cons rfl (by first | exact fun _ _ h => h | exact d_int (by omega) | exact d_int (by simp) | exact d_intN (by omega) | exact d_any) .nil) (.cons rfl (fun _ _ x => x) (.cons rfl (fun _ _ x => x) (.cons rfl (fun _ _ x => x) (.cons rfl (fun _ _ x => x) (.cons rfl (fun _ _ x => x) (.cons rfl (fun _ _ x => x) (.cons rfl (fun _ _ x => x) (.cons rfl (fun _ _ x => x) (.cons rfl (fun _ _ x => x) (.cons rfl (fun _ _ x => x) (.cons rfl (fun _ _ x => x) (.nil)))))))))))) (rfl)
       ·
        have hus : u.1 = sv.toNat := by have := h12; rw [hsp1.2, shares_len] at this; omega
        refine au 6 ?_
        exact run_againE ih4 ((q.1 + 1, u.2)) (⟨by simp only; omega, hu2, by simp only; rw [hu3, hus, cqP_next]⟩) (by simp only; omega) (.cons rfl (by first | exact fun _ _ h => h | exact d_int (by omega) | exact d_int (by simp) | exact d_intN (by omega) | exact d_any) .nil) (.cons rfl (fun _ _ x => x) (.cons rfl (fun _ _ x => x) (.cons rfl (fun _ _ x => x) (.cons rfl (fun _ _ x => x) (.cons rfl (fun _ _ x => x) (.cons rfl (fun _ _ x => x) (.cons rfl (fun _ _ x => x) (.cons rfl (fun _ _ x => x) (.nil))))))))) (rfl)
     ·
      refine au 5 ?_
      refine run_op (LocM.frz0 (loc_appendNil rfl rfl rfl (by first | omega | (simp [lenMax]; omega) | (simp [lenMax]; done) | assumption) (by first | omega | (simp [lenMax]; omega) | (simp [lenMax]; done) | assumption))) rfl ?_
      refine au 8 ?_
      first | refine runL_fact (s := 120) rfl (fun _ _ h => dSl_len h) (fun hlen14 => ?_) | skip
      refine au 6 ?_
      refine dr_start _ (.none) [⟨[(17, none)], [], none⟩,
          ⟨[(9, none)], [], some (2, 0, false)⟩,
          ⟨[(124, some (0, false))], [0], none⟩,
          ⟨[(11, none), (125, some (1, false))], [0, 1, 2], some (1, 0, true)⟩,
          ⟨[], [0, 1, 2, 3], none⟩] [_, _, _] _ rfl rfl ?_
      refine da 3 ?_
      refine dq_write0 rfl (fun s => .g rfl (.op rfl (.nil))) rfl rfl (fun s hs => loc_storeN (ho := (by show OneAll [_, _]; infer_instance)) rfl rfl rfl) (by exact .nil) ?_
      refine da 1 ?_
      refine dq_end (rs := [_, _, _]) () rfl (fun _ => rfl) (.nil) rfl (fun _ => rfl) (fun _ _ => ?_)
      dsimp only [outG, outM, List.map, List.set, id]
      refine run_retG ((.slice (some ⟨b17, 0, none⟩) sv.toNat sv.toNat, q.2)) Tryz.func113 rfl (.tmp rfl (.cellN rfl (.there (.here)) (by rfl) (.tmp rfl (.nil)))) ?_ (by unfold cqL; rw [if_pos (hE.trans c3)]; simp only; rw [hq3, show q.1 = rows.toNat by omega, cqP_end]) (fun _ _ h => h.sub (.cons_cons _ (.cons _ (.cons _ (.refl _)))))
      exact d_tup3 (fun _ _ h => h) (d_toTape (t' := ⟨t.numbers, t.at' + rows * d⟩) (by unfold cqT; rw [if_pos (hE.trans c3)]; exact (drawT_ok c3).1) (d_aggU (.cons (fun _ _ h => h) (.cons (d_int (by simp only; omega)) .nil)))) (d_int (hE.trans c3).symm)
theorem cqueries_spec (p sv d rows index : Int) (t : Tape) : SpecP Tryz.prog 113 [dAgg [dInt .i64 p], dAgg [dInt .i64 sv, dInt .i64 d], dInt .i64 rows, dInt .i64 index, dTape t] (dTup [dRows (cqL p sv d rows index t), dTape (cqT p sv d rows index t), dInt .i64 (cqE p sv d rows index t)]) := spec_freezeRows3 (cqueriesM_spec p sv d rows index t)
end Go.Q

namespace Go.Q
open Classical

theorem drawE_sum {t : Tape} {n a b : Int} (ha : 0 ≤ a) (hb : 0 ≤ b) (h : drawE t n a = 0) : drawE t n (a + b) = drawE (drawT t n a) n b := by
 obtain ⟨h1, h2, _, h4, _⟩ := drawE_zero h
 obtain ⟨e1, e2⟩ := drawT_ok h
 have h0 := h
 unfold drawE at h
 rw [if_neg (Classical.not_not.2 h1), if_neg (by omega)] at h
 have h11 := h1.2.1
 unfold drawE
 rw [if_neg (Classical.not_not.2 h1), if_neg (by omega), if_neg (Classical.not_not.2 e2), if_neg (by omega), e1]
 simp only
 rw [show (a + b).toNat = a.toNat + b.toNat by omega, stepE_add h, List.drop_drop, show t.at'.toNat + a.toNat = (t.at' + a).toNat by omega]
theorem drawE_stop {t : Tape} {n a b : Int} (ha : 0 ≤ a) (hb : 0 ≤ b) (h : drawE t n a ≠ 0) : drawE t n (a + b) = drawE t n a := by
 unfold drawE at h ⊢
 by_cases h1 : okTape t
 ·rw [if_neg (Classical.not_not.2 h1)] at h ⊢
  rw [if_neg (Classical.not_not.2 h1)]
  by_cases h2 : 1 ≤ n ∧ n ≤ 2147483647
  ·rw [if_neg (by omega)] at h ⊢
   rw [if_neg (by omega)]
   rw [show (a + b).toNat = a.toNat + b.toNat by omega]
   exact stepE_more h
  ·rw [if_pos (.inl h2), if_pos (.inl h2)]
 ·rw [if_pos h1, if_pos h1]

noncomputable def parE (p rows s : Int) : Int := if ¬ okP p then 9 else if s < 2 ∨ s > 10 ∨ rows < 1 ∨ rows > 1024 then 1 else 0
theorem parE_zero {p rows s : Int} (h : parE p rows s = 0) : okP p ∧ (2 ≤ s ∧ s ≤ 10) ∧ (1 ≤ rows ∧ rows ≤ 1024) := by
 unfold parE at h
 split at h
 ·cases h
 ·split at h
  ·cases h
  ·rename_i h1 h2
   exact ⟨Classical.not_not.1 h1, by omega, by omega⟩
theorem parE_ok {p rows s : Int} (hp : okP p) (h1 : 2 ≤ s ∧ s ≤ 10) (h2 : 1 ≤ rows ∧ rows ≤ 1024) : parE p rows s = 0 := by
 unfold parE
 rw [if_neg (Classical.not_not.2 hp), if_neg (by omega)]
noncomputable def limsP (p rows s : Int) : List Int := if parE p rows s = 0 then List.replicate (rows * (s - 1)).toNat p else []
def unitL (n k : Nat) : List Int := (List.replicate n 0).set k 1
theorem unitL_len (n k : Nat) : (unitL n k).length = n := by simp [unitL]
theorem unitL_has {p : Int} (hp : 2 ≤ p) {n k : Nat} : ∀ x ∈ unitL n k, hasP p x := by
 intro x hx
 unfold unitL at hx
 rcases List.mem_or_eq_of_mem_set hx with h | rfl
 ·rw [List.eq_of_mem_replicate h]; unfold hasP; omega
 ·unfold hasP; omega
noncomputable def unitE (p n k : Int) : Int := if ¬ okP p then 9 else if n < 0 ∨ n > 1024 then 4 else if k < 0 ∨ k ≥ n then 1 else 0
def sumL (p : Int) (n : Nat) (ls : List (List Int)) : List Int := ls.foldl (fun a l => addT p 1 a l) (List.replicate n 0)
theorem sumL_ok {p : Int} (hp : 2 ≤ p) {n : Nat} : ∀ {ls : List (List Int)} {a : List Int}, a.length = n → (∀ x ∈ a, hasP p x) → (ls.foldl (fun a l => addT p 1 a l) a).length = n ∧ ∀ x ∈ ls.foldl (fun a l => addT p 1 a l) a, hasP p x
 | [], a, h1, h2 => ⟨h1, h2⟩
 | l :: ls, a, h1, h2 => sumL_ok hp (ls := ls) (a := addT p 1 a l) (by rw [addT_len]; exact h1) (addT_has (by omega) h2)
theorem rep0_has {p : Int} (hp : 2 ≤ p) (n : Nat) : ∀ x ∈ List.replicate n (0 : Int), hasP p x := fun x hx => by rw [List.eq_of_mem_replicate hx]; unfold hasP; omega
def pBase (t : Tape) : List Int := t.numbers.drop t.at'.toNat
def pQs (b : List Int) (rows k : Nat) : List (List Int) := (List.range k).map fun j => (b.drop (j * rows)).take rows
theorem pQs_len (b : List Int) (rows k : Nat) : (pQs b rows k).length = k := by simp [pQs]
theorem pQs_snoc (b : List Int) (rows k : Nat) : pQs b rows (k + 1) = pQs b rows k ++ [(b.drop (k * rows)).take rows] := by simp [pQs, List.range_succ]
noncomputable def pLast (p index rows : Int) (ls : List (List Int)) : List Int := addT p (p - 1) (unitL rows.toNat index.toNat) (sumL p rows.toNat ls)
noncomputable def pqE (p rows s index : Int) (t : Tape) : Int := if parE p rows s ≠ 0 then parE p rows s else if index < 0 ∨ index ≥ rows then 6 else drawE t p (rows * (s - 1))
noncomputable def pqL (p rows s index : Int) (t : Tape) : List (List Int) := if pqE p rows s index t = 0 then pQs (pBase t) rows.toNat (s - 1).toNat ++ [pLast p index rows (pQs (pBase t) rows.toNat (s - 1).toNat)] else []
noncomputable def pqT (p rows s index : Int) (t : Tape) : Tape := if pqE p rows s index t = 0 then drawT t p (rows * (s - 1)) else ⟨[], 0⟩
theorem pDraw {t : Tape} {p rows : Int} {k : Nat} (hr : 1 ≤ rows) (hk : drawE t p (rows * k) = 0) (he : drawE (drawT t p (rows * k)) p rows = 0) : drawL (drawT t p (rows * k)) p rows = ((pBase t).drop (k * rows.toNat)).take rows.toNat ∧ drawT (drawT t p (rows * k)) p rows = drawT t p (rows * ((k : Int) + 1)) ∧ drawE t p (rows * ((k : Int) + 1)) = 0 := by
 obtain ⟨h1, h2, h3, h4, _⟩ := drawE_zero hk
 obtain ⟨e1, e2⟩ := drawT_ok hk
 have h11 := h1.2.1
 have hmul : rows * ((k : Int) + 1) = rows * k + rows := by rw [Int.mul_add, Int.mul_one]
 have hd : drawE t p (rows * ((k : Int) + 1)) = 0 := by rw [hmul, drawE_sum h3 (by omega) hk]; exact he
 refine ⟨?_, ?_, hd⟩
 ·unfold drawL
  rw [if_pos he, e1]
  unfold pBase
  simp only
  rw [List.drop_drop]
  congr 2
  have : (rows * (k : Int)).toNat = k * rows.toNat := by
   have e : rows * (k : Int) = ((k * rows.toNat : Nat) : Int) := by rw [Int.natCast_mul, Int.mul_comm, show ((rows.toNat : Nat) : Int) = rows by omega]
   rw [e]; rfl
  omega
 ·rw [(drawT_ok he).1, (drawT_ok hd).1, e1, hmul]
  simp only [Int.add_assoc]
theorem pQs_all {t : Tape} {p rows : Int} {k : Nat} (hr : 1 ≤ rows) (hk : drawE t p (rows * k) = 0) : ∀ l ∈ pQs (pBase t) rows.toNat k, l.length = rows.toNat ∧ ∀ x ∈ l, hasP p x := by
 intro l hl
 obtain ⟨j, hj, rfl⟩ := List.mem_map.1 hl
 have hj := List.mem_range.1 hj
 obtain ⟨h1, h2, h3, h4, h5, h6⟩ := drawE_zero hk
 have h11 := h1.2.1
 have e : (rows * (k : Int)).toNat = k * rows.toNat := by
  have e : rows * (k : Int) = ((k * rows.toNat : Nat) : Int) := by rw [Int.natCast_mul, Int.mul_comm, show ((rows.toNat : Nat) : Int) = rows by omega]
  rw [e]; rfl
 unfold drawL at h5 h6
 rw [if_pos hk, e] at h5 h6
 change ((pBase t).take (k * rows.toNat)).length = _ at h5
 change ∀ x ∈ (pBase t).take (k * rows.toNat), _ at h6
 rw [List.length_take] at h5
 have hle : (j + 1) * rows.toNat ≤ k * rows.toNat := Nat.mul_le_mul_right _ (by omega)
 rw [Nat.add_mul, Nat.one_mul] at hle
 refine ⟨?_, fun x hx => h6 x ?_⟩
 ·simp only [List.length_take, List.length_drop]; omega
 ·obtain ⟨i, hi⟩ := List.getElem?_of_mem hx
  rw [List.getElem?_take] at hi
  split at hi
  ·rename_i hlt
   rw [List.getElem?_drop] at hi
   refine List.mem_of_getElem? (i := j * rows.toNat + i) ?_
   rw [List.getElem?_take, if_pos (by omega)]
   exact hi
  ·cases hi
noncomputable def tpK (t : Tape) (p rows : Int) (k : Nat) : Tape := if k = 0 then t else drawT t p (rows * k)
theorem tpK_E {t : Tape} {p rows : Int} {k : Nat} (hr : 1 ≤ rows) (hk : k = 0 ∨ drawE t p (rows * k) = 0) : drawE (tpK t p rows k) p rows = drawE t p (rows * ((k : Int) + 1)) := by
 unfold tpK
 split
 ·rename_i h; subst h; simp
 ·rename_i h
  rcases hk with hk | hk
  ·exact absurd hk h
  ·have := (drawE_zero hk).2.2.1
   rw [Int.mul_add, Int.mul_one, drawE_sum this (by omega) hk]
theorem tpK_ok {t : Tape} {p rows : Int} {k : Nat} (hr : 1 ≤ rows) (hk : k = 0 ∨ drawE t p (rows * k) = 0) (he : drawE (tpK t p rows k) p rows = 0) : drawL (tpK t p rows k) p rows = ((pBase t).drop (k * rows.toNat)).take rows.toNat ∧ drawT (tpK t p rows k) p rows = tpK t p rows (k + 1) ∧ drawE t p (rows * ((k + 1 : Nat) : Int)) = 0 := by
 have e := tpK_E hr hk
 rw [he] at e
 have e2 : drawE t p (rows * ((k + 1 : Nat) : Int)) = 0 := e.symm
 unfold tpK at he ⊢
 rw [if_neg (show ¬ k + 1 = 0 by omega)]
 split at he
 ·rename_i h
  subst h
  rw [if_pos rfl]
  refine ⟨?_, ?_, e2⟩
  ·unfold drawL; rw [if_pos he]; simp [pBase]
  ·simp
 ·rename_i h
  rcases hk with hk | hk
  ·exact absurd hk h
  ·obtain ⟨h1, h2, _⟩ := pDraw hr hk he
   rw [if_neg h]
   exact ⟨h1, h2, e2⟩

noncomputable def codE (p s d g : Int) : Int := if ¬ okP p then 9 else if s < 2 ∨ s > 10 ∨ s ≥ p ∨ d < 1 ∨ g < 1 ∨ d > s ∨ g > s ∨ 2 * g + d - 1 > s then 1 else 0
noncomputable def codRE (p s d g n : Int) : Int := if codE p s d g = 0 ∧ (n < 1 ∨ n > 1024) then 1 else codE p s d g
theorem codE_zero {p s d g : Int} (h : codE p s d g = 0) : okP p ∧ (2 ≤ s ∧ s ≤ 10) ∧ s < p ∧ (1 ≤ d ∧ d ≤ s) ∧ (1 ≤ g ∧ g ≤ s) ∧ 2 * g + d - 1 ≤ s := by
 unfold codE at h
 split at h
 ·cases h
 ·split at h
  ·cases h
  ·rename_i h1 h2
   exact ⟨Classical.not_not.1 h1, by omega, by omega, by omega, by omega, by omega⟩
theorem codE_ok {p s d g : Int} (hp : okP p) (h1 : 2 ≤ s ∧ s ≤ 10) (h2 : s < p) (h3 : 1 ≤ d ∧ d ≤ s) (h4 : 1 ≤ g ∧ g ≤ s) (h5 : 2 * g + d - 1 ≤ s) : codE p s d g = 0 := by
 unfold codE
 rw [if_neg (Classical.not_not.2 hp), if_neg (by omega)]
theorem codRE_zero {p s d g n : Int} (h : codRE p s d g n = 0) : codE p s d g = 0 ∧ (1 ≤ n ∧ n ≤ 1024) := by
 unfold codRE at h
 split at h
 ·cases h
 ·rename_i h1
  have h5 : ¬ (n < 1 ∨ n > 1024) := fun hr => h1 ⟨h, hr⟩
  exact ⟨h, by omega⟩
theorem codRE_ok {p s d g n : Int} (h : codE p s d g = 0) (hn : 1 ≤ n ∧ n ≤ 1024) : codRE p s d g n = 0 := by
 unfold codRE
 rw [if_neg (by omega), h]
noncomputable def limsG (p s d g n : Int) : List Int := if codRE p s d g n = 0 then List.replicate (n * d).toNat p else []
noncomputable def gW (p d g : Int) (dr : List Int) (j : Int) (r : Nat) : Int := powM p j g.toNat * valP p ((dr.take (((r : Int) + 1) * d).toNat).drop ((r : Int) * d).toNat) j % p
noncomputable def gV (p d g group : Int) (dr : List Int) (j : Int) (r : Nat) : Int := if (r : Int) = group then (gW p d g dr j r + 1) % p else gW p d g dr j r
noncomputable def gqE (p s d g n group : Int) (t : Tape) : Int := if codRE p s d g n ≠ 0 then codRE p s d g n else if group < 0 ∨ group ≥ n then 6 else drawE t p (n * d)
noncomputable def gRow (p d g group : Int) (dr : List Int) (j : Int) (n : Nat) : List Int := (List.range n).map fun r => gV p d g group dr j r
noncomputable def gQs (p d g group : Int) (dr : List Int) (n k : Nat) : List (List Int) := (List.range k).map fun j : Nat => gRow p d g group dr ((j : Int) + 1) n
theorem gRow_snoc (p d g group : Int) (dr : List Int) (j : Int) (n : Nat) : gRow p d g group dr j (n + 1) = gRow p d g group dr j n ++ [gV p d g group dr j n] := by simp [gRow, List.range_succ]
theorem gQs_snoc (p d g group : Int) (dr : List Int) (n k : Nat) : gQs p d g group dr n (k + 1) = gQs p d g group dr n k ++ [gRow p d g group dr ((k : Int) + 1) n] := by simp [gQs, List.range_succ]
noncomputable def gqL (p s d g n group : Int) (t : Tape) : List (List Int) := if gqE p s d g n group t = 0 then gQs p d g group (drawL t p (n * d)) n.toNat s.toNat else []
noncomputable def gqT (p s d g n group : Int) (t : Tape) : Tape := if gqE p s d g n group t = 0 then drawT t p (n * d) else ⟨[], 0⟩

end Go.Q
