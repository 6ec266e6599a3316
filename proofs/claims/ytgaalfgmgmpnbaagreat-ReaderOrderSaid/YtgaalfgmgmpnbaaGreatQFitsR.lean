/- Contracts of people and of their marks. -/
import Derived.Test.YtgaalfgmgmpnbaaGreatQParR
import Derived.Test.YtgaalfgmgmpnbaaGreatQMapB
import Derived.Test.YtgaalfgmgmpnbaaGreatQDraws
import Derived.Test.YtgaalfgmgmpnbaaGreatQParity
import Derived.Test.YtgaalfgmgmpnbaaGreatQPlainV10
set_option linter.unusedVariables false
set_option linter.unusedSimpArgs false
namespace Go.Q
open Go.Proofs
open Classical
theorem binSearchPs_spec (cm : Psn → Int) (xs : List (Psn)) (t : Int) : SpecP Tryz.prog 169 [dSl 2 cPsn xs, dInt .i64 t, dFun Tryz.prog (fun x : Psn => [dAgg (cPsn x), dInt .i64 t]) (fun x => dInt .i64 (cm x))] (dTup [dInt .i64 (bsF cm xs : Nat), dB (bsF cm xs < xs.length ∧ cm (xs[bsF cm xs]?.getD default) = 0)]) := by
  refine specP_of_body Tryz.func169 rfl rfl (fun I M => ?_)
  refine au 8 ?_
  first | refine runL_fact (s := 12) rfl (fun _ _ h => dSl_len h) (fun hlen1 => ?_) | skip
  refine au 11 ?_
  refine run_loopC (σ := Nat × Nat) (ks := [0, 1, 2, 8]) (.cons rfl (.cons rfl (.cons rfl (.cons rfl (.nil))))) (fun s => [(9, dInt .i64 (s.1 : Nat)), (10, dInt .i64 (s.2 : Nat))]) (fun s => s.1 ≤ s.2 ∧ s.2 ≤ xs.length ∧ bsGo (fun h => cm (xs[h]?.getD default) < 0) s.1 s.2 = bsGo (fun h => cm (xs[h]?.getD default) < 0) 0 xs.length) (fun s => s.2 - s.1) ((0, xs.length)) (⟨by simp, by simp, rfl⟩) (.cons rfl (by first | exact fun _ _ h => h | exact d_int (by omega) | exact d_int (by simp) | exact d_intN (by omega) | exact d_any) (.cons rfl (by first | exact fun _ _ h => h | exact d_int (by omega) | exact d_int (by simp) | exact d_intN (by omega) | exact d_any) .nil)) ?_
  rintro ⟨s1, s2⟩ ⟨hs1, hs2, hs3⟩ ih2
  simp only at hs1 hs2
  refine au 7 ?_
  refine run_cond rfl (fun h3 => ?_) (fun h3 => ?_)
  ·
   refine au 7 ?_
   first | refine run_op (loc_convU rfl (by first | omega | assumption)) rfl ?_ | refine run_op (loc_convW rfl) rfl ?_
   refine run_op (loc_shrN (c := 1) (q := 2) rfl rfl rfl (by decide) (by first | omega | assumption) (by decide)) rfl ?_
   refine runL_recast (s := 22) rfl (d_int (n := (((s1 + s2) / 2 : Nat) : Int)) (by omega)) ?_
   first | refine run_op (loc_conv rfl (by first | omega | assumption)) rfl ?_ | refine run_op (loc_convW rfl) rfl ?_
   refine au 10 ?_
   refine run_op (loc_callFun (xs[(s1 + s2) / 2]?.getD default) rfl rfl) rfl ?_
   refine au 2 ?_
   refine run_cond rfl (fun h4 => ?_) (fun h4 => ?_)
   ·
    rw [bsGo, if_pos (by omega), if_pos h4] at hs3
    refine au 6 ?_
    exact run_againC ih2 (((s1 + s2) / 2 + 1, s2)) (⟨by simp; omega, hs2, hs3⟩) (by simp; omega) (.cons rfl (by first | exact fun _ _ h => h | exact d_int (by omega) | exact d_int (by simp) | exact d_intN (by omega) | exact d_any) (.cons rfl (by first | exact fun _ _ h => h | exact d_int (by omega) | exact d_int (by simp) | exact d_intN (by omega) | exact d_any) .nil)) (.cons rfl (fun _ _ x => x) (.cons rfl (fun _ _ x => x) (.cons rfl (fun _ _ x => x) (.cons rfl (fun _ _ x => x) (.nil)))))
   ·
    rw [bsGo, if_pos (by omega), if_neg h4] at hs3
    refine au 5 ?_
    exact run_againC ih2 ((s1, (s1 + s2) / 2)) (⟨by simp; omega, by simp; omega, hs3⟩) (by simp; omega) (.cons rfl (by first | exact fun _ _ h => h | exact d_int (by omega) | exact d_int (by simp) | exact d_intN (by omega) | exact d_any) (.cons rfl (by first | exact fun _ _ h => h | exact d_int (by omega) | exact d_int (by simp) | exact d_intN (by omega) | exact d_any) .nil)) (.cons rfl (fun _ _ x => x) (.cons rfl (fun _ _ x => x) (.cons rfl (fun _ _ x => x) (.cons rfl (fun _ _ x => x) (.nil)))))
  ·
   refine au 14 ?_
   refine run_gop rfl rfl gdI.ok (fun hg => loc_callFun (xs[s1]?.getD default) rfl rfl) rfl ?_
   refine au 6 ?_
   refine run_ret2P Tryz.func169 rfl rfl rfl ?_
   have hse : s1 = bsF cm xs := by unfold bsF; rw [← hs3]; unfold bsGo; rw [if_neg (by omega)]
   subst hse
   exact d_tup2 (fun _ _ h => h) (d_B (by omega))
instance : TyMap Tryz.prog 226 3 4 := ⟨by kernel_rfl, by kernel_rfl⟩
def keyS (k : Nat) : List Int := (List.range k).map fun i : Nat => 1000 + ((i : Int) + 1)
theorem keyS_not {k : Nat} : (1000 + ((k : Int) + 1)) ∉ keyS k := fun h => by
 obtain ⟨i, hi, e⟩ := List.mem_map.1 h
 have := List.mem_range.1 hi
 omega
theorem keyS_snoc (k : Nat) : keyS (k + 1) = keyS k ++ [1000 + ((k : Int) + 1)] := by unfold keyS; rw [List.range_succ, List.map_append]; rfl
theorem mcheck_spec  : SpecP Tryz.prog 167 [dSl 2 cPsn peopleL] (dInt .i64 0) := by
  have hpl := people_len
  refine specP_of_body Tryz.func167 rfl rfl (fun I M => ?_)
  refine au 8 ?_
  first | refine runL_fact (s := 6) rfl (fun _ _ h => dSl_len h) (fun hlen1 => ?_) | skip
  refine au 3 ?_
  refine run_cond rfl (fun h2 => ?_) (fun h2 => ?_)
  · exfalso; omega
  ·
   refine au 3 ?_
   refine run_new (loc_makeSet) rfl (fun b9 _ => ?_)
   refine au 6 ?_
   first | refine runL_fact (s := 10) rfl (fun _ _ h => dSl_len h) (fun hlen3 => ?_) | skip
   refine au 4 ?_
   refine run_loopF (σ := Nat) (ks := [0, 3, 10, 11]) (.cons rfl (.cons rfl (.cons rfl (.cons rfl (.nil))))) (fun k => [(12, dInt .i64 (k : Nat))]) (fun k => [rSet b9 (keyS k)]) (fun k => k ≤ peopleL.length) (fun k => peopleL.length - k) (0) (Nat.zero_le _) (.cons rfl (by first | exact fun _ _ h => h | exact d_int (by omega) | exact d_int (by simp) | exact d_intN (by omega) | exact d_any) .nil) (rfl) ?_
   intro k hk ih4
   refine au 5 ?_
   refine run_cond rfl (fun h5 => ?_) (fun h5 => ?_)
   ·
    have hk0 := people_get (k := k) (by omega)
    have hk1 : (peopleL[k]?.getD default).id = (k : Int) + 1 := by rw [hk0]; rfl
    have hk2 : (peopleL[k]?.getD default).secret = 1000 + ((k : Int) + 1) := by rw [hk0]; rfl
    have hkm : 0 < k → (peopleL[((k : Int) - 1).toNat]?.getD default).id = (k : Int) := fun h => by rw [show ((k : Int) - 1).toNat = k - 1 by omega, people_get (by omega)]; show ((k - 1 : Nat) : Int) + 1 = k; omega
    refine au 8 ?_
    refine run_new (loc_allocOwn (by simp)) rfl (fun b6 _ => ?_)
    refine au 9 ?_
    refine run_op (loc_call (mwithin_spec _) rfl) rfl ?_
    refine au 4 ?_
    refine run_gop rfl rfl gdI.ok (fun hg => loc_call (mwithin_spec _) rfl) rfl ?_
    refine au 5 ?_
    refine run_cond rfl (fun h7 => ?_) (fun h7 => ?_)
    · exfalso; omega
    ·
     refine au 1 ?_
     refine dr_start _ (.none) [⟨[(4, none)], [], none⟩,
         ⟨[(29, some (0, false))], [0], none⟩,
         ⟨[(30, some (1, false))], [0, 1], none⟩,
         ⟨[(5, none)], [0, 1, 2], none⟩,
         ⟨[(32, some (3, true))], [0, 1, 2, 3], some (0, 0, false)⟩,
         ⟨[(0, none)], [0, 1, 2], none⟩,
         ⟨[(4, none)], [0, 1, 2], none⟩,
         ⟨[(35, some (6, true))], [0, 1, 2, 6], none⟩,
         ⟨[(34, some (5, true)), (36, some (7, true))], [0, 1, 2, 5, 6, 7], none⟩,
         ⟨[(37, some (8, true))], [0, 1, 2, 5, 6, 7, 8], none⟩,
         ⟨[(38, some (9, true))], [0, 1, 2, 5, 6, 7, 8, 9], none⟩,
         ⟨[(33, some (4, true)), (39, some (10, true))], [0, 1, 2, 3, 4, 5, 6, 7, 8, 9, 10], none⟩,
         ⟨[(31, some (2, false)), (40, some (11, false))], [0, 1, 2, 3, 4, 5, 6, 7, 8, 9, 10, 11], none⟩,
         ⟨[(41, some (12, false))], [0, 1, 2, 3, 4, 5, 6, 7, 8, 9, 10, 11, 12], none⟩] [_, _] _ rfl rfl ?_
     refine da 4 ?_
     refine dq_gread rfl (fun s => .opU rfl (.nil)) rfl rfl rfl (fun _ => gdI.ok) (fun s hs hg _ hm => loc_loadOwn1 rfl hm (by rfl)) (by exact .nil) ?_
     refine da 9 ?_
     refine dq_end (rs := [_, _]) () rfl (fun _ => rfl) (.nil) rfl (fun _ => rfl) (fun _ _ => ?_)
     dsimp only [outG, outM, List.map, List.set, id]
     refine run_cond rfl (fun h8 => ?_) (fun h8 => ?_)
     · exfalso; have h5 := h8; have h6 := hkm (by omega); omega
     ·
      refine au 5 ?_
      refine run_op (loc_notIn (kt := 3) (et := 4) rfl rfl (.there (.here)) (by rw [hk2]; exact keyS_not)) rfl ?_
      refine au 2 ?_
      refine run_cond rfl (fun h9 => ?_) (fun h9 => ?_)
      · exfalso; exact h9
      ·
       refine au 6 ?_
       refine run_upd0 (loc_insertB (kt := 3) (et := 4) trivial rfl rfl rfl (by rw [hk2]; exact keyS_not)) (.there (.here)) (fun _ _ => ?_)
       refine au 6 ?_
       refine run_drop (.cons _ (.refl _)) ?_
       exact run_againF ih4 (k + 1) (by omega) (by omega) (.cons rfl (by first | exact fun _ _ h => h | exact d_int (by omega) | exact d_int (by simp) | exact d_intN (by omega) | exact d_any) .nil) (.cons rfl (fun _ _ x => x) (.cons rfl (fun _ _ x => x) (.cons rfl (fun _ _ x => x) (.cons rfl (fun _ _ x => x) (.nil))))) (by simp only [appR]; rw [hk2, keyS_snoc])
   ·
    refine au 5 ?_
    refine run_drop (.cons _ (.refl _)) ?_
    refine run_retP Tryz.func167 rfl rfl ?_
    exact d_int rfl
theorem ncmp_spec (n : Int) (q : Psn) : SpecP Tryz.prog 168 [dInt .i64 n, dPsn q] (dInt .i64 (IntKind.i64.wrap (q.id - n))) := by
 refine specP_of_body Tryz.func168 rfl rfl (fun I M => ?_)
 refine au 13 ?_
 refine run_retP Tryz.func168 rfl rfl ?_
 exact fun _ _ h => h
theorem mfind1_spec (q : Psn) (n : Int) : SpecP Tryz.prog 170 [dPsn q, dInt .i64 n, dBox [dVal (.func (.func 168) #[] #[])]] (dInt .i64 (IntKind.i64.wrap (q.id - n))) := by
 refine specP_of_body Tryz.func170 rfl rfl (fun I M => ?_)
 refine au 8 ?_
 refine runL_recast (s := 6) rfl (val_fun (P := Tryz.prog) (Ds := fun x : Psn => [dInt .i64 n, dPsn x]) (d := fun x => dInt .i64 (IntKind.i64.wrap (x.id - n))) (fun x => ncmp_spec n x)) ?_
 refine au 2 ?_
 refine run_op (loc_callFun q rfl rfl) rfl ?_
 refine au 2 ?_
 refine run_retP Tryz.func170 rfl rfl ?_
 exact fun _ _ h => h
theorem bsPs_spec (n : Int) : SpecP Tryz.prog 169 [dSl 2 cPsn peopleL, dInt .i64 n, dClo 170 [dBox [dVal (.func (.func 168) #[] #[])]]] (dTup [dInt .i64 (bsF (fun q : Psn => IntKind.i64.wrap (q.id - n)) peopleL : Nat), dB (bsF (fun q : Psn => IntKind.i64.wrap (q.id - n)) peopleL < peopleL.length ∧ IntKind.i64.wrap ((peopleL[bsF (fun q : Psn => IntKind.i64.wrap (q.id - n)) peopleL]?.getD default).id - n) = 0)]) :=
 specP_pre (binSearchPs_spec (fun q : Psn => IntKind.i64.wrap (q.id - n)) peopleL n) (relL_last (ds := [dSl 2 cPsn peopleL, dInt .i64 n]) (clo_fun (P := Tryz.prog) (Ds := fun q : Psn => [dPsn q, dInt .i64 n]) (d := fun q => dInt .i64 (IntKind.i64.wrap (q.id - n))) (fun q => mfind1_spec q n)))
theorem bsPs_at {n : Int} (hn : 1 ≤ n ∧ n ≤ 10) : bsF (fun q : Psn => IntKind.i64.wrap (q.id - n)) peopleL = (n - 1).toNat := by
 have hw : ∀ a : Nat, a < 10 → IntKind.i64.wrap ((peopleL[a]?.getD default).id - n) = (a : Int) + 1 - n := fun a ha => by
  rw [people_get ha]
  exact IntWalk.i64_in _ (by show -9223372036854775808 ≤ (a : Int) + 1 - n ∧ (a : Int) + 1 - n ≤ 9223372036854775807; omega)
 have hl := people_len
 exact bsGo_at (Nat.zero_le _) (Nat.zero_le _) (by omega) (fun a ha => by show IntKind.i64.wrap _ < 0; rw [hw a (by omega)]; omega) (fun a h1 h2 => by show ¬ IntKind.i64.wrap _ < 0; rw [hw a (by omega)]; omega)
theorem mfind_spec (n : Int) (hn : 1 ≤ n ∧ n ≤ 10) : SpecP Tryz.prog 133 [dSl 2 cPsn peopleL, dInt .i64 n] (dTup [dPsn ⟨n, 1000 + n⟩, dB True]) := by
  have hpl := people_len
  have hb0 := bsPs_at hn
  have hg : peopleL[bsF (fun q : Psn => IntKind.i64.wrap (q.id - n)) peopleL]?.getD default = ⟨n, 1000 + n⟩ := by rw [hb0, people_get (by omega)]; unfold prs; rw [show (((n - 1).toNat : Nat) : Int) + 1 = n by omega]
  have hbt : bsF (fun q : Psn => IntKind.i64.wrap (q.id - n)) peopleL < peopleL.length ∧ IntKind.i64.wrap ((peopleL[bsF (fun q : Psn => IntKind.i64.wrap (q.id - n)) peopleL]?.getD default).id - n) = 0 := ⟨by rw [hb0]; omega, by rw [hg, Int.sub_self]; rfl⟩
  refine specP_of_body Tryz.func133 rfl rfl (fun I M => ?_)
  refine au 2 ?_
  refine run_new (loc_allocOwn (by simp)) rfl (fun b1 _ => ?_)
  refine au 6 ?_
  refine run_op (loc_call (mcheck_spec) rfl) rfl ?_
  refine au 3 ?_
  refine run_gop rfl rfl gdI.ok (fun hg => loc_call (mwithin_spec _) rfl) rfl ?_
  refine au 4 ?_
  refine run_cond rfl (fun h2 => ?_) (fun h2 => ?_)
  · exfalso; have := h2; omega
  ·
   refine au 3 ?_
   refine run_new (loc_allocOwn (by simp)) rfl (fun b3 _ => ?_)
   refine au 3 ?_
   refine run_freezeCells (s := 6) rfl (.here) ?_
   refine au 4 ?_
   refine run_op (loc_call (bsPs_spec n) rfl) rfl ?_
   refine au 12 ?_
   refine run_cond rfl (fun h4 => ?_) (fun h4 => ?_)
   · exfalso; exact h4 hbt
   ·
    refine au 10 ?_
    refine run_retGP Tryz.func133 rfl (.cellN rfl (.here) (by rfl) (.tmp rfl (.nil))) ?_ (fun _ _ h => inv_tail (h))
    exact d_tup2 (d_eq (by show dPsn (peopleL[bsF (fun q : Psn => IntKind.i64.wrap (q.id - n)) peopleL]?.getD default) = _; rw [hg])) (d_B Iff.rfl)
theorem mverify_spec (n : Int) (l : List Int) (m : Int) (hn : 1 ≤ n ∧ n ≤ 10) : SpecP Tryz.prog 86 [dSl 2 cPsn peopleL, dInt .i64 n, dInts l, dInt .i64 m] (dB (signE (1000 + n) l = 0 ∧ m = signM (1000 + n) l)) := by
  refine specP_of_body Tryz.func86 rfl rfl (fun I M => ?_)
  refine au 8 ?_
  refine run_op (loc_call (mfind_spec n hn) rfl) rfl ?_
  refine au 3 ?_
  refine run_new (loc_allocOwn (by simp)) rfl (fun b1 _ => ?_)
  refine au 9 ?_
  refine run_cond rfl (fun h2 => ?_) (fun h2 => ?_)
  · exfalso; exact h2 trivial
  ·
   refine au 6 ?_
   refine run_op (loc_call (sign_spec _ _) rfl) rfl ?_
   refine au 18 ?_
   refine run_drop (.cons _ (.refl _)) ?_
   refine run_retP Tryz.func86 rfl rfl ?_
   exact fun _ _ h => h
theorem pmark_spec (n : Nte) (hn : n.query.length ≤ 100000 ∧ n.values.length ≤ 100000) (hs : 0 ≤ n.server ∧ n.server ≤ 1000000) : SpecP Tryz.prog 40 [dNte n] (dInt .i64 (signM (1000 + n.server) (numsN n))) := by
 refine specP_of_body Tryz.func40 rfl rfl (fun I M => ?_)
 refine au 6 ?_
 refine dr_start _ (.none) [⟨[(1, none)], [], none⟩,
   ⟨[(6, some (0, false))], [0], none⟩,
   ⟨[(7, some (1, false))], [0, 1], none⟩,
   ⟨[(1, none)], [], none⟩,
   ⟨[(9, some (3, false))], [3], none⟩,
   ⟨[(8, some (2, false)), (10, some (4, false))], [0, 1, 2, 3, 4], none⟩,
   ⟨[(11, some (5, false))], [0, 1, 2, 3, 4, 5], none⟩,
   ⟨[(5, some (6, false))], [0, 1, 2, 3, 4, 5, 6], none⟩,
   ⟨[(5, some (6, false))], [0, 1, 2, 3, 4, 5, 6], none⟩,
   ⟨[(12, some (7, false))], [0, 1, 2, 3, 4, 5, 6, 7], none⟩,
   ⟨[(13, some (8, false))], [0, 1, 2, 3, 4, 5, 6, 7, 8, 9], none⟩] [] _ rfl rfl ?_
 refine da 4 ?_
 refine dq_pure rfl (fun s => .op rfl (.nil)) (fun s hs _ => loc_call (rnums_spec n hn) rfl) (by exact .nil) ?_
 refine dq_pure rfl (fun s => .op rfl (.op rfl (.nil))) (fun s hs _ => loc_call (rsign_spec _ _) rfl) (by exact .nil) ?_
 refine da 5 ?_
 refine dq_end (rs := []) () rfl (fun _ => rfl) (.nil) rfl (fun _ => rfl) (fun _ _ => ?_)
 dsimp only [outG, outM, List.map, List.set, id]
 refine au 5 ?_
 refine run_retP Tryz.func40 rfl rfl ?_
 exact fun _ _ h => h
end Go.Q

namespace Go.Q
def Ch.three {τ1 τ2 τ3 : Type} (x1 x2 x3 : Nat) (φ1 : τ1 → Prop) (φ2 : τ2 → Prop) (φ3 : τ3 → Prop) : Ch (τ1 × τ2 × τ3) :=
  ⟨[x1, x2, x3], fun i s => cond (Nat.beq i x1) (φ1 s.1) (cond (Nat.beq i x2) (φ2 s.2.1) (φ3 s.2.2)), fun i s s' => cond (Nat.beq i x1) (s'.2 = s.2) (cond (Nat.beq i x2) (s'.1 = s.1 ∧ s'.2.2 = s.2.2) (s'.1 = s.1 ∧ s'.2.1 = s.2.1)), fun a b s s' h1 h2 h3 he hp => by
    obtain ⟨s1, s2, s3⟩ := s
    obtain ⟨t1, t2, t3⟩ := s'
    cases h4 : Nat.beq a x1 <;> cases h5 : Nat.beq b x1 <;> cases h6 : Nat.beq a x2 <;> cases h7 : Nat.beq b x2 <;> rw [h4] at he <;> rw [h5] at hp <;> simp only [cond_true, cond_false, h5, h6, h7] at he hp ⊢ <;>
      first
      | (obtain ⟨rfl, rfl⟩ := he; exact hp)
      | (injection he with e1 e2; subst e1; subst e2; exact hp)
      | (exfalso
         simp only [List.mem_cons, List.not_mem_nil, or_false] at h1 h2
         rcases h1 with h1 | h1 | h1 <;> rcases h2 with h2 | h2 | h2 <;> subst h1 <;> (try subst h2) <;> simp_all [Nat.beq_refl]), fun _ => []⟩
theorem Ch.three_good {τ1 τ2 τ3 : Type} {x1 x2 x3 : Nat} {φ1 : τ1 → Prop} {φ2 : τ2 → Prop} {φ3 : τ3 → Prop} {s : τ1 × τ2 × τ3} (h21 : Nat.beq x2 x1 = false) (h31 : Nat.beq x3 x1 = false) (h32 : Nat.beq x3 x2 = false) (h : ∀ y ∈ (Ch.three x1 x2 x3 φ1 φ2 φ3).X, (Ch.three x1 x2 x3 φ1 φ2 φ3).Φ y s) : φ1 s.1 ∧ φ2 s.2.1 ∧ φ3 s.2.2 := by
 have h1 := h x1 (by show x1 ∈ [x1, x2, x3]; simp)
 have h2 := h x2 (by show x2 ∈ [x1, x2, x3]; simp)
 have h3 := h x3 (by show x3 ∈ [x1, x2, x3]; simp)
 simp only [Ch.three, h21, h31, h32, show Nat.beq x1 x1 = true from Nat.beq_refl x1, show Nat.beq x2 x2 = true from Nat.beq_refl x2, cond_true, cond_false] at h1 h2 h3
 exact ⟨h1, h2, h3⟩
end Go.Q

namespace Go.Q
variable {P : Program} {f : FuncId} {N : Nat} {I0 : Imm} {g : G} {M F : List Res} {k : List Item} {R : Goal} {α : Type}
def mixD (n : Nat) (c : α → List D) (e : Option Value × List α) : D := match e.1 with | some h => dSlV h | none => dSl n c e.2
abbrev cMix (n : Nat) (c : α → List D) (e : Option Value × List α) : List D := [mixD n c e]
instance (n : Nat) (c : α → List D) (e : Option Value × List α) : One (mixD n c e) := by
 obtain ⟨e1, e2⟩ := e
 cases e1 with
 | none => exact inferInstanceAs (One (dSl n c e2))
 | some h => exact inferInstanceAs (One (dSlV h))
instance (n : Nat) (c : α → List D) (e : Option Value × List α) : OneAll (cMix n c e) := inferInstanceAs (OneAll [_])
def mixL (fa : List (Value × List α)) (xs : List (List α)) : List (Option Value × List α) := fa.map (fun p => (some p.1, p.2)) ++ (xs.drop fa.length).map fun a => (none, a)
theorem mixL_len {fa : List (Value × List α)} {xs : List (List α)} (h : fa.length ≤ xs.length) : (mixL fa xs).length = xs.length := by
 unfold mixL; rw [List.length_append, List.length_map, List.length_map, List.length_drop]; omega
theorem mixL_nil {xs : List (List α)} : mixL [] xs = xs.map fun a => (none, a) := rfl
theorem mixL_set {fa : List (Value × List α)} {xs : List (List α)} {v : Value} {a : List α} (h : fa.length < xs.length) : (mixL fa xs).set fa.length (some v, a) = mixL (fa ++ [(v, a)]) xs := by
 unfold mixL
 rw [List.set_append, if_neg (by simp), List.length_map, Nat.sub_self, List.drop_eq_getElem_cons h, List.map_cons, List.set_cons_zero, List.map_append, List.length_append, List.length_singleton]
 simp
theorem mixL_get {fa : List (Value × List α)} {xs : List (List α)} {v : Value} {a : List α} : (mixL (fa ++ [(v, a)]) xs)[fa.length]?.getD default = (some v, a) := by
 unfold mixL
 rw [List.map_append, List.append_assoc, List.getElem?_append_right (by simp)]
 simp
theorem mixL_next {fa : List (Value × List α)} {xs : List (List α)} (h : fa.length < xs.length) : (mixL fa xs)[fa.length]?.getD default = (none, xs[fa.length]?.getD default) := by
 unfold mixL
 rw [List.getElem?_append_right (by simp), List.length_map, Nat.sub_self, List.getElem?_map, List.getElem?_drop, Nat.add_zero, List.getElem?_eq_getElem h]
 rfl
theorem mixL_end {fa : List (Value × List α)} {xs : List (List α)} (h : fa.length = xs.length) : mixL fa xs = fa.map fun p => (some p.1, p.2) := by
 unfold mixL; rw [h, List.drop_length]; simp
theorem rRow_map {β : Type} (v : Value) (T n : Nat) (c : β → List D) (h : α → β) (xs : List α) : rRow v T n c (xs.map h) = rRow v T n (fun x => c (h x)) xs := by
 have e : ∀ (p q : Imm → Option Obj → Prop) (hp hq) (b : Option Nat), p = q → (Res.mk b p hp : Res) = Res.mk b q hq := by intro p q hp hq b e; subst e; rfl
 unfold rRow
 refine e _ _ _ _ _ ?_
 funext I o
 cases o with
 | none => simp
 | some ob => simp [List.flatMap_map]
theorem mix_start {v : Value} {T n : Nat} {c : α → List D} {xs : List (List α)} : rRow v T 1 (fun x => [dSl n c x]) xs = rRow v T 1 (cMix n c) (mixL [] xs) := by
 rw [mixL_nil, rRow_map]; rfl
theorem mix_end {v : Value} {T n : Nat} {c : α → List D} {xs : List (List α)} {fa : List (Value × List α)} (h : fa.length = xs.length) : rRow v T 1 (cMix n c) (mixL fa xs) = rRow v T 1 (fun u => [dSlV u]) (fa.map (·.1)) := by
 rw [mixL_end h, rRow_map, rRow_map]; rfl
theorem fam_snoc {T n : Nat} {c : α → List D} {fa : List (Value × List α)} (A : List Res) {h : Value} {a : List α} {I : Imm} {w : World} (hi : Inv I (rRow h T n c a :: (A ++ (fam T n c fa ++ F))) w) : Inv I (A ++ (fam T n c (fa ++ [(h, a)]) ++ F)) w := by
 refine hi.perm ?_
 have e : fam T n c (fa ++ [(h, a)]) = fam T n c fa ++ [rRow h T n c a] := by unfold fam; rw [List.map_append]; rfl
 rw [e]
 refine List.perm_middle.symm.trans (List.Perm.append_left A ?_)
 rw [List.append_assoc, List.singleton_append]
 exact List.perm_middle.symm
theorem nest_freeze {v : Value} {T T' n : Nat} {c : α → List D} {fa : List (Value × List α)} {I : Imm} {w : World} (hi : Inv I (rRow v T 1 (fun u => [dSlV u]) (fa.map (·.1)) :: (fam T' n c fa ++ F)) w) :
  ∃ J, I.le J ∧ (dSl 1 (fun x => [dSl n c x]) (fa.map (·.2))).rel J v ∧ Inv J F w := by
 obtain ⟨J', h4, h5, h6⟩ := row_freeze hi
 obtain ⟨K, h7, h8, h9⟩ := rows_freeze fa h6
 refine ⟨K, h4.trans h7, ?_, h9⟩
 refine sl_up (by simp) (fun i x y hx hy => ⟨rfl, fun cs hr => ?_⟩) (D.mono _ h7 h5)
 rw [List.getElem?_map] at hx hy
 match hp : fa[i]?, cs, hr with
 | some p, [u], hr =>
  rw [hp] at hx hy
  simp only [Option.map_some, Option.some.injEq] at hx hy
  subst hx; subst hy
  have := h8 p (List.mem_of_getElem? hp)
  rw [← show u = p.1 from hr.1.1] at this
  exact ⟨this, trivial⟩
 | none, _, _ => rw [hp] at hx; cases hx
theorem nest_spec {σ : Type} {Ds : List D} {Min : List Res} {φ : σ → Prop} {d d' : σ → D} {Mo0 Mo : σ → List Res} {v : σ → Value} {fa : σ → List (Value × List α)} {T T' n : Nat} {c : α → List D} (h : Spec P f Ds Min φ d Mo0)
  (hM : ∀ s F I w, φ s → Inv I (Mo0 s ++ F) w → Inv I (rRow (v s) T 1 (fun u => [dSlV u]) ((fa s).map (·.1)) :: (fam T' n c (fa s) ++ (Mo s ++ F))) w)
  (hd : ∀ s J J' u, φ s → J.le J' → (d s).rel J u → (dSl 1 (fun x => [dSl n c x]) ((fa s).map (·.2))).rel J' (v s) → (d' s).rel J' u) : Spec P f Ds Min φ d' Mo := by
 intro I F w vs hv hi
 refine (h I F w vs hv hi).mono ?_
 rintro e w' ⟨u, rfl, s, hs, J, h1, h2, h3⟩
 obtain ⟨J', h4, h5, h6⟩ := nest_freeze (hM s F J w' hs h3)
 exact ⟨u, rfl, s, hs, J', h1.trans h4, hd s J J' u hs h4 h2 h5, h6⟩
end Go.Q

namespace Go.Q
open Go.Proofs
open Classical
theorem cloneQM_spec (xs : List (List (List Int))) (hb : xs.length * 24 ≤ 140737488355328) : Spec Tryz.prog 129 [dSl 1 fQ xs] [] (σ := Value) (fun _ => True) (fun v => dVal v) (fun v => [rRow v 30 1 fQ xs]) := by
  refine spec_of_body Tryz.func129 rfl rfl (fun I F => ?_)
  refine au 1 ?_
  refine run_fact (s := 0) rfl (fun _ _ h => dSl_len h) (fun hlen => ?_)
  refine au 7 ?_
  refine run_ex (loc_eqlNil rfl) rfl (fun e1 he1 => ?_)
  refine au 1 ?_
  refine run_cond rfl (fun h2 => ?_) (fun h2 => ?_)
  ·
   refine au 4 ?_
   refine run_ret (.slice none 0 0) Tryz.func129 rfl rfl ?_ (trivial) (fun _ _ h => by rw [he1 (by assumption)]; exact nil_ok h)
   exact fun _ _ h => h
  ·
   refine au 3 ?_
   refine run_new (loc_build0 fQ) rfl (fun b3 _ => ?_)
   refine au 1 ?_
   refine run_append rfl (.here) rfl (by rfl) (by first | omega | (simp [lenMax]; omega) | (simp [lenMax]; done) | assumption) (by first | omega | (simp [lenMax]; omega) | (simp [lenMax]; done) | assumption) rfl (fun v4 => ?_)
   refine au 2 ?_
   refine run_ret (v4) Tryz.func129 rfl rfl ?_ (trivial) (fun _ _ h => h)
   exact fun _ _ h => h
theorem cloneAsM_spec (xs : List (List Ans)) (hb : xs.length * 24 ≤ 140737488355328) : Spec Tryz.prog 130 [dSl 1 fAs xs] [] (σ := Value) (fun _ => True) (fun v => dVal v) (fun v => [rRow v 137 1 fAs xs]) := by
  refine spec_of_body Tryz.func130 rfl rfl (fun I F => ?_)
  refine au 1 ?_
  refine run_fact (s := 0) rfl (fun _ _ h => dSl_len h) (fun hlen => ?_)
  refine au 7 ?_
  refine run_ex (loc_eqlNil rfl) rfl (fun e1 he1 => ?_)
  refine au 1 ?_
  refine run_cond rfl (fun h2 => ?_) (fun h2 => ?_)
  ·
   refine au 4 ?_
   refine run_ret (.slice none 0 0) Tryz.func130 rfl rfl ?_ (trivial) (fun _ _ h => by rw [he1 (by assumption)]; exact nil_ok h)
   exact fun _ _ h => h
  ·
   refine au 3 ?_
   refine run_new (loc_build0 fAs) rfl (fun b3 _ => ?_)
   refine au 1 ?_
   refine run_append rfl (.here) rfl (by rfl) (by first | omega | (simp [lenMax]; omega) | (simp [lenMax]; done) | assumption) (by first | omega | (simp [lenMax]; omega) | (simp [lenMax]; done) | assumption) rfl (fun v4 => ?_)
   refine au 2 ?_
   refine run_ret (v4) Tryz.func130 rfl rfl ?_ (trivial) (fun _ _ h => h)
   exact fun _ _ h => h
def szR (r : Rdr) : Prop := r.rows.length ≤ 100000 ∧ r.queries.length ≤ 1000 ∧ (∀ q ∈ r.queries, q.length ≤ 1000 ∧ ∀ x ∈ q, x.length ≤ 100000) ∧ r.answers.length ≤ 1000 ∧ (∀ a ∈ r.answers, a.length ≤ 1000 ∧ ∀ x ∈ a, x.row.length ≤ 100000) ∧ r.marks.length ≤ 1000 ∧ ∀ m ∈ r.marks, m.length ≤ 1000
theorem own3 {A B C c1 c2 : Res} {X Y Z F : List Res} {I : Imm} {w : World} (h : Inv I (C :: B :: A :: c1 :: c2 :: (X ++ (Y ++ (Z ++ F)))) w) : Inv I (A :: B :: C :: ((X ++ (Y ++ Z)) ++ F)) w := by
 have h2 : Inv I (C :: B :: A :: ((X ++ (Y ++ Z)) ++ F)) w := by
  rw [List.append_assoc, List.append_assoc]
  exact h.sub (.cons_cons _ (.cons_cons _ (.cons_cons _ (.cons _ (.cons _ (.refl _))))))
 refine h2.perm ?_
 exact ((List.Perm.swap B C _).trans ((List.Perm.swap A C _).cons B)).trans (List.Perm.swap A B _)
theorem rownM_spec (r : Rdr) (hr : szR r) : Spec Tryz.prog 84 [dRdr r] [] (σ := Value × Value × Value × List (Value × List (List Int)) × List (Value × List Ans) × List (Value × List Int)) (fun s => s.2.2.2.1.map (·.2) = r.queries ∧ s.2.2.2.2.1.map (·.2) = r.answers ∧ s.2.2.2.2.2.map (·.2) = r.marks) (fun s => dAgg [dInt .i64 r.read, dInt .i64 r.scheme.kind, dInt .i64 r.scheme.servers, dInt .i64 r.scheme.degree, dInt .i64 r.scheme.group, dInt .i64 r.head.number, dInt .i64 r.head.p, dInt .i64 r.head.count, dInt .i64 r.head.width, dInt .i64 r.head.root, dInts r.rows, dSlV s.1, dSlV s.2.1, dSlV s.2.2.1, dB r.ended]) (fun s => rRow s.1 30 1 (fun u => [dSlV u]) (s.2.2.2.1.map (·.1)) :: rRow s.2.1 137 1 (fun u => [dSlV u]) (s.2.2.2.2.1.map (·.1)) :: rRow s.2.2.1 44 1 (fun u => [dSlV u]) (s.2.2.2.2.2.map (·.1)) :: (fam 3 1 fI s.2.2.2.2.2 ++ (fam 136 2 cAns s.2.2.2.2.1 ++ fam 44 1 fR s.2.2.2.1))) := by
  obtain ⟨hz1, hz2, hz3, hz4, hz5, hz6, hz7⟩ := hr
  refine spec_of_body Tryz.func84 rfl rfl (fun I F => ?_)
  refine au 2 ?_
  refine run_new (loc_boxOwnN rfl) rfl (fun b1 _ => ?_)
  refine run_new (loc_allocOwn (by simp)) rfl (fun b2 _ => ?_)
  refine au 2 ?_
  refine run_addNone ?_
  refine run_addNone ?_
  refine run_addNone ?_
  refine dr_start _ (.three (τ1 := Value) (τ2 := Value) (τ3 := Value) 5 8 11 (fun _ => True) (fun _ => True) (fun _ => True)) [⟨[(1, none)], [], none⟩,
      ⟨[(13, some (0, false))], [0], some (4, 0, false)⟩,
      ⟨[(14, some (1, false))], [0, 1], none⟩,
      ⟨[(1, none)], [], none⟩,
      ⟨[(16, some (3, false))], [3], some (4, 0, false)⟩,
      ⟨[(17, some (4, false))], [0, 1, 2, 3, 4], some (2, 0, true)⟩,
      ⟨[(1, none)], [], none⟩,
      ⟨[(19, some (6, false))], [6], some (4, 0, false)⟩,
      ⟨[(20, some (7, false))], [0, 1, 2, 3, 4, 5, 6, 7], some (1, 0, true)⟩,
      ⟨[(1, none)], [], none⟩,
      ⟨[(22, some (9, false))], [9], some (4, 0, false)⟩,
      ⟨[(23, some (10, false))], [0, 1, 2, 3, 4, 5, 6, 7, 8, 9, 10], some (0, 0, true)⟩,
      ⟨[(1, none)], [0, 1, 2, 3, 4, 6, 7, 9, 10], none⟩,
      ⟨[(25, some (12, false)), (15, some (2, false))], [0, 1, 2, 3, 4, 5, 6, 7, 8, 9, 10, 11, 12], some (4, 0, true)⟩,
      ⟨[(1, none)], [0, 1, 2, 3, 4, 5, 6, 7, 8, 9, 10, 11, 12, 13], none⟩,
      ⟨[(26, some (14, false)), (18, some (5, false))], [0, 1, 2, 3, 4, 5, 6, 7, 8, 9, 10, 11, 12, 13, 14], some (4, 1, true)⟩,
      ⟨[(1, none)], [0, 1, 2, 3, 4, 5, 6, 7, 8, 9, 10, 11, 12, 13, 14, 15], none⟩,
      ⟨[(27, some (16, false)), (21, some (8, false))], [0, 1, 2, 3, 4, 5, 6, 7, 8, 9, 10, 11, 12, 13, 14, 15, 16], some (4, 2, true)⟩,
      ⟨[(1, none)], [0, 1, 2, 3, 4, 5, 6, 7, 8, 9, 10, 11, 12, 13, 14, 15, 16, 17], none⟩,
      ⟨[(28, some (18, false)), (24, some (11, false))], [0, 1, 2, 3, 4, 5, 6, 7, 8, 9, 10, 11, 12, 13, 14, 15, 16, 17, 18], some (4, 3, true)⟩] [_, _, _, _, _] _ rfl rfl ?_
  refine da 2 ?_
  refine dq_pure rfl (fun s => .op rfl (.nil)) (fun s hs _ => loc_call (cloneI_spec _ (by omega)) rfl) (by exact .cons (.inr fun _ _ _ => rfl) (.cons (.inr fun _ _ _ => rfl) (.cons (.inr fun _ _ _ => rfl) (.nil)))) ?_
  refine da 2 ?_
  refine dq_choose Prod.fst (fun s t => (t, s.2)) rfl (fun _ _ => ⟨rfl, id, rfl⟩) (fun s => .op rfl (.nil)) rfl rfl (fun s hs => locM_new (loc_callM (spec_rowV (cloneQM_spec _ (by omega))) rfl)) (by exact .cons (.inl rfl) (.cons (.inr (.inr fun ⟨a, b, c⟩ ⟨d, e, f⟩ h => by have h : d = a ∧ f = c := h; obtain ⟨rfl, rfl⟩ := h; exact rfl)) (.cons (.inr (.inr fun ⟨a, b, c⟩ ⟨d, e, f⟩ h => by have h : d = a ∧ e = b := h; obtain ⟨rfl, rfl⟩ := h; exact rfl)) (.nil)))) (fun _ _ => rfl) ?_
  refine da 2 ?_
  refine dq_choose (fun s => s.2.1) (fun s t => (s.1, t, s.2.2)) rfl (fun _ _ => ⟨rfl, id, ⟨rfl, rfl⟩⟩) (fun s => .op rfl (.nil)) rfl rfl (fun s hs => locM_new (loc_callM (spec_rowV (cloneAsM_spec _ (by omega))) rfl)) (by exact .cons (.inr (.inl rfl)) (.cons (.inl rfl) (.cons (.inr (.inr fun ⟨a, b, c⟩ ⟨d, e, f⟩ h => by have h : d = a ∧ e = b := h; obtain ⟨rfl, rfl⟩ := h; exact rfl)) (.nil)))) (fun _ _ => rfl) ?_
  refine da 2 ?_
  refine dq_choose (fun s => s.2.2) (fun s t => (s.1, s.2.1, t)) rfl (fun _ _ => ⟨rfl, id, ⟨rfl, rfl⟩⟩) (fun s => .op rfl (.nil)) rfl rfl (fun s hs => locM_new (loc_callM (spec_rowV (cloneRM_spec _ (by omega))) rfl)) (by exact .cons (.inr (.inl rfl)) (.cons (.inr (.inl rfl)) (.cons (.inl rfl) (.nil)))) (fun _ _ => rfl) ?_
  refine da 1 ?_
  refine dq_write0 rfl (fun s => .op rfl (.op rfl (.nil))) rfl rfl (fun s hs => loc_store1 rfl rfl rfl) (by exact .cons (.inl rfl) (.cons (.inl rfl) (.cons (.inl rfl) (.nil)))) ?_
  refine da 1 ?_
  refine dq_write0 rfl (fun s => .op rfl (.op rfl (.nil))) rfl rfl (fun s hs => loc_store1 rfl rfl rfl) (by exact .cons (.inl rfl) (.cons (.inl rfl) (.cons (.inl rfl) (.nil)))) ?_
  refine da 1 ?_
  refine dq_write0 rfl (fun s => .op rfl (.op rfl (.nil))) rfl rfl (fun s hs => loc_store1 rfl rfl rfl) (by exact .cons (.inl rfl) (.cons (.inl rfl) (.cons (.inl rfl) (.nil)))) ?_
  refine da 1 ?_
  refine dq_write0 rfl (fun s => .op rfl (.op rfl (.nil))) rfl rfl (fun s hs => loc_store1 rfl rfl rfl) (by exact .cons (.inl rfl) (.cons (.inl rfl) (.cons (.inl rfl) (.nil)))) ?_
  refine dq_end (rs := [_, _, _, _, _]) ((.bool true), (.bool true), (.bool true)) rfl (fun _ => rfl) (.cons rfl (.cons rfl (.cons rfl (.nil)))) rfl (fun _ => rfl) (fun s9 _ => ?_)
  obtain ⟨vq, va, vm⟩ := s9
  dsimp only [outG, outM, List.map, List.set, id]
  refine au 2 ?_
  have hml0 := mixL_len (fa := ([] : List (Value × List (List Int)))) (xs := r.queries) (Nat.zero_le _)
  refine run_front (.there (.there (.there (.here)))) ?_
  refine run_front (.there (.there (.there (.there (.here))))) ?_
  refine run_front (.there (.there (.here))) ?_
  refine run_front (.there (.there (.there (.here)))) ?_
  refine run_front (.there (.there (.there (.there (.here))))) ?_
  refine run_inv (M' := rRow vq 30 1 (fun e => [mixD 1 fR e]) (mixL [] r.queries) :: rRow va 137 1 fAs r.answers :: rRow vm 44 1 fR r.marks :: rCells b1 76 [dInt .i64 r.read, dInt .i64 r.scheme.kind, dInt .i64 r.scheme.servers, dInt .i64 r.scheme.degree, dInt .i64 r.scheme.group, dInt .i64 r.head.number, dInt .i64 r.head.p, dInt .i64 r.head.count, dInt .i64 r.head.width, dInt .i64 r.head.root, dInts r.rows, dSlV vq, dSlV va, dSlV vm, dB r.ended] :: rCells b2 76 [dInt .i64 0, dInt .i64 0, dInt .i64 0, dInt .i64 0, dInt .i64 0, dInt .i64 0, dInt .i64 0, dInt .i64 0, dInt .i64 0, dInt .i64 0, dVal (.slice none 0 0), dVal (.slice none 0 0), dVal (.slice none 0 0), dVal (.slice none 0 0), dB False] :: (fam 44 1 fR [] ++ F)) (fun I w h => by rw [← mix_start]; exact h) ?_
  refine au 2 ?_
  first | refine run_op (LocP.upV (loc_loadOwn1 rfl (.there (.there (.there (.here)))) (by rfl))) rfl ?_ | refine run_op (loc_loadOwn1 rfl (.there (.there (.there (.here)))) (by rfl)) rfl ?_
  refine au 4 ?_
  refine run_loopE (σ := List (Value × List (List Int))) (ks := [1, 2, 30, 31]) (.cons rfl (.cons rfl (.cons rfl (.cons rfl (.nil))))) (fun q => [(32, dInt .i64 (q.length : Nat))]) (fun q => rRow vq 30 1 (fun e => [mixD 1 fR e]) (mixL q r.queries) :: rRow va 137 1 fAs r.answers :: rRow vm 44 1 fR r.marks :: rCells b1 76 [dInt .i64 r.read, dInt .i64 r.scheme.kind, dInt .i64 r.scheme.servers, dInt .i64 r.scheme.degree, dInt .i64 r.scheme.group, dInt .i64 r.head.number, dInt .i64 r.head.p, dInt .i64 r.head.count, dInt .i64 r.head.width, dInt .i64 r.head.root, dInts r.rows, dSlV vq, dSlV va, dSlV vm, dB r.ended] :: rCells b2 76 [dInt .i64 0, dInt .i64 0, dInt .i64 0, dInt .i64 0, dInt .i64 0, dInt .i64 0, dInt .i64 0, dInt .i64 0, dInt .i64 0, dInt .i64 0, dVal (.slice none 0 0), dVal (.slice none 0 0), dVal (.slice none 0 0), dVal (.slice none 0 0), dB False] :: (fam 44 1 fR q ++ F)) (fun q => q.length ≤ r.queries.length ∧ q.map (·.2) = r.queries.take q.length) (fun q => r.queries.length - q.length) ([]) (⟨Nat.zero_le _, rfl⟩) (.cons rfl (by first | exact fun _ _ h => h | exact d_int (by omega) | exact d_int (by simp) | exact d_intN (by omega) | exact d_any) .nil) (rfl) ?_
  rintro q ⟨hq1, hq2⟩ ih4
  have hql := mixL_len hq1
  refine au 5 ?_
  refine run_cond rfl (fun h5 => ?_) (fun h5 => ?_)
  ·
   have hqz := hz3 _ (getD_mem (xs := r.queries) (k := q.length) (by omega))
   have hmn : mixD 1 fR ((mixL q r.queries)[q.length]?.getD default) = dRows (r.queries[q.length]?.getD default) := by rw [mixL_next (by omega)]; rfl
   refine run_rowForm (.here) (by omega) (fun bq capq hvq => ?_)
   rw [hvq]
   refine au 7 ?_
   refine run_op (LocP.conv (loc_loadRow1 rfl .here (by omega)) hmn) rfl ?_
   refine au 4 ?_
   refine run_addNone ?_
   refine dr_start _ (.one (σ := Value) 4 (fun _ => True)) [⟨[(1, none)], [], none⟩,
       ⟨[(37, some (0, false))], [0], some (4, 0, false)⟩,
       ⟨[(3, none)], [], none⟩,
       ⟨[(4, none)], [], none⟩,
       ⟨[(40, some (3, false))], [3], some (0, 0, true)⟩,
       ⟨[(38, some (1, false)), (39, some (2, false))], [0, 1, 2, 3, 4], none⟩,
       ⟨[(42, some (5, false)), (41, some (4, false))], [0, 1, 2, 3, 4, 5], some (1, 0, true)⟩] [_, _, _, _, _, _] _ rfl rfl ?_
   refine da 1 ?_
   first | refine dq_read rfl (fun s => .op rfl (.nil)) rfl rfl (fun s hs _ hm => LocP.upV (loc_loadOwn1 rfl hm (by rfl))) (by exact .cons (.inr fun _ _ _ => rfl) (.nil)) ?_ | refine dq_read rfl (fun s => .op rfl (.nil)) rfl rfl (fun s hs _ hm => loc_loadOwn1 rfl hm (by rfl)) (by exact .cons (.inr fun _ _ _ => rfl) (.nil)) ?_
   refine da 2 ?_
   refine dq_choose id (fun _ t => t) rfl (fun _ _ => ⟨rfl, id, trivial⟩) (fun s => .op rfl (.nil)) rfl rfl (fun s hs => locM_new (loc_callM (spec_rowV (cloneRM_spec _ (by omega))) rfl)) (by exact .cons (.inl rfl) (.nil)) (fun _ _ => rfl) ?_
   refine da 1 ?_
   refine dq_write0 rfl (fun s => .op rfl (.op rfl (.nil))) rfl rfl (fun s hs => loc_storeRow1 (some _, r.queries[q.length]?.getD default) rfl rfl rfl (by omega)) (by exact .cons (.inl rfl) (.nil)) ?_
   refine dq_end (rs := [_, _, _, _, _, _]) (.bool true) rfl (fun _ => rfl) (.cons rfl (.nil)) rfl (fun _ => rfl) (fun v9 _ => ?_)
   dsimp only [outG, outM, List.map, List.set, id]
   rw [← hvq, mixL_set (by omega)]
   skip
   refine au 3 ?_
   first | refine runL_fact (s := 43) rfl (fun _ _ h => dSl_len h) (fun hlen7 => ?_) | skip
   refine au 4 ?_
   refine run_loopE (σ := Nat) (ks := [1, 2, 3, 30, 31, 32, 43, 44]) (.cons rfl (.cons rfl (.cons rfl (.cons rfl (.cons rfl (.cons rfl (.cons rfl (.cons rfl (.nil))))))))) (fun k => [(45, dInt .i64 (k : Nat))]) (fun k => rRow v9 44 1 fR (r.queries[q.length]?.getD default) :: rRow vq 30 1 (fun e => [mixD 1 fR e]) (mixL (q ++ [(v9, r.queries[q.length]?.getD default)]) r.queries) :: rRow va 137 1 fAs r.answers :: rRow vm 44 1 fR r.marks :: rCells b1 76 [dInt .i64 r.read, dInt .i64 r.scheme.kind, dInt .i64 r.scheme.servers, dInt .i64 r.scheme.degree, dInt .i64 r.scheme.group, dInt .i64 r.head.number, dInt .i64 r.head.p, dInt .i64 r.head.count, dInt .i64 r.head.width, dInt .i64 r.head.root, dInts r.rows, dSlV vq, dSlV va, dSlV vm, dB r.ended] :: rCells b2 76 [dInt .i64 0, dInt .i64 0, dInt .i64 0, dInt .i64 0, dInt .i64 0, dInt .i64 0, dInt .i64 0, dInt .i64 0, dInt .i64 0, dInt .i64 0, dVal (.slice none 0 0), dVal (.slice none 0 0), dVal (.slice none 0 0), dVal (.slice none 0 0), dB False] :: (fam 44 1 fR q ++ F)) (fun k => k ≤ (r.queries[q.length]?.getD default).length) (fun k => (r.queries[q.length]?.getD default).length - k) (0) (Nat.zero_le _) (.cons rfl (by first | exact fun _ _ h => h | exact d_int (by omega) | exact d_int (by simp) | exact d_intN (by omega) | exact d_any) .nil) (rfl) ?_
   intro k hk ih8
   have hqm := mixL_len (fa := q ++ [(v9, r.queries[q.length]?.getD default)]) (xs := r.queries) (by simp; omega)
   have hmg := mixL_get (fa := q) (xs := r.queries) (v := v9) (a := r.queries[q.length]?.getD default)
   refine au 5 ?_
   refine run_cond rfl (fun h9 => ?_) (fun h9 => ?_)
   ·
    have hxz := hqz.2 _ (getD_mem (xs := r.queries[q.length]?.getD default) (k := k) (by omega))
    refine au 11 ?_
    refine run_rowForm (.there (.here)) (by omega) (fun bq capq hvq => ?_)
    refine run_rowForm (.here) (by omega) (fun bi capi hvi => ?_)
    rw [hvq, hvi]
    rw [hvi] at hmg hqm
    refine dr_start _ (.none) [⟨[(1, none)], [], none⟩,
        ⟨[(50, some (0, false))], [0], some (4, 0, false)⟩,
        ⟨[(3, none)], [], none⟩,
        ⟨[(51, some (1, false)), (52, some (2, false))], [0, 1, 2], none⟩,
        ⟨[(53, some (3, false))], [0, 1, 2, 3], some (1, 0, false)⟩,
        ⟨[(5, none)], [], none⟩,
        ⟨[(6, none)], [], none⟩,
        ⟨[(56, some (6, false))], [6], none⟩,
        ⟨[(54, some (4, false)), (55, some (5, false))], [0, 1, 2, 3, 4, 5, 6, 7], none⟩,
        ⟨[(58, some (8, false)), (57, some (7, false))], [0, 1, 2, 3, 4, 5, 6, 7, 8], some (0, 0, true)⟩] [_, _, _, _, _, _] _ rfl rfl ?_
    refine da 1 ?_
    first | refine dq_read rfl (fun s => .op rfl (.nil)) rfl rfl (fun s hs _ hm => LocP.upV (loc_loadOwn1 rfl hm (by rfl))) (by exact .nil) ?_ | refine dq_read rfl (fun s => .op rfl (.nil)) rfl rfl (fun s hs _ hm => loc_loadOwn1 rfl hm (by rfl)) (by exact .nil) ?_
    refine da 2 ?_
    refine dq_read rfl (fun s => .op rfl (.nil)) rfl rfl (fun s hs _ hm => LocP.upV (LocP.conv (loc_loadRow1 rfl hm (by omega)) (show _ = dSlV _ from congrArg (mixD 1 fR) hmg))) (by exact .nil) ?_
    refine da 2 ?_
    refine dq_pure rfl (fun s => .op rfl (.nil)) (fun s hs _ => loc_call (cloneI_spec _ (by omega)) rfl) (by exact .nil) ?_
    refine da 1 ?_
    refine dq_write0 rfl (fun s => .op rfl (.op rfl (.nil))) rfl rfl (fun s hs => loc_storeRow1 _ rfl rfl rfl (by first | omega | assumption)) (by exact .nil) ?_
    refine dq_end (rs := [_, _, _, _, _, _]) () rfl (fun _ => rfl) (.nil) rfl (fun _ => rfl) (fun _ _ => ?_)
    dsimp only [outG, outM, List.map, List.set, id]
    rw [set_self (by omega), ← hvi, ← hvq]
    refine au 5 ?_
    exact run_againE ih8 (k + 1) (by omega) (by omega) (.cons rfl (by first | exact fun _ _ h => h | exact d_int (by omega) | exact d_int (by simp) | exact d_intN (by omega) | exact d_any) .nil) (.cons rfl (fun _ _ x => x) (.cons rfl (fun _ _ x => x) (.cons rfl (fun _ _ x => x) (.cons rfl (fun _ _ x => x) (.cons rfl (fun _ _ x => x) (.cons rfl (fun _ _ x => x) (.cons rfl (fun _ _ x => x) (.cons rfl (fun _ _ x => x) (.nil))))))))) (rfl)
   ·
    refine au 6 ?_
    refine run_inv (fun I w h => fam_snoc [_, _, _, _, _] h) ?_
    exact run_againE ih4 (q ++ [(v9, r.queries[q.length]?.getD default)]) (⟨by simp; omega, by simp only [List.map_append, List.map_cons, List.map_nil, List.length_append, List.length_singleton]; rw [hq2, show r.queries.take (q.length + 1) = r.queries.take q.length ++ [r.queries[q.length]?.getD default] by rw [List.take_add_one, List.getElem?_eq_getElem (by omega)]; rfl]⟩) (by simp; omega) (.cons rfl (d_int (by simp)) .nil) (.cons rfl (fun _ _ x => x) (.cons rfl (fun _ _ x => x) (.cons rfl (fun _ _ x => x) (.cons rfl (fun _ _ x => x) (.nil))))) (rfl)
  ·
   have hqe : q.length = r.queries.length := by omega
   refine au 3 ?_
   have hml1 := mixL_len (fa := ([] : List (Value × List Ans))) (xs := r.answers) (Nat.zero_le _)
   refine run_front (.there (.there (.there (.there (.here))))) ?_
   refine run_front (.there (.there (.there (.there (.here))))) ?_
   refine run_front (.there (.there (.there (.there (.here))))) ?_
   refine run_front (.there (.there (.there (.here)))) ?_
   refine run_front (.there (.there (.there (.there (.here))))) ?_
   refine run_inv (M' := rRow va 137 1 (fun e => [mixD 2 cAns e]) (mixL [] r.answers) :: rRow vq 30 1 (fun e => [mixD 1 fR e]) (mixL q r.queries) :: rRow vm 44 1 fR r.marks :: rCells b1 76 [dInt .i64 r.read, dInt .i64 r.scheme.kind, dInt .i64 r.scheme.servers, dInt .i64 r.scheme.degree, dInt .i64 r.scheme.group, dInt .i64 r.head.number, dInt .i64 r.head.p, dInt .i64 r.head.count, dInt .i64 r.head.width, dInt .i64 r.head.root, dInts r.rows, dSlV vq, dSlV va, dSlV vm, dB r.ended] :: rCells b2 76 [dInt .i64 0, dInt .i64 0, dInt .i64 0, dInt .i64 0, dInt .i64 0, dInt .i64 0, dInt .i64 0, dInt .i64 0, dInt .i64 0, dInt .i64 0, dVal (.slice none 0 0), dVal (.slice none 0 0), dVal (.slice none 0 0), dVal (.slice none 0 0), dB False] :: (fam 136 2 cAns [] ++ (fam 44 1 fR q ++ F))) (fun I w h => by rw [← mix_start]; exact h) ?_
   refine au 2 ?_
   first | refine run_op (LocP.upV (loc_loadOwn1 rfl (.there (.there (.there (.here)))) (by rfl))) rfl ?_ | refine run_op (loc_loadOwn1 rfl (.there (.there (.there (.here)))) (by rfl)) rfl ?_
   refine au 4 ?_
   refine run_loopE (σ := List (Value × List Ans)) (ks := [1, 2, 62, 63]) (.cons rfl (.cons rfl (.cons rfl (.cons rfl (.nil))))) (fun a => [(64, dInt .i64 (a.length : Nat))]) (fun a => rRow va 137 1 (fun e => [mixD 2 cAns e]) (mixL a r.answers) :: rRow vq 30 1 (fun e => [mixD 1 fR e]) (mixL q r.queries) :: rRow vm 44 1 fR r.marks :: rCells b1 76 [dInt .i64 r.read, dInt .i64 r.scheme.kind, dInt .i64 r.scheme.servers, dInt .i64 r.scheme.degree, dInt .i64 r.scheme.group, dInt .i64 r.head.number, dInt .i64 r.head.p, dInt .i64 r.head.count, dInt .i64 r.head.width, dInt .i64 r.head.root, dInts r.rows, dSlV vq, dSlV va, dSlV vm, dB r.ended] :: rCells b2 76 [dInt .i64 0, dInt .i64 0, dInt .i64 0, dInt .i64 0, dInt .i64 0, dInt .i64 0, dInt .i64 0, dInt .i64 0, dInt .i64 0, dInt .i64 0, dVal (.slice none 0 0), dVal (.slice none 0 0), dVal (.slice none 0 0), dVal (.slice none 0 0), dB False] :: (fam 136 2 cAns a ++ (fam 44 1 fR q ++ F))) (fun a => a.length ≤ r.answers.length ∧ a.map (·.2) = r.answers.take a.length) (fun a => r.answers.length - a.length) ([]) (⟨Nat.zero_le _, rfl⟩) (.cons rfl (by first | exact fun _ _ h => h | exact d_int (by omega) | exact d_int (by simp) | exact d_intN (by omega) | exact d_any) .nil) (rfl) ?_
   rintro a ⟨ha1, ha2⟩ ih10
   have hal := mixL_len ha1
   refine au 5 ?_
   refine run_cond rfl (fun h11 => ?_) (fun h11 => ?_)
   ·
    have haz := hz5 _ (getD_mem (xs := r.answers) (k := a.length) (by omega))
    have han : mixD 2 cAns ((mixL a r.answers)[a.length]?.getD default) = dSl 2 cAns (r.answers[a.length]?.getD default) := by rw [mixL_next (by omega)]; rfl
    refine run_rowForm (.here) (by omega) (fun ba capa hva => ?_)
    rw [hva]
    refine au 7 ?_
    refine run_op (LocP.conv (loc_loadRow1 rfl .here (by omega)) han) rfl ?_
    refine au 4 ?_
    refine run_addNone ?_
    refine dr_start _ (.one (σ := Value) 4 (fun _ => True)) [⟨[(1, none)], [], none⟩,
        ⟨[(69, some (0, false))], [0], some (4, 0, false)⟩,
        ⟨[(7, none)], [], none⟩,
        ⟨[(8, none)], [], none⟩,
        ⟨[(72, some (3, false))], [3], some (0, 0, true)⟩,
        ⟨[(70, some (1, false)), (71, some (2, false))], [0, 1, 2, 3, 4], none⟩,
        ⟨[(74, some (5, false)), (73, some (4, false))], [0, 1, 2, 3, 4, 5], some (1, 0, true)⟩] [_, _, _, _, _, _] _ rfl rfl ?_
    refine da 1 ?_
    first | refine dq_read rfl (fun s => .op rfl (.nil)) rfl rfl (fun s hs _ hm => LocP.upV (loc_loadOwn1 rfl hm (by rfl))) (by exact .cons (.inr fun _ _ _ => rfl) (.nil)) ?_ | refine dq_read rfl (fun s => .op rfl (.nil)) rfl rfl (fun s hs _ hm => loc_loadOwn1 rfl hm (by rfl)) (by exact .cons (.inr fun _ _ _ => rfl) (.nil)) ?_
    refine da 2 ?_
    refine dq_choose id (fun _ t => t) rfl (fun _ _ => ⟨rfl, id, trivial⟩) (fun s => .op rfl (.nil)) rfl rfl (fun s hs => locM_new (loc_callM (spec_rowV (cloneAnM_spec _ (by omega))) rfl)) (by exact .cons (.inl rfl) (.nil)) (fun _ _ => rfl) ?_
    refine da 1 ?_
    refine dq_write0 rfl (fun s => .op rfl (.op rfl (.nil))) rfl rfl (fun s hs => loc_storeRow1 (some _, r.answers[a.length]?.getD default) rfl rfl rfl (by omega)) (by exact .cons (.inl rfl) (.nil)) ?_
    refine dq_end (rs := [_, _, _, _, _, _]) (.bool true) rfl (fun _ => rfl) (.cons rfl (.nil)) rfl (fun _ => rfl) (fun w9 _ => ?_)
    dsimp only [outG, outM, List.map, List.set, id]
    rw [← hva, mixL_set (by omega)]
    skip
    refine au 3 ?_
    first | refine runL_fact (s := 75) rfl (fun _ _ h => dSl_len h) (fun hlen13 => ?_) | skip
    refine au 4 ?_
    refine run_loopE (σ := Nat) (ks := [1, 2, 7, 62, 63, 64, 75, 76]) (.cons rfl (.cons rfl (.cons rfl (.cons rfl (.cons rfl (.cons rfl (.cons rfl (.cons rfl (.nil))))))))) (fun u => [(77, dInt .i64 (u : Nat))]) (fun u => rRow w9 136 2 cAns (r.answers[a.length]?.getD default) :: rRow va 137 1 (fun e => [mixD 2 cAns e]) (mixL (a ++ [(w9, r.answers[a.length]?.getD default)]) r.answers) :: rRow vq 30 1 (fun e => [mixD 1 fR e]) (mixL q r.queries) :: rRow vm 44 1 fR r.marks :: rCells b1 76 [dInt .i64 r.read, dInt .i64 r.scheme.kind, dInt .i64 r.scheme.servers, dInt .i64 r.scheme.degree, dInt .i64 r.scheme.group, dInt .i64 r.head.number, dInt .i64 r.head.p, dInt .i64 r.head.count, dInt .i64 r.head.width, dInt .i64 r.head.root, dInts r.rows, dSlV vq, dSlV va, dSlV vm, dB r.ended] :: rCells b2 76 [dInt .i64 0, dInt .i64 0, dInt .i64 0, dInt .i64 0, dInt .i64 0, dInt .i64 0, dInt .i64 0, dInt .i64 0, dInt .i64 0, dInt .i64 0, dVal (.slice none 0 0), dVal (.slice none 0 0), dVal (.slice none 0 0), dVal (.slice none 0 0), dB False] :: (fam 136 2 cAns a ++ (fam 44 1 fR q ++ F))) (fun u => u ≤ (r.answers[a.length]?.getD default).length) (fun u => (r.answers[a.length]?.getD default).length - u) (0) (Nat.zero_le _) (.cons rfl (by first | exact fun _ _ h => h | exact d_int (by omega) | exact d_int (by simp) | exact d_intN (by omega) | exact d_any) .nil) (rfl) ?_
    intro u hu ih14
    have ham := mixL_len (fa := a ++ [(w9, r.answers[a.length]?.getD default)]) (xs := r.answers) (by simp; omega)
    have hag := mixL_get (fa := a) (xs := r.answers) (v := w9) (a := r.answers[a.length]?.getD default)
    refine au 5 ?_
    refine run_cond rfl (fun h15 => ?_) (fun h15 => ?_)
    ·
     have hyz := haz.2 _ (getD_mem (xs := r.answers[a.length]?.getD default) (k := u) (by omega))
     refine au 8 ?_
     refine run_new (loc_allocOwn (by simp)) rfl (fun b16 _ => ?_)
     refine au 3 ?_
     refine run_rowForm (.there (.there (.here))) (by omega) (fun ba capa hva => ?_)
     rw [hva]
     refine run_openRow (.there (.here)) (by intro he; have h0 := congrArg List.length he; rw [List.length_nil] at h0; omega) (fun bh cbh hvbh hcbh hmbh hlbh hfbh => ?_)
     subst hvbh
     refine dr_start _ (.none) [⟨[(1, none)], [], none⟩,
         ⟨[(82, some (0, false))], [0], some (5, 0, false)⟩,
         ⟨[(7, none)], [], none⟩,
         ⟨[(83, some (1, false)), (84, some (2, false))], [0, 1, 2], none⟩,
         ⟨[(85, some (3, false))], [0, 1, 2, 3], some (2, 0, false)⟩,
         ⟨[(9, none)], [], none⟩,
         ⟨[(10, none)], [], none⟩,
         ⟨[(88, some (6, false))], [6], some (0, 0, false)⟩,
         ⟨[(89, some (7, false))], [6, 7], none⟩,
         ⟨[(86, some (4, false)), (87, some (5, false))], [0, 1, 2, 3, 4, 5, 6, 7, 8], none⟩,
         ⟨[(91, some (9, false))], [0, 1, 2, 3, 4, 5, 6, 7, 8, 9], none⟩,
         ⟨[(92, some (10, false)), (90, some (8, false))], [0, 1, 2, 3, 4, 5, 6, 7, 8, 9, 10], some (1, 0, true)⟩] [_, _, _, _, _, _, _] _ rfl rfl ?_
     refine da 1 ?_
     first | refine dq_read rfl (fun s => .op rfl (.nil)) rfl rfl (fun s hs _ hm => LocP.upV (loc_loadOwn1 rfl hm (by rfl))) (by exact .nil) ?_ | refine dq_read rfl (fun s => .op rfl (.nil)) rfl rfl (fun s hs _ hm => loc_loadOwn1 rfl hm (by rfl)) (by exact .nil) ?_
     refine da 2 ?_
     refine dq_read rfl (fun s => .op rfl (.nil)) rfl rfl (fun s hs _ hm => LocP.upV (LocP.conv (loc_loadRow1 rfl hm (by omega)) (show _ = dSlV _ from congrArg (mixD 2 cAns) hag))) (by exact .nil) ?_
     refine da 3 ?_
     refine dq_pure rfl (fun s => .op rfl (.nil)) (fun s hs _ => loc_call (cloneI_spec _ (by omega)) rfl) (by exact .nil) ?_
     refine dq_pure rfl (fun s => .op rfl (.op rfl (.nil))) (fun s hs _ => loc_indexOwn rfl rfl (by first | omega | assumption)) (by exact .nil) ?_
     refine da 1 ?_
     refine dq_write0 rfl (fun s => .op rfl (.op rfl (.nil))) rfl rfl (fun s hs => loc_storeBufF rfl rfl (els_get (i := u) (by omega) (by omega)) (by decide)) (by exact .nil) ?_
     refine dq_end (rs := [_, _, _, _, _, _, _]) () rfl (fun _ => rfl) (.nil) rfl (fun _ => rfl) (fun _ _ => ?_)
     dsimp only [outG, outM, List.map, List.set, id]
     rw [← hva]
     refine run_shutRow (f' := cAns) (xs := r.answers[a.length]?.getD default) (.there (.here)) (els_same (i := u) (by omega) (by omega) (by rfl)) rfl (by simp [junk_length]; omega) hmbh hlbh ?_
     refine au 5 ?_
     refine run_drop (.cons _ (.refl _)) ?_
     exact run_againE ih14 (u + 1) (by omega) (by omega) (.cons rfl (by first | exact fun _ _ h => h | exact d_int (by omega) | exact d_int (by simp) | exact d_intN (by omega) | exact d_any) .nil) (.cons rfl (fun _ _ x => x) (.cons rfl (fun _ _ x => x) (.cons rfl (fun _ _ x => x) (.cons rfl (fun _ _ x => x) (.cons rfl (fun _ _ x => x) (.cons rfl (fun _ _ x => x) (.cons rfl (fun _ _ x => x) (.cons rfl (fun _ _ x => x) (.nil))))))))) (rfl)
    ·
     refine au 6 ?_
     refine run_inv (fun I w h => fam_snoc [_, _, _, _, _] h) ?_
     exact run_againE ih10 (a ++ [(w9, r.answers[a.length]?.getD default)]) (⟨by simp; omega, by simp only [List.map_append, List.map_cons, List.map_nil, List.length_append, List.length_singleton]; rw [ha2, show r.answers.take (a.length + 1) = r.answers.take a.length ++ [r.answers[a.length]?.getD default] by rw [List.take_add_one, List.getElem?_eq_getElem (by omega)]; rfl]⟩) (by simp; omega) (.cons rfl (d_int (by simp)) .nil) (.cons rfl (fun _ _ x => x) (.cons rfl (fun _ _ x => x) (.cons rfl (fun _ _ x => x) (.cons rfl (fun _ _ x => x) (.nil))))) (rfl)
   ·
    have hae : a.length = r.answers.length := by omega
    refine au 3 ?_
    have hml2 := mixL_len (fa := ([] : List (Value × List Int))) (xs := r.marks) (Nat.zero_le _)
    refine run_front (.there (.there (.there (.there (.here))))) ?_
    refine run_front (.there (.there (.there (.there (.here))))) ?_
    refine run_front (.there (.there (.there (.here)))) ?_
    refine run_front (.there (.there (.there (.here)))) ?_
    refine run_front (.there (.there (.there (.there (.here))))) ?_
    refine run_inv (M' := rRow vm 44 1 (fun e => [mixD 1 fI e]) (mixL [] r.marks) :: rRow va 137 1 (fun e => [mixD 2 cAns e]) (mixL a r.answers) :: rRow vq 30 1 (fun e => [mixD 1 fR e]) (mixL q r.queries) :: rCells b1 76 [dInt .i64 r.read, dInt .i64 r.scheme.kind, dInt .i64 r.scheme.servers, dInt .i64 r.scheme.degree, dInt .i64 r.scheme.group, dInt .i64 r.head.number, dInt .i64 r.head.p, dInt .i64 r.head.count, dInt .i64 r.head.width, dInt .i64 r.head.root, dInts r.rows, dSlV vq, dSlV va, dSlV vm, dB r.ended] :: rCells b2 76 [dInt .i64 0, dInt .i64 0, dInt .i64 0, dInt .i64 0, dInt .i64 0, dInt .i64 0, dInt .i64 0, dInt .i64 0, dInt .i64 0, dInt .i64 0, dVal (.slice none 0 0), dVal (.slice none 0 0), dVal (.slice none 0 0), dVal (.slice none 0 0), dB False] :: (fam 3 1 fI [] ++ (fam 136 2 cAns a ++ (fam 44 1 fR q ++ F)))) (fun I w h => by rw [← mix_start]; exact h) ?_
    refine au 2 ?_
    first | refine run_op (LocP.upV (loc_loadOwn1 rfl (.there (.there (.there (.here)))) (by rfl))) rfl ?_ | refine run_op (loc_loadOwn1 rfl (.there (.there (.there (.here)))) (by rfl)) rfl ?_
    refine au 4 ?_
    refine run_loopE (σ := List (Value × List Int)) (ks := [1, 2, 96, 97]) (.cons rfl (.cons rfl (.cons rfl (.cons rfl (.nil))))) (fun m => [(98, dInt .i64 (m.length : Nat))]) (fun m => rRow vm 44 1 (fun e => [mixD 1 fI e]) (mixL m r.marks) :: rRow va 137 1 (fun e => [mixD 2 cAns e]) (mixL a r.answers) :: rRow vq 30 1 (fun e => [mixD 1 fR e]) (mixL q r.queries) :: rCells b1 76 [dInt .i64 r.read, dInt .i64 r.scheme.kind, dInt .i64 r.scheme.servers, dInt .i64 r.scheme.degree, dInt .i64 r.scheme.group, dInt .i64 r.head.number, dInt .i64 r.head.p, dInt .i64 r.head.count, dInt .i64 r.head.width, dInt .i64 r.head.root, dInts r.rows, dSlV vq, dSlV va, dSlV vm, dB r.ended] :: rCells b2 76 [dInt .i64 0, dInt .i64 0, dInt .i64 0, dInt .i64 0, dInt .i64 0, dInt .i64 0, dInt .i64 0, dInt .i64 0, dInt .i64 0, dInt .i64 0, dVal (.slice none 0 0), dVal (.slice none 0 0), dVal (.slice none 0 0), dVal (.slice none 0 0), dB False] :: (fam 3 1 fI m ++ (fam 136 2 cAns a ++ (fam 44 1 fR q ++ F)))) (fun m => m.length ≤ r.marks.length ∧ m.map (·.2) = r.marks.take m.length) (fun m => r.marks.length - m.length) ([]) (⟨Nat.zero_le _, rfl⟩) (.cons rfl (by first | exact fun _ _ h => h | exact d_int (by omega) | exact d_int (by simp) | exact d_intN (by omega) | exact d_any) .nil) (rfl) ?_
    rintro m ⟨hm1, hm2⟩ ih17
    have hmll := mixL_len hm1
    refine au 5 ?_
    refine run_cond rfl (fun h18 => ?_) (fun h18 => ?_)
    ·
     have hmz := hz7 _ (getD_mem (xs := r.marks) (k := m.length) (by omega))
     have hmm : mixD 1 fI ((mixL m r.marks)[m.length]?.getD default) = dInts (r.marks[m.length]?.getD default) := by rw [mixL_next (by omega)]; rfl
     refine run_rowForm (.here) (by omega) (fun bm capm hvm => ?_)
     rw [hvm]
     refine au 7 ?_
     refine run_op (LocP.conv (loc_loadRow1 rfl .here (by omega)) hmm) rfl ?_
     refine au 3 ?_
     refine run_addNone ?_
     refine dr_start _ (.one (σ := Value) 4 (fun _ => True)) [⟨[(1, none)], [], none⟩,
         ⟨[(103, some (0, false))], [0], some (4, 0, false)⟩,
         ⟨[(11, none)], [], none⟩,
         ⟨[(12, none)], [], none⟩,
         ⟨[(106, some (3, false))], [3], some (0, 0, true)⟩,
         ⟨[(104, some (1, false)), (105, some (2, false))], [0, 1, 2, 3, 4], none⟩,
         ⟨[(108, some (5, false)), (107, some (4, false))], [0, 1, 2, 3, 4, 5], some (1, 0, true)⟩] [_, _, _, _, _, _] _ rfl rfl ?_
     refine da 1 ?_
     first | refine dq_read rfl (fun s => .op rfl (.nil)) rfl rfl (fun s hs _ hm => LocP.upV (loc_loadOwn1 rfl hm (by rfl))) (by exact .cons (.inr fun _ _ _ => rfl) (.nil)) ?_ | refine dq_read rfl (fun s => .op rfl (.nil)) rfl rfl (fun s hs _ hm => loc_loadOwn1 rfl hm (by rfl)) (by exact .cons (.inr fun _ _ _ => rfl) (.nil)) ?_
     refine da 2 ?_
     refine dq_choose id (fun _ t => t) rfl (fun _ _ => ⟨rfl, id, trivial⟩) (fun s => .op rfl (.nil)) rfl rfl (fun s hs => locM_new (loc_callM (spec_rowV (cloneIM_spec _ (by omega))) rfl)) (by exact .cons (.inl rfl) (.nil)) (fun _ _ => rfl) ?_
     refine da 1 ?_
     refine dq_write0 rfl (fun s => .op rfl (.op rfl (.nil))) rfl rfl (fun s hs => loc_storeRow1 (some _, r.marks[m.length]?.getD default) rfl rfl rfl (by omega)) (by exact .cons (.inl rfl) (.nil)) ?_
     refine dq_end (rs := [_, _, _, _, _, _]) (.bool true) rfl (fun _ => rfl) (.cons rfl (.nil)) rfl (fun _ => rfl) (fun x9 _ => ?_)
     dsimp only [outG, outM, List.map, List.set, id]
     rw [← hvm, mixL_set (by omega)]
     skip
     refine run_inv (fun I w h => fam_snoc [_, _, _, _, _] h) ?_
     refine au 5 ?_
     exact run_againE ih17 (m ++ [(x9, r.marks[m.length]?.getD default)]) (⟨by simp; omega, by simp only [List.map_append, List.map_cons, List.map_nil, List.length_append, List.length_singleton]; rw [hm2, show r.marks.take (m.length + 1) = r.marks.take m.length ++ [r.marks[m.length]?.getD default] by rw [List.take_add_one, List.getElem?_eq_getElem (by omega)]; rfl]⟩) (by simp; omega) (.cons rfl (d_int (by simp)) .nil) (.cons rfl (fun _ _ x => x) (.cons rfl (fun _ _ x => x) (.cons rfl (fun _ _ x => x) (.cons rfl (fun _ _ x => x) (.nil))))) (rfl)
    ·
     have hme : m.length = r.marks.length := by omega
     refine au 6 ?_
     refine run_retG ((vq, va, vm, q, a, m)) Tryz.func84 rfl (.cellN rfl (.there (.there (.there (.there (.here))))) (by rfl) (.nil)) ?_ (⟨by rw [hq2, hqe, List.take_length], by rw [ha2, hae, List.take_length], by rw [hm2, hme, List.take_length]⟩) (fun I w h => by rw [← mix_end hqe, ← mix_end hae, ← mix_end hme]; exact own3 h)
     exact fun _ _ h => h
end Go.Q

namespace Go.Q
open Go.Proofs
open Classical
theorem rownT_spec (r : Rdr) (hr : szR r) : Spec Tryz.prog 84 [dRdr r] [] (σ := Value × Value × Value × List (Value × List (List Int)) × List (Value × List Ans) × List (Value × List Int)) (fun s => s.2.2.2.1.map (·.2) = r.queries ∧ s.2.2.2.2.1.map (·.2) = r.answers ∧ s.2.2.2.2.2.map (·.2) = r.marks) (fun s => dAgg [dInt .i64 r.read, dInt .i64 r.scheme.kind, dInt .i64 r.scheme.servers, dInt .i64 r.scheme.degree, dInt .i64 r.scheme.group, dInt .i64 r.head.number, dInt .i64 r.head.p, dInt .i64 r.head.count, dInt .i64 r.head.width, dInt .i64 r.head.root, dInts r.rows, dQs r.queries, dSlV s.2.1, dSlV s.2.2.1, dB r.ended])
  (fun s => rRow s.2.1 137 1 (fun u => [dSlV u]) (s.2.2.2.2.1.map (·.1)) :: rRow s.2.2.1 44 1 (fun u => [dSlV u]) (s.2.2.2.2.2.map (·.1)) :: (fam 3 1 fI s.2.2.2.2.2 ++ fam 136 2 cAns s.2.2.2.2.1)) := by
 refine nest_spec (v := fun s => s.1) (fa := fun s => s.2.2.2.1) (T := 30) (T' := 44) (n := 1) (c := fR) (rownM_spec r hr) (fun s F I w _ h => ?_) (fun s J J' u hs hle hd hq => ?_)
 ·have h0 := h
  simp only [List.cons_append, List.append_assoc] at h0
  refine h0.perm (List.Perm.cons _ ?_)
  simp only [List.cons_append, List.append_assoc]
  refine List.Perm.trans ?_ List.perm_middle.symm
  refine List.Perm.cons _ (List.Perm.trans ?_ List.perm_middle.symm)
  refine List.Perm.cons _ ?_
  simp only [← List.append_assoc]
  refine List.Perm.append_right F ?_
  exact (List.perm_append_comm (l₁ := fam 3 1 fI s.2.2.2.2.2 ++ fam 136 2 cAns s.2.2.2.2.1) (l₂ := fam 44 1 fR s.2.2.2.1)).trans (by rw [List.append_assoc])
 ·obtain ⟨cs, e, h⟩ := hd
  rw [hs.1] at hq
  exact ⟨cs, e, relL_swap (A := [dInt .i64 r.read, dInt .i64 r.scheme.kind, dInt .i64 r.scheme.servers, dInt .i64 r.scheme.degree, dInt .i64 r.scheme.group, dInt .i64 r.head.number, dInt .i64 r.head.p, dInt .i64 r.head.count, dInt .i64 r.head.width, dInt .i64 r.head.root, dInts r.rows]) hle hq h⟩
def fitsR (r : Rdr) (n : Nte) : Prop := n.kind = 2 ∧ n.read = r.read ∧ n.version = r.head.number ∧ (0 ≤ n.probe ∧ n.probe < r.queries.length) ∧ (1 ≤ n.server ∧ n.server ≤ (r.queries[n.probe.toNat]?.getD default).length) ∧ n.query = (r.queries[n.probe.toNat]?.getD default)[(n.server - 1).toNat]?.getD default ∧ (n.values.length : Int) = r.head.width ∧ okP r.head.p ∧ allP r.head.p n.values
set_option maxRecDepth 8000
theorem fits_spec (r : Rdr) (n : Nte) (hz : szR r) : SpecP Tryz.prog 85 [dRdr r, dNte n] (dB (fitsR r n)) := by
 have hql : (r.queries[n.probe.toNat]?.getD default).length ≤ 1000 := by
  by_cases h : n.probe.toNat < r.queries.length
  ·exact (hz.2.2.1 _ (getD_mem h)).1
  ·rw [List.getElem?_eq_none (by omega)]; exact Nat.zero_le _
 refine specP_of_body Tryz.func85 rfl rfl (fun I M => ?_)
 refine au 7 ?_
 refine dr_start _ (.none) [⟨[(3, none)], [], none⟩,
   ⟨[(5, some (0, false))], [0], none⟩,
   ⟨[(6, some (1, false))], [0, 1], none⟩,
   ⟨[(7, some (2, false))], [0, 1, 2], none⟩,
   ⟨[(3, none)], [0, 1, 2, 3], none⟩,
   ⟨[(9, some (4, true))], [0, 1, 2, 3, 4], none⟩,
   ⟨[(2, none)], [0, 1, 2, 3], none⟩,
   ⟨[(11, some (6, true))], [0, 1, 2, 3, 6], none⟩,
   ⟨[(10, some (5, true)), (12, some (7, true))], [0, 1, 2, 3, 4, 5, 6, 7], none⟩,
   ⟨[(8, some (3, false)), (13, some (8, false))], [0, 1, 2, 3, 4, 5, 6, 7, 8], none⟩,
   ⟨[(14, some (9, false))], [0, 1, 2, 3, 4, 5, 6, 7, 8, 9], none⟩,
   ⟨[(3, none)], [0, 1, 2, 3, 4, 5, 6, 7, 8, 9, 10], none⟩,
   ⟨[(16, some (11, true))], [0, 1, 2, 3, 4, 5, 6, 7, 8, 9, 10, 11], none⟩,
   ⟨[(2, none)], [0, 1, 2, 3, 4, 5, 6, 7, 8, 9, 10], none⟩,
   ⟨[(18, some (13, true))], [0, 1, 2, 3, 4, 5, 6, 7, 8, 9, 10, 13], none⟩,
   ⟨[(19, some (14, true))], [0, 1, 2, 3, 4, 5, 6, 7, 8, 9, 10, 13, 14], none⟩,
   ⟨[(17, some (12, true)), (20, some (15, true))], [0, 1, 2, 3, 4, 5, 6, 7, 8, 9, 10, 11, 12, 13, 14, 15], none⟩,
   ⟨[(15, some (10, false)), (21, some (16, false))], [0, 1, 2, 3, 4, 5, 6, 7, 8, 9, 10, 11, 12, 13, 14, 15, 16], none⟩,
   ⟨[(22, some (17, false))], [0, 1, 2, 3, 4, 5, 6, 7, 8, 9, 10, 11, 12, 13, 14, 15, 16, 17], none⟩,
   ⟨[(3, none)], [0, 1, 2, 3, 4, 5, 6, 7, 8, 9, 10, 11, 12, 13, 14, 15, 16, 17, 18], none⟩,
   ⟨[(24, some (19, true))], [0, 1, 2, 3, 4, 5, 6, 7, 8, 9, 10, 11, 12, 13, 14, 15, 16, 17, 18, 19], none⟩,
   ⟨[(25, some (20, true))], [0, 1, 2, 3, 4, 5, 6, 7, 8, 9, 10, 11, 12, 13, 14, 15, 16, 17, 18, 19, 20], none⟩,
   ⟨[(23, some (18, false)), (26, some (21, false))], [0, 1, 2, 3, 4, 5, 6, 7, 8, 9, 10, 11, 12, 13, 14, 15, 16, 17, 18, 19, 20, 21], none⟩,
   ⟨[(27, some (22, false))], [0, 1, 2, 3, 4, 5, 6, 7, 8, 9, 10, 11, 12, 13, 14, 15, 16, 17, 18, 19, 20, 21, 22], none⟩,
   ⟨[(3, none)], [0, 1, 2, 3, 4, 5, 6, 7, 8, 9, 10, 11, 12, 13, 14, 15, 16, 17, 18, 19, 20, 21, 22, 23], none⟩,
   ⟨[(29, some (24, true))], [0, 1, 2, 3, 4, 5, 6, 7, 8, 9, 10, 11, 12, 13, 14, 15, 16, 17, 18, 19, 20, 21, 22, 23, 24], none⟩,
   ⟨[(2, none)], [0, 1, 2, 3, 4, 5, 6, 7, 8, 9, 10, 11, 12, 13, 14, 15, 16, 17, 18, 19, 20, 21, 22, 23], none⟩,
   ⟨[(31, some (26, true))], [0, 1, 2, 3, 4, 5, 6, 7, 8, 9, 10, 11, 12, 13, 14, 15, 16, 17, 18, 19, 20, 21, 22, 23, 26], none⟩,
   ⟨[(32, some (27, true))], [0, 1, 2, 3, 4, 5, 6, 7, 8, 9, 10, 11, 12, 13, 14, 15, 16, 17, 18, 19, 20, 21, 22, 23, 26, 27], none⟩,
   ⟨[(30, some (25, true)), (33, some (28, true))], [0, 1, 2, 3, 4, 5, 6, 7, 8, 9, 10, 11, 12, 13, 14, 15, 16, 17, 18, 19, 20, 21, 22, 23, 24, 25, 26, 27, 28], none⟩,
   ⟨[(28, some (23, false)), (34, some (29, false))], [0, 1, 2, 3, 4, 5, 6, 7, 8, 9, 10, 11, 12, 13, 14, 15, 16, 17, 18, 19, 20, 21, 22, 23, 24, 25, 26, 27, 28, 29], none⟩,
   ⟨[(35, some (30, false))], [0, 1, 2, 3, 4, 5, 6, 7, 8, 9, 10, 11, 12, 13, 14, 15, 16, 17, 18, 19, 20, 21, 22, 23, 24, 25, 26, 27, 28, 29, 30], none⟩,
   ⟨[(3, none)], [0, 1, 2, 3, 4, 5, 6, 7, 8, 9, 10, 11, 12, 13, 14, 15, 16, 17, 18, 19, 20, 21, 22, 23, 24, 25, 26, 27, 28, 29, 30, 31], none⟩,
   ⟨[(37, some (32, true))], [0, 1, 2, 3, 4, 5, 6, 7, 8, 9, 10, 11, 12, 13, 14, 15, 16, 17, 18, 19, 20, 21, 22, 23, 24, 25, 26, 27, 28, 29, 30, 31, 32], none⟩,
   ⟨[(38, some (33, true))], [0, 1, 2, 3, 4, 5, 6, 7, 8, 9, 10, 11, 12, 13, 14, 15, 16, 17, 18, 19, 20, 21, 22, 23, 24, 25, 26, 27, 28, 29, 30, 31, 32, 33], none⟩,
   ⟨[(36, some (31, false)), (39, some (34, false))], [0, 1, 2, 3, 4, 5, 6, 7, 8, 9, 10, 11, 12, 13, 14, 15, 16, 17, 18, 19, 20, 21, 22, 23, 24, 25, 26, 27, 28, 29, 30, 31, 32, 33, 34], none⟩,
   ⟨[(40, some (35, false))], [0, 1, 2, 3, 4, 5, 6, 7, 8, 9, 10, 11, 12, 13, 14, 15, 16, 17, 18, 19, 20, 21, 22, 23, 24, 25, 26, 27, 28, 29, 30, 31, 32, 33, 34, 35], none⟩,
   ⟨[(3, none)], [0, 1, 2, 3, 4, 5, 6, 7, 8, 9, 10, 11, 12, 13, 14, 15, 16, 17, 18, 19, 20, 21, 22, 23, 24, 25, 26, 27, 28, 29, 30, 31, 32, 33, 34, 35, 36], none⟩,
   ⟨[(42, some (37, true))], [0, 1, 2, 3, 4, 5, 6, 7, 8, 9, 10, 11, 12, 13, 14, 15, 16, 17, 18, 19, 20, 21, 22, 23, 24, 25, 26, 27, 28, 29, 30, 31, 32, 33, 34, 35, 36, 37], none⟩,
   ⟨[(2, none)], [0, 1, 2, 3, 4, 5, 6, 7, 8, 9, 10, 11, 12, 13, 14, 15, 16, 17, 18, 19, 20, 21, 22, 23, 24, 25, 26, 27, 28, 29, 30, 31, 32, 33, 34, 35, 36], none⟩,
   ⟨[(44, some (39, true))], [0, 1, 2, 3, 4, 5, 6, 7, 8, 9, 10, 11, 12, 13, 14, 15, 16, 17, 18, 19, 20, 21, 22, 23, 24, 25, 26, 27, 28, 29, 30, 31, 32, 33, 34, 35, 36, 39], none⟩,
   ⟨[(3, none)], [0, 1, 2, 3, 4, 5, 6, 7, 8, 9, 10, 11, 12, 13, 14, 15, 16, 17, 18, 19, 20, 21, 22, 23, 24, 25, 26, 27, 28, 29, 30, 31, 32, 33, 34, 35, 36], none⟩,
   ⟨[(46, some (41, true))], [0, 1, 2, 3, 4, 5, 6, 7, 8, 9, 10, 11, 12, 13, 14, 15, 16, 17, 18, 19, 20, 21, 22, 23, 24, 25, 26, 27, 28, 29, 30, 31, 32, 33, 34, 35, 36, 41], none⟩,
   ⟨[(45, some (40, true)), (47, some (42, true))], [0, 1, 2, 3, 4, 5, 6, 7, 8, 9, 10, 11, 12, 13, 14, 15, 16, 17, 18, 19, 20, 21, 22, 23, 24, 25, 26, 27, 28, 29, 30, 31, 32, 33, 34, 35, 36, 39, 40, 41, 42], none⟩,
   ⟨[(48, some (43, true))], [0, 1, 2, 3, 4, 5, 6, 7, 8, 9, 10, 11, 12, 13, 14, 15, 16, 17, 18, 19, 20, 21, 22, 23, 24, 25, 26, 27, 28, 29, 30, 31, 32, 33, 34, 35, 36, 39, 40, 41, 42, 43], none⟩,
   ⟨[(49, some (44, true))], [0, 1, 2, 3, 4, 5, 6, 7, 8, 9, 10, 11, 12, 13, 14, 15, 16, 17, 18, 19, 20, 21, 22, 23, 24, 25, 26, 27, 28, 29, 30, 31, 32, 33, 34, 35, 36, 39, 40, 41, 42, 43, 44], none⟩,
   ⟨[(43, some (38, true)), (50, some (45, true))], [0, 1, 2, 3, 4, 5, 6, 7, 8, 9, 10, 11, 12, 13, 14, 15, 16, 17, 18, 19, 20, 21, 22, 23, 24, 25, 26, 27, 28, 29, 30, 31, 32, 33, 34, 35, 36, 37, 38, 39, 40, 41, 42, 43, 44, 45], none⟩,
   ⟨[(41, some (36, false)), (51, some (46, false))], [0, 1, 2, 3, 4, 5, 6, 7, 8, 9, 10, 11, 12, 13, 14, 15, 16, 17, 18, 19, 20, 21, 22, 23, 24, 25, 26, 27, 28, 29, 30, 31, 32, 33, 34, 35, 36, 37, 38, 39, 40, 41, 42, 43, 44, 45, 46], none⟩,
   ⟨[(52, some (47, false))], [0, 1, 2, 3, 4, 5, 6, 7, 8, 9, 10, 11, 12, 13, 14, 15, 16, 17, 18, 19, 20, 21, 22, 23, 24, 25, 26, 27, 28, 29, 30, 31, 32, 33, 34, 35, 36, 37, 38, 39, 40, 41, 42, 43, 44, 45, 46, 47], none⟩,
   ⟨[(3, none)], [0, 1, 2, 3, 4, 5, 6, 7, 8, 9, 10, 11, 12, 13, 14, 15, 16, 17, 18, 19, 20, 21, 22, 23, 24, 25, 26, 27, 28, 29, 30, 31, 32, 33, 34, 35, 36, 37, 38, 39, 40, 41, 42, 43, 44, 45, 46, 47, 48], none⟩,
   ⟨[(54, some (49, true))], [0, 1, 2, 3, 4, 5, 6, 7, 8, 9, 10, 11, 12, 13, 14, 15, 16, 17, 18, 19, 20, 21, 22, 23, 24, 25, 26, 27, 28, 29, 30, 31, 32, 33, 34, 35, 36, 37, 38, 39, 40, 41, 42, 43, 44, 45, 46, 47, 48, 49], none⟩,
   ⟨[(2, none)], [0, 1, 2, 3, 4, 5, 6, 7, 8, 9, 10, 11, 12, 13, 14, 15, 16, 17, 18, 19, 20, 21, 22, 23, 24, 25, 26, 27, 28, 29, 30, 31, 32, 33, 34, 35, 36, 37, 38, 39, 40, 41, 42, 43, 44, 45, 46, 47, 48], none⟩,
   ⟨[(56, some (51, true))], [0, 1, 2, 3, 4, 5, 6, 7, 8, 9, 10, 11, 12, 13, 14, 15, 16, 17, 18, 19, 20, 21, 22, 23, 24, 25, 26, 27, 28, 29, 30, 31, 32, 33, 34, 35, 36, 37, 38, 39, 40, 41, 42, 43, 44, 45, 46, 47, 48, 51], none⟩,
   ⟨[(3, none)], [0, 1, 2, 3, 4, 5, 6, 7, 8, 9, 10, 11, 12, 13, 14, 15, 16, 17, 18, 19, 20, 21, 22, 23, 24, 25, 26, 27, 28, 29, 30, 31, 32, 33, 34, 35, 36, 37, 38, 39, 40, 41, 42, 43, 44, 45, 46, 47, 48], none⟩,
   ⟨[(58, some (53, true))], [0, 1, 2, 3, 4, 5, 6, 7, 8, 9, 10, 11, 12, 13, 14, 15, 16, 17, 18, 19, 20, 21, 22, 23, 24, 25, 26, 27, 28, 29, 30, 31, 32, 33, 34, 35, 36, 37, 38, 39, 40, 41, 42, 43, 44, 45, 46, 47, 48, 53], none⟩,
   ⟨[(57, some (52, true)), (59, some (54, true))], [0, 1, 2, 3, 4, 5, 6, 7, 8, 9, 10, 11, 12, 13, 14, 15, 16, 17, 18, 19, 20, 21, 22, 23, 24, 25, 26, 27, 28, 29, 30, 31, 32, 33, 34, 35, 36, 37, 38, 39, 40, 41, 42, 43, 44, 45, 46, 47, 48, 51, 52, 53, 54], none⟩,
   ⟨[(60, some (55, true))], [0, 1, 2, 3, 4, 5, 6, 7, 8, 9, 10, 11, 12, 13, 14, 15, 16, 17, 18, 19, 20, 21, 22, 23, 24, 25, 26, 27, 28, 29, 30, 31, 32, 33, 34, 35, 36, 37, 38, 39, 40, 41, 42, 43, 44, 45, 46, 47, 48, 51, 52, 53, 54, 55], none⟩,
   ⟨[(3, none)], [0, 1, 2, 3, 4, 5, 6, 7, 8, 9, 10, 11, 12, 13, 14, 15, 16, 17, 18, 19, 20, 21, 22, 23, 24, 25, 26, 27, 28, 29, 30, 31, 32, 33, 34, 35, 36, 37, 38, 39, 40, 41, 42, 43, 44, 45, 46, 47, 48], none⟩,
   ⟨[(62, some (57, true))], [0, 1, 2, 3, 4, 5, 6, 7, 8, 9, 10, 11, 12, 13, 14, 15, 16, 17, 18, 19, 20, 21, 22, 23, 24, 25, 26, 27, 28, 29, 30, 31, 32, 33, 34, 35, 36, 37, 38, 39, 40, 41, 42, 43, 44, 45, 46, 47, 48, 57], none⟩,
   ⟨[(63, some (58, true))], [0, 1, 2, 3, 4, 5, 6, 7, 8, 9, 10, 11, 12, 13, 14, 15, 16, 17, 18, 19, 20, 21, 22, 23, 24, 25, 26, 27, 28, 29, 30, 31, 32, 33, 34, 35, 36, 37, 38, 39, 40, 41, 42, 43, 44, 45, 46, 47, 48, 57, 58], none⟩,
   ⟨[(61, some (56, true)), (64, some (59, true))], [0, 1, 2, 3, 4, 5, 6, 7, 8, 9, 10, 11, 12, 13, 14, 15, 16, 17, 18, 19, 20, 21, 22, 23, 24, 25, 26, 27, 28, 29, 30, 31, 32, 33, 34, 35, 36, 37, 38, 39, 40, 41, 42, 43, 44, 45, 46, 47, 48, 51, 52, 53, 54, 55, 56, 57, 58, 59], none⟩,
   ⟨[(65, some (60, true))], [0, 1, 2, 3, 4, 5, 6, 7, 8, 9, 10, 11, 12, 13, 14, 15, 16, 17, 18, 19, 20, 21, 22, 23, 24, 25, 26, 27, 28, 29, 30, 31, 32, 33, 34, 35, 36, 37, 38, 39, 40, 41, 42, 43, 44, 45, 46, 47, 48, 51, 52, 53, 54, 55, 56, 57, 58, 59, 60], none⟩,
   ⟨[(55, some (50, true)), (66, some (61, true))], [0, 1, 2, 3, 4, 5, 6, 7, 8, 9, 10, 11, 12, 13, 14, 15, 16, 17, 18, 19, 20, 21, 22, 23, 24, 25, 26, 27, 28, 29, 30, 31, 32, 33, 34, 35, 36, 37, 38, 39, 40, 41, 42, 43, 44, 45, 46, 47, 48, 49, 50, 51, 52, 53, 54, 55, 56, 57, 58, 59, 60, 61], none⟩,
   ⟨[(53, some (48, false)), (67, some (62, false))], [0, 1, 2, 3, 4, 5, 6, 7, 8, 9, 10, 11, 12, 13, 14, 15, 16, 17, 18, 19, 20, 21, 22, 23, 24, 25, 26, 27, 28, 29, 30, 31, 32, 33, 34, 35, 36, 37, 38, 39, 40, 41, 42, 43, 44, 45, 46, 47, 48, 49, 50, 51, 52, 53, 54, 55, 56, 57, 58, 59, 60, 61, 62], none⟩,
   ⟨[(68, some (63, false))], [0, 1, 2, 3, 4, 5, 6, 7, 8, 9, 10, 11, 12, 13, 14, 15, 16, 17, 18, 19, 20, 21, 22, 23, 24, 25, 26, 27, 28, 29, 30, 31, 32, 33, 34, 35, 36, 37, 38, 39, 40, 41, 42, 43, 44, 45, 46, 47, 48, 49, 50, 51, 52, 53, 54, 55, 56, 57, 58, 59, 60, 61, 62, 63], none⟩,
   ⟨[(3, none)], [0, 1, 2, 3, 4, 5, 6, 7, 8, 9, 10, 11, 12, 13, 14, 15, 16, 17, 18, 19, 20, 21, 22, 23, 24, 25, 26, 27, 28, 29, 30, 31, 32, 33, 34, 35, 36, 37, 38, 39, 40, 41, 42, 43, 44, 45, 46, 47, 48, 49, 50, 51, 52, 53, 54, 55, 56, 57, 58, 59, 60, 61, 62, 63, 64], none⟩,
   ⟨[(70, some (65, true))], [0, 1, 2, 3, 4, 5, 6, 7, 8, 9, 10, 11, 12, 13, 14, 15, 16, 17, 18, 19, 20, 21, 22, 23, 24, 25, 26, 27, 28, 29, 30, 31, 32, 33, 34, 35, 36, 37, 38, 39, 40, 41, 42, 43, 44, 45, 46, 47, 48, 49, 50, 51, 52, 53, 54, 55, 56, 57, 58, 59, 60, 61, 62, 63, 64, 65], none⟩,
   ⟨[(71, some (66, true))], [0, 1, 2, 3, 4, 5, 6, 7, 8, 9, 10, 11, 12, 13, 14, 15, 16, 17, 18, 19, 20, 21, 22, 23, 24, 25, 26, 27, 28, 29, 30, 31, 32, 33, 34, 35, 36, 37, 38, 39, 40, 41, 42, 43, 44, 45, 46, 47, 48, 49, 50, 51, 52, 53, 54, 55, 56, 57, 58, 59, 60, 61, 62, 63, 64, 65, 66], none⟩,
   ⟨[(2, none)], [0, 1, 2, 3, 4, 5, 6, 7, 8, 9, 10, 11, 12, 13, 14, 15, 16, 17, 18, 19, 20, 21, 22, 23, 24, 25, 26, 27, 28, 29, 30, 31, 32, 33, 34, 35, 36, 37, 38, 39, 40, 41, 42, 43, 44, 45, 46, 47, 48, 49, 50, 51, 52, 53, 54, 55, 56, 57, 58, 59, 60, 61, 62, 63, 64], none⟩,
   ⟨[(73, some (68, true))], [0, 1, 2, 3, 4, 5, 6, 7, 8, 9, 10, 11, 12, 13, 14, 15, 16, 17, 18, 19, 20, 21, 22, 23, 24, 25, 26, 27, 28, 29, 30, 31, 32, 33, 34, 35, 36, 37, 38, 39, 40, 41, 42, 43, 44, 45, 46, 47, 48, 49, 50, 51, 52, 53, 54, 55, 56, 57, 58, 59, 60, 61, 62, 63, 64, 68], none⟩,
   ⟨[(74, some (69, true))], [0, 1, 2, 3, 4, 5, 6, 7, 8, 9, 10, 11, 12, 13, 14, 15, 16, 17, 18, 19, 20, 21, 22, 23, 24, 25, 26, 27, 28, 29, 30, 31, 32, 33, 34, 35, 36, 37, 38, 39, 40, 41, 42, 43, 44, 45, 46, 47, 48, 49, 50, 51, 52, 53, 54, 55, 56, 57, 58, 59, 60, 61, 62, 63, 64, 68, 69], none⟩,
   ⟨[(72, some (67, true)), (75, some (70, true))], [0, 1, 2, 3, 4, 5, 6, 7, 8, 9, 10, 11, 12, 13, 14, 15, 16, 17, 18, 19, 20, 21, 22, 23, 24, 25, 26, 27, 28, 29, 30, 31, 32, 33, 34, 35, 36, 37, 38, 39, 40, 41, 42, 43, 44, 45, 46, 47, 48, 49, 50, 51, 52, 53, 54, 55, 56, 57, 58, 59, 60, 61, 62, 63, 64, 65, 66, 67, 68, 69, 70], none⟩,
   ⟨[(69, some (64, false)), (76, some (71, false))], [0, 1, 2, 3, 4, 5, 6, 7, 8, 9, 10, 11, 12, 13, 14, 15, 16, 17, 18, 19, 20, 21, 22, 23, 24, 25, 26, 27, 28, 29, 30, 31, 32, 33, 34, 35, 36, 37, 38, 39, 40, 41, 42, 43, 44, 45, 46, 47, 48, 49, 50, 51, 52, 53, 54, 55, 56, 57, 58, 59, 60, 61, 62, 63, 64, 65, 66, 67, 68, 69, 70, 71], none⟩,
   ⟨[(77, some (72, false))], [0, 1, 2, 3, 4, 5, 6, 7, 8, 9, 10, 11, 12, 13, 14, 15, 16, 17, 18, 19, 20, 21, 22, 23, 24, 25, 26, 27, 28, 29, 30, 31, 32, 33, 34, 35, 36, 37, 38, 39, 40, 41, 42, 43, 44, 45, 46, 47, 48, 49, 50, 51, 52, 53, 54, 55, 56, 57, 58, 59, 60, 61, 62, 63, 64, 65, 66, 67, 68, 69, 70, 71, 72], none⟩,
   ⟨[(2, none)], [0, 1, 2, 3, 4, 5, 6, 7, 8, 9, 10, 11, 12, 13, 14, 15, 16, 17, 18, 19, 20, 21, 22, 23, 24, 25, 26, 27, 28, 29, 30, 31, 32, 33, 34, 35, 36, 37, 38, 39, 40, 41, 42, 43, 44, 45, 46, 47, 48, 49, 50, 51, 52, 53, 54, 55, 56, 57, 58, 59, 60, 61, 62, 63, 64, 65, 66, 67, 68, 69, 70, 71, 72, 73], none⟩,
   ⟨[(79, some (74, true))], [0, 1, 2, 3, 4, 5, 6, 7, 8, 9, 10, 11, 12, 13, 14, 15, 16, 17, 18, 19, 20, 21, 22, 23, 24, 25, 26, 27, 28, 29, 30, 31, 32, 33, 34, 35, 36, 37, 38, 39, 40, 41, 42, 43, 44, 45, 46, 47, 48, 49, 50, 51, 52, 53, 54, 55, 56, 57, 58, 59, 60, 61, 62, 63, 64, 65, 66, 67, 68, 69, 70, 71, 72, 73, 74], none⟩,
   ⟨[(80, some (75, true))], [0, 1, 2, 3, 4, 5, 6, 7, 8, 9, 10, 11, 12, 13, 14, 15, 16, 17, 18, 19, 20, 21, 22, 23, 24, 25, 26, 27, 28, 29, 30, 31, 32, 33, 34, 35, 36, 37, 38, 39, 40, 41, 42, 43, 44, 45, 46, 47, 48, 49, 50, 51, 52, 53, 54, 55, 56, 57, 58, 59, 60, 61, 62, 63, 64, 65, 66, 67, 68, 69, 70, 71, 72, 73, 74, 75], none⟩,
   ⟨[(3, none)], [0, 1, 2, 3, 4, 5, 6, 7, 8, 9, 10, 11, 12, 13, 14, 15, 16, 17, 18, 19, 20, 21, 22, 23, 24, 25, 26, 27, 28, 29, 30, 31, 32, 33, 34, 35, 36, 37, 38, 39, 40, 41, 42, 43, 44, 45, 46, 47, 48, 49, 50, 51, 52, 53, 54, 55, 56, 57, 58, 59, 60, 61, 62, 63, 64, 65, 66, 67, 68, 69, 70, 71, 72, 73], none⟩,
   ⟨[(82, some (77, true))], [0, 1, 2, 3, 4, 5, 6, 7, 8, 9, 10, 11, 12, 13, 14, 15, 16, 17, 18, 19, 20, 21, 22, 23, 24, 25, 26, 27, 28, 29, 30, 31, 32, 33, 34, 35, 36, 37, 38, 39, 40, 41, 42, 43, 44, 45, 46, 47, 48, 49, 50, 51, 52, 53, 54, 55, 56, 57, 58, 59, 60, 61, 62, 63, 64, 65, 66, 67, 68, 69, 70, 71, 72, 73, 77], none⟩,
   ⟨[(81, some (76, true)), (83, some (78, true))], [0, 1, 2, 3, 4, 5, 6, 7, 8, 9, 10, 11, 12, 13, 14, 15, 16, 17, 18, 19, 20, 21, 22, 23, 24, 25, 26, 27, 28, 29, 30, 31, 32, 33, 34, 35, 36, 37, 38, 39, 40, 41, 42, 43, 44, 45, 46, 47, 48, 49, 50, 51, 52, 53, 54, 55, 56, 57, 58, 59, 60, 61, 62, 63, 64, 65, 66, 67, 68, 69, 70, 71, 72, 73, 74, 75, 76, 77, 78], none⟩,
   ⟨[(78, some (73, false)), (84, some (79, false))], [0, 1, 2, 3, 4, 5, 6, 7, 8, 9, 10, 11, 12, 13, 14, 15, 16, 17, 18, 19, 20, 21, 22, 23, 24, 25, 26, 27, 28, 29, 30, 31, 32, 33, 34, 35, 36, 37, 38, 39, 40, 41, 42, 43, 44, 45, 46, 47, 48, 49, 50, 51, 52, 53, 54, 55, 56, 57, 58, 59, 60, 61, 62, 63, 64, 65, 66, 67, 68, 69, 70, 71, 72, 73, 74, 75, 76, 77, 78, 79], none⟩,
   ⟨[(85, some (80, false))], [0, 1, 2, 3, 4, 5, 6, 7, 8, 9, 10, 11, 12, 13, 14, 15, 16, 17, 18, 19, 20, 21, 22, 23, 24, 25, 26, 27, 28, 29, 30, 31, 32, 33, 34, 35, 36, 37, 38, 39, 40, 41, 42, 43, 44, 45, 46, 47, 48, 49, 50, 51, 52, 53, 54, 55, 56, 57, 58, 59, 60, 61, 62, 63, 64, 65, 66, 67, 68, 69, 70, 71, 72, 73, 74, 75, 76, 77, 78, 79, 80], none⟩] [] _ rfl rfl ?_
 refine da 62 ?_
 refine dq_gpure rfl (fun s => .opU rfl (.opU rfl (.nil))) rfl (fun _ => gdI.ok) (fun s hs hg _ => loc_call (equalI_spec _ _) rfl) (by exact .nil) ?_
 refine da 13 ?_
 refine dq_gpure rfl (fun s => .opU rfl (.nil)) rfl (fun _ => gdI.ok) (fun s hs hg _ => loc_call (fieldOf_spec _) rfl) (by exact .nil) ?_
 refine da 2 ?_
 refine dq_gpure rfl (fun s => .opU rfl (.opU rfl (.nil))) rfl (fun _ => gdI.ok) (fun s hs hg _ => loc_call (finF_spec _ _) rfl) (by exact .nil) ?_
 refine da 2 ?_
 refine dq_end (rs := []) () rfl (fun _ => rfl) (.nil) rfl (fun _ => rfl) (fun _ _ => ?_)
 dsimp only [outG, outM, List.map, List.set, id]
 refine run_retP Tryz.func85 rfl rfl ?_
 exact d_B (by unfold fitsR; simp only [and_assoc])
end Go.Q
