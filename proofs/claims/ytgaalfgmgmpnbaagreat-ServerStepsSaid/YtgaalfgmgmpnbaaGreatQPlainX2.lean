/- Contracts of what servers hold, in the reference. -/
import Derived.Test.YtgaalfgmgmpnbaaGreatQServer7
import Derived.Test.YtgaalfgmgmpnbaaGreatQApi2
set_option linter.unusedVariables false
set_option linter.unusedSimpArgs false
namespace Go.Q
open Go.Proofs
open Classical
theorem rpow_spec (p a : Int) (n : Nat) (h : 2 ≤ p ∧ p ≤ 65521) (ha : 0 ≤ a ∧ a ≤ 65521) (hn : n ≤ 65521) : SpecP Tryz.prog 156 [dAgg [dInt .i64 p], dInt .i64 a, dInt .i64 (n : Nat)] (dInt .i64 (powM p a n)) := by
  refine specP_of_body Tryz.func156 rfl rfl (fun I M => ?_)
  refine run_seq ?_
  refine run_region ?_
  refine run_op (loc_boxN rfl) rfl ?_
  refine run_op (loc_assign rfl) rfl ?_
  refine run_nil ?_
  refine run_seq ?_
  refine run_region ?_
  refine run_op (loc_fieldAddr rfl) rfl ?_
  refine run_op (loc_load1 rfl) rfl ?_
  first | refine run_op (loc_rem rfl rfl (by first | omega | assumption)) rfl ?_ | refine run_op (loc_remW rfl rfl (by first | omega | assumption)) rfl ?_
  refine run_op (loc_assign rfl) rfl ?_
  refine run_nil ?_
  refine run_seq ?_
  refine run_block ?_
  refine run_loopC (σ := Int × Int × Nat) (ks := [3]) (.cons rfl (.nil)) (fun s => [(1, dInt .i64 s.2.1), (2, dInt .i64 (s.2.2 : Nat)), (7, dInt .i64 s.1)]) (fun s => (0 ≤ s.1 ∧ s.1 < p) ∧ (0 ≤ s.2.1 ∧ s.2.1 ≤ 65521) ∧ s.2.2 ≤ 65521 ∧ s.1 * s.2.1 ^ s.2.2 % p = powM p a n) (fun s => s.2.2) ((1, a, n)) (⟨⟨by omega, by simp only; omega⟩, ha, hn, by rw [Int.one_mul]; rfl⟩) (.cons rfl (by first | exact fun _ _ h => h | exact d_int (by omega) | exact d_int (by simp) | exact d_intN (by omega) | exact d_any) (.cons rfl (by first | exact fun _ _ h => h | exact d_int (by omega) | exact d_int (by simp) | exact d_intN (by omega) | exact d_any) (.cons rfl (d_int (Int.emod_eq_of_lt (by omega) (by omega))) .nil))) ?_
  rintro s ⟨hx, hb, hm, he⟩ ih1
  have hbb := mod_bd (s.2.1 * s.2.1) (show 0 < p by omega)
  have hxb := mod_bd (s.1 * s.2.1) (show 0 < p by omega)
  have hm1 := mul_bd (a := s.1) (b := s.2.1) (A := 65521) (B := 65521) (by omega) (by omega) (by omega) (by omega)
  have hm2 := mul_bd (a := s.2.1) (b := s.2.1) (A := 65521) (B := 65521) (by omega) (by omega) (by omega) (by omega)
  refine run_seq ?_
  refine run_seq ?_
  refine run_region ?_
  refine run_op (loc_move rfl) rfl ?_
  refine run_op (loc_gtr rfl rfl) rfl ?_
  refine run_nil ?_
  refine run_cond rfl (fun h2 => ?_) (fun h2 => ?_)
  ·
   refine run_skip ?_
   refine run_seq ?_
   refine run_block ?_
   refine run_seq ?_
   refine run_seq ?_
   refine run_region ?_
   refine run_op (loc_move rfl) rfl ?_
   refine run_op (loc_and1 rfl rfl (by first | omega | assumption)) rfl ?_
   refine run_op (loc_eql rfl rfl) rfl ?_
   refine run_nil ?_
   refine run_joinC (σ := Int) (ks := [1, 2, 3]) (.cons rfl (.cons rfl (.cons rfl (.nil)))) (fun y => [(7, dInt .i64 y)]) (fun y => (0 ≤ y ∧ y < p) ∧ y * (s.2.1 * s.2.1 % p) ^ (s.2.2 / 2) % p = powM p a n) (fun j3 => ?_) ?_
   ·
    refine run_cond rfl (fun h4 => ?_) (fun h4 => ?_)
    ·
     refine run_region ?_
     refine run_op (loc_move rfl) rfl ?_
     refine run_op (loc_move rfl) rfl ?_
     first | refine run_op (loc_mul rfl rfl (by first | omega | assumption)) rfl ?_ | refine run_op (loc_mulW rfl rfl) rfl ?_
     refine run_op (loc_fieldAddr rfl) rfl ?_
     refine run_op (loc_load1 rfl) rfl ?_
     first | refine run_op (loc_rem rfl rfl (by first | omega | assumption)) rfl ?_ | refine run_op (loc_remW rfl rfl (by first | omega | assumption)) rfl ?_
     refine run_op (loc_assign rfl) rfl ?_
     refine run_nil ?_
     exact run_atC j3 (s.1 * s.2.1 % p) (⟨hxb, by rw [pow_step1 p s.1 s.2.1 s.2.2 (by omega), he]⟩) (.cons rfl (by first | exact fun _ _ h => h | exact d_int (by omega) | exact d_int (by simp) | exact d_intN (by omega) | exact d_any) .nil) (.cons rfl (fun _ _ x => x) (.cons rfl (fun _ _ x => x) (.cons rfl (fun _ _ x => x) (.nil))))
    ·
     refine run_skip ?_
     exact run_atC j3 (s.1) (⟨hx, by rw [pow_step0 p s.1 s.2.1 s.2.2 (by omega), he]⟩) (.cons rfl (by first | exact fun _ _ h => h | exact d_int (by omega) | exact d_int (by simp) | exact d_intN (by omega) | exact d_any) .nil) (.cons rfl (fun _ _ x => x) (.cons rfl (fun _ _ x => x) (.cons rfl (fun _ _ x => x) (.nil))))
   rintro y ⟨hy, hye⟩
   refine run_region ?_
   refine run_op (loc_move rfl) rfl ?_
   refine run_op (loc_move rfl) rfl ?_
   first | refine run_op (loc_mul rfl rfl (by first | omega | assumption)) rfl ?_ | refine run_op (loc_mulW rfl rfl) rfl ?_
   refine run_op (loc_fieldAddr rfl) rfl ?_
   refine run_op (loc_load1 rfl) rfl ?_
   first | refine run_op (loc_rem rfl rfl (by first | omega | assumption)) rfl ?_ | refine run_op (loc_remW rfl rfl (by first | omega | assumption)) rfl ?_
   refine run_op (loc_assign rfl) rfl ?_
   refine run_nil ?_
   refine run_inBlock ?_
   refine run_region ?_
   refine run_op (loc_move rfl) rfl ?_
   refine run_op (loc_shrN (c := 1) (q := 2) rfl rfl rfl (by decide) (by first | omega | assumption) (by decide)) rfl ?_
   refine run_op (loc_assign rfl) rfl ?_
   refine run_nil ?_
   exact run_againC ih1 ((y, s.2.1 * s.2.1 % p, s.2.2 / 2)) (⟨hy, by simp only; omega, by simp only; omega, hye⟩) (by simp only; omega) (.cons rfl (by first | exact fun _ _ h => h | exact d_int (by omega) | exact d_int (by simp) | exact d_intN (by omega) | exact d_any) (.cons rfl (by first | exact fun _ _ h => h | exact d_int (by omega) | exact d_int (by simp) | exact d_intN (by omega) | exact d_any) (.cons rfl (by first | exact fun _ _ h => h | exact d_int (by omega) | exact d_int (by simp) | exact d_intN (by omega) | exact d_any) .nil))) (.cons rfl (fun _ _ x => x) (.nil))
  ·
   refine run_exit rfl ?_
   refine run_seq ?_
   refine run_region ?_
   refine run_op (loc_move rfl) rfl ?_
   refine run_op (loc_assign rfl) rfl ?_
   refine run_nil ?_
   refine run_retP Tryz.func156 rfl rfl ?_
   exact d_int (by rw [← he, show s.2.2 = 0 by omega, Int.pow_zero, Int.mul_one, Int.emod_eq_of_lt hx.1 hx.2])
theorem rcodc_spec (p s d g : Int) (h : codE p s d g = 0) : SpecP Tryz.prog 154 [dAgg [dInt .i64 p], dAgg [dInt .i64 s, dInt .i64 d, dInt .i64 g]] (dInt .i64 0) := by
  have hz := codE_zero h
  have hz1 := hz.1.1
  have hz2 := hz.1.2.1
  refine specP_of_body Tryz.func154 rfl rfl (fun I M => ?_)
  refine run_seq ?_
  refine run_region ?_
  refine run_op (loc_boxN rfl) rfl ?_
  refine run_op (loc_boxN rfl) rfl ?_
  refine run_op (loc_assign rfl) rfl ?_
  refine run_nil ?_
  refine run_seq ?_
  refine run_seq ?_
  refine run_region ?_
  refine run_op (loc_loadN rfl rfl) rfl ?_
  refine run_op (loc_call (rcheck3_spec _) rfl) rfl ?_
  refine run_op (loc_assign rfl) rfl ?_
  refine run_nil ?_
  refine run_seq ?_
  refine run_region ?_
  refine run_op (loc_move rfl) rfl ?_
  refine run_op (loc_neq rfl rfl) rfl ?_
  refine run_nil ?_
  refine run_cond rfl (fun h1 => ?_) (fun h1 => ?_)
  · exfalso; exact h1 (errP_zero.2 hz.1)
  ·
   refine run_skip ?_
   refine run_seq ?_
   refine run_seq ?_
   refine run_region ?_
   refine run_op (loc_fieldAddr rfl) rfl ?_
   refine run_op (loc_load1 rfl) rfl ?_
   refine run_op (loc_lss rfl rfl) rfl ?_
   refine run_op (loc_move rfl) rfl ?_
   refine run_gfirst rfl rfl gdI.ok (fun hg => loc_fieldAddr rfl) rfl ?_
   refine run_gop rfl rfl gdI.ok (fun hg => loc_load1 rfl) rfl ?_
   refine run_gop rfl rfl gdI.ok (fun hg => loc_gtr rfl rfl) rfl ?_
   refine run_gleave ?_
   refine run_op (loc_or rfl rfl) rfl ?_
   refine run_op (loc_move rfl) rfl ?_
   refine run_gfirst rfl rfl gdI.ok (fun hg => loc_fieldAddr rfl) rfl ?_
   refine run_gop rfl rfl gdI.ok (fun hg => loc_load1 rfl) rfl ?_
   refine run_gop rfl rfl gdI.ok (fun hg => loc_fieldAddr rfl) rfl ?_
   refine run_gop rfl rfl gdI.ok (fun hg => loc_load1 rfl) rfl ?_
   refine run_gop rfl rfl gdI.ok (fun hg => loc_geq rfl rfl) rfl ?_
   refine run_gleave ?_
   refine run_op (loc_or rfl rfl) rfl ?_
   refine run_op (loc_move rfl) rfl ?_
   refine run_gfirst rfl rfl gdI.ok (fun hg => loc_fieldAddr rfl) rfl ?_
   refine run_gop rfl rfl gdI.ok (fun hg => loc_load1 rfl) rfl ?_
   refine run_gop rfl rfl gdI.ok (fun hg => loc_lss rfl rfl) rfl ?_
   refine run_gleave ?_
   refine run_op (loc_or rfl rfl) rfl ?_
   refine run_op (loc_move rfl) rfl ?_
   refine run_gfirst rfl rfl gdI.ok (fun hg => loc_fieldAddr rfl) rfl ?_
   refine run_gop rfl rfl gdI.ok (fun hg => loc_load1 rfl) rfl ?_
   refine run_gop rfl rfl gdI.ok (fun hg => loc_fieldAddr rfl) rfl ?_
   refine run_gop rfl rfl gdI.ok (fun hg => loc_load1 rfl) rfl ?_
   refine run_gop rfl rfl gdI.ok (fun hg => loc_gtr rfl rfl) rfl ?_
   refine run_gleave ?_
   refine run_op (loc_or rfl rfl) rfl ?_
   refine run_op (loc_move rfl) rfl ?_
   refine run_gfirst rfl rfl gdI.ok (fun hg => loc_fieldAddr rfl) rfl ?_
   refine run_gop rfl rfl gdI.ok (fun hg => loc_load1 rfl) rfl ?_
   refine run_gop rfl rfl gdI.ok (fun hg => loc_lss rfl rfl) rfl ?_
   refine run_gleave ?_
   refine run_op (loc_or rfl rfl) rfl ?_
   refine run_op (loc_move rfl) rfl ?_
   refine run_gfirst rfl rfl gdI.ok (fun hg => loc_fieldAddr rfl) rfl ?_
   refine run_gop rfl rfl gdI.ok (fun hg => loc_load1 rfl) rfl ?_
   refine run_gop rfl rfl gdI.ok (fun hg => loc_fieldAddr rfl) rfl ?_
   refine run_gop rfl rfl gdI.ok (fun hg => loc_load1 rfl) rfl ?_
   refine run_gop rfl rfl gdI.ok (fun hg => loc_gtr rfl rfl) rfl ?_
   refine run_gleave ?_
   refine run_op (loc_or rfl rfl) rfl ?_
   refine run_op (loc_move rfl) rfl ?_
   refine run_gfirst rfl rfl gdI.ok (fun hg => loc_fieldAddr rfl) rfl ?_
   refine run_gop rfl rfl gdI.ok (fun hg => loc_load1 rfl) rfl ?_
   first | refine run_gop rfl rfl gdI.ok (fun hg => loc_mul rfl rfl (by first | omega | assumption)) rfl ?_ | refine run_gop rfl rfl gdI.ok (fun hg => loc_mulW rfl rfl) rfl ?_
   refine run_gop rfl rfl gdI.ok (fun hg => loc_fieldAddr rfl) rfl ?_
   refine run_gop rfl rfl gdI.ok (fun hg => loc_load1 rfl) rfl ?_
   first | refine run_gop rfl rfl gdI.ok (fun hg => loc_add rfl rfl (by first | omega | assumption)) rfl ?_ | refine run_gop rfl rfl gdI.ok (fun hg => loc_addW rfl rfl) rfl ?_
   first | refine run_gop rfl rfl gdI.ok (fun hg => loc_sub rfl rfl (by first | omega | assumption)) rfl ?_ | refine run_gop rfl rfl gdI.ok (fun hg => loc_subW rfl rfl) rfl ?_
   refine run_gop rfl rfl gdI.ok (fun hg => loc_fieldAddr rfl) rfl ?_
   refine run_gop rfl rfl gdI.ok (fun hg => loc_load1 rfl) rfl ?_
   refine run_gop rfl rfl gdI.ok (fun hg => loc_gtr rfl rfl) rfl ?_
   refine run_gleave ?_
   refine run_op (loc_or rfl rfl) rfl ?_
   refine run_nil ?_
   refine run_cond rfl (fun h2 => ?_) (fun h2 => ?_)
   · exfalso; have h5 := h2; omega
   ·
    refine run_skip ?_
    refine run_seq ?_
    refine run_region ?_
    refine run_op (loc_assign rfl) rfl ?_
    refine run_nil ?_
    refine run_retP Tryz.func154 rfl rfl ?_
    exact d_int rfl
theorem rgroups_spec (s d g : Int) (n : Nat) (hg : 1 ≤ g ∧ g ≤ 10) (hn : n ≤ 1024) : SpecP Tryz.prog 155 [dAgg [dInt .i64 s, dInt .i64 d, dInt .i64 g], dInt .i64 (n : Nat)] (dTup [dInt .i64 (grpN n g.toNat : Nat), dInt .i64 0]) := by
  refine specP_of_body Tryz.func155 rfl rfl (fun I M => ?_)
  refine run_seq ?_
  refine run_region ?_
  refine run_op (loc_boxN rfl) rfl ?_
  refine run_op (loc_assign rfl) rfl ?_
  refine run_op (loc_assign rfl) rfl ?_
  refine run_nil ?_
  refine run_seq ?_
  refine run_seq ?_
  refine run_region ?_
  refine run_op (loc_fieldAddr rfl) rfl ?_
  refine run_op (loc_load1 rfl) rfl ?_
  refine run_op (loc_lss rfl rfl) rfl ?_
  refine run_op (loc_move rfl) rfl ?_
  refine run_gfirst rfl rfl gdI.ok (fun hg => loc_move rfl) rfl ?_
  refine run_gop rfl rfl gdI.ok (fun hg => loc_lss rfl rfl) rfl ?_
  refine run_gleave ?_
  refine run_op (loc_or rfl rfl) rfl ?_
  refine run_op (loc_move rfl) rfl ?_
  refine run_gfirst rfl rfl gdI.ok (fun hg => loc_move rfl) rfl ?_
  refine run_gop rfl rfl gdI.ok (fun hg => loc_gtr rfl rfl) rfl ?_
  refine run_gleave ?_
  refine run_op (loc_or rfl rfl) rfl ?_
  refine run_nil ?_
  refine run_cond rfl (fun h1 => ?_) (fun h1 => ?_)
  · exfalso; omega
  ·
   refine run_skip ?_
   refine run_seq ?_
   have hdb : 0 ≤ (n : Int) / g ∧ (n : Int) / g ≤ n := ⟨Int.ediv_nonneg (by omega) (by omega), Int.ediv_le_self _ (by omega)⟩
   have hmd := mod_bd (n : Int) (show 0 < g by omega)
   refine run_region ?_
   refine run_op (loc_move rfl) rfl ?_
   refine run_op (loc_fieldAddr rfl) rfl ?_
   refine run_op (loc_load1 rfl) rfl ?_
   first | refine run_op (loc_quo rfl rfl (by first | omega | assumption)) rfl ?_ | refine run_op (loc_quoW rfl rfl (by first | omega | assumption)) rfl ?_
   refine run_op (loc_assign rfl) rfl ?_
   refine run_nil ?_
   refine run_seq ?_
   refine run_seq ?_
   refine run_region ?_
   refine run_op (loc_move rfl) rfl ?_
   refine run_op (loc_fieldAddr rfl) rfl ?_
   refine run_op (loc_load1 rfl) rfl ?_
   first | refine run_op (loc_rem rfl rfl (by first | omega | assumption)) rfl ?_ | refine run_op (loc_remW rfl rfl (by first | omega | assumption)) rfl ?_
   refine run_op (loc_gtr rfl rfl) rfl ?_
   refine run_nil ?_
   refine run_joinC (σ := Int) (ks := []) (.nil) (fun y => [(6, dInt .i64 y)]) (fun y => y = (grpN n g.toNat : Nat)) (fun j2 => ?_) ?_
   ·
    refine run_cond rfl (fun h3 => ?_) (fun h3 => ?_)
    ·
     have h5 := h3
     refine run_region ?_
     refine run_op (loc_move rfl) rfl ?_
     first | refine run_op (loc_add rfl rfl (by first | omega | assumption)) rfl ?_ | refine run_op (loc_addW rfl rfl) rfl ?_
     refine run_op (loc_assign rfl) rfl ?_
     refine run_nil ?_
     exact run_atC j2 ((n : Int) / g + 1) (grp_quo1 hg.1 h5) (.cons rfl (by first | exact fun _ _ h => h | exact d_int (by omega) | exact d_int (by simp) | exact d_intN (by omega) | exact d_any) .nil) (.nil)
    ·
     have h5 := h3
     refine run_skip ?_
     exact run_atC j2 ((n : Int) / g) (grp_quo0 hg.1 h5) (.cons rfl (by first | exact fun _ _ h => h | exact d_int (by omega) | exact d_int (by simp) | exact d_intN (by omega) | exact d_any) .nil) (.nil)
   rintro y rfl
   refine run_seq ?_
   refine run_region ?_
   refine run_op (loc_move rfl) rfl ?_
   refine run_op (loc_assign rfl) rfl ?_
   refine run_op (loc_assign rfl) rfl ?_
   refine run_nil ?_
   refine run_ret2P Tryz.func155 rfl rfl rfl ?_
   exact fun _ _ h => h
theorem rhold18_spec (p s d g w : Int) (rows : List (List Int)) (j : Int) (hc : codE p s d g = 0) (hj : 1 ≤ j ∧ j ≤ s) (hw : 0 ≤ w ∧ w ≤ 64) (hn : rows.length ≤ 1024) (hr : ∀ r ∈ rows, (r.length : Int) = w ∧ allP p r) : SpecP Tryz.prog 118 [dAgg [dInt .i64 p], dAgg [dInt .i64 s, dInt .i64 d, dInt .i64 g], dInt .i64 w, dRows rows, dInt .i64 j] (dTup [dRows (holdG p s d g w rows j), dInt .i64 0]) := by
  obtain ⟨hp, hs, hsp, hd, hg, hgd⟩ := codE_zero hc
  have hpb := hp.1
  have hpb2 := hp.2.1
  have hE : holdE p s d g w rows j = 0 := by
    unfold holdE
    rw [if_neg (Classical.not_not.2 hc), if_neg (by omega), if_neg (by omega)]
    refine firstErr_none fun r h => ?_
    unfold rowErr
    rw [if_neg (by have := (hr r h).1; omega), if_neg (Classical.not_not.2 (hr r h).2)]
  refine specP_of_body Tryz.func118 rfl rfl (fun I M => ?_)
  refine run_seq ?_
  refine run_region ?_
  refine run_op (loc_boxN rfl) rfl ?_
  refine run_op (loc_boxN rfl) rfl ?_
  refine run_op (loc_assign rfl) rfl ?_
  refine run_op (loc_assign rfl) rfl ?_
  refine run_nil ?_
  refine run_seq ?_
  refine run_seq ?_
  refine run_region ?_
  refine run_op (loc_loadN rfl rfl) rfl ?_
  refine run_op (loc_loadN rfl rfl) rfl ?_
  refine run_op (loc_call (rcodc_spec _ _ _ _ hc) rfl) rfl ?_
  refine run_op (loc_assign rfl) rfl ?_
  refine run_nil ?_
  refine run_seq ?_
  refine run_region ?_
  refine run_op (loc_move rfl) rfl ?_
  refine run_op (loc_neq rfl rfl) rfl ?_
  refine run_nil ?_
  refine run_cond rfl (fun h1 => ?_) (fun h1 => ?_)
  · exfalso; exact h1 rfl
  ·
   refine run_skip ?_
   refine run_seq ?_
   refine run_seq ?_
   refine run_region ?_
   refine run_op (loc_move rfl) rfl ?_
   refine run_op (loc_lss rfl rfl) rfl ?_
   refine run_op (loc_move rfl) rfl ?_
   refine run_gfirst rfl rfl gdI.ok (fun hg => loc_move rfl) rfl ?_
   refine run_gop rfl rfl gdI.ok (fun hg => loc_fieldAddr rfl) rfl ?_
   refine run_gop rfl rfl gdI.ok (fun hg => loc_load1 rfl) rfl ?_
   refine run_gop rfl rfl gdI.ok (fun hg => loc_gtr rfl rfl) rfl ?_
   refine run_gleave ?_
   refine run_op (loc_or rfl rfl) rfl ?_
   refine run_nil ?_
   refine run_cond rfl (fun h2 => ?_) (fun h2 => ?_)
   · exfalso; omega
   ·
    refine run_skip ?_
    refine run_seq ?_
    refine run_seq ?_
    refine run_region ?_
    refine run_op (loc_move rfl) rfl ?_
    refine run_op (loc_lss rfl rfl) rfl ?_
    refine run_op (loc_move rfl) rfl ?_
    refine run_gfirst rfl rfl gdI.ok (fun hg => loc_move rfl) rfl ?_
    refine run_gop rfl rfl gdI.ok (fun hg => loc_gtr rfl rfl) rfl ?_
    refine run_gleave ?_
    refine run_op (loc_or rfl rfl) rfl ?_
    refine run_op (loc_move rfl) rfl ?_
    refine run_gfirst rfl rfl gdI.ok (fun hg => loc_move rfl) rfl ?_
    refine run_gop rfl rfl gdI.ok (fun hg => loc_len rfl) rfl ?_
    refine run_gop rfl rfl gdI.ok (fun hg => loc_gtr rfl rfl) rfl ?_
    refine run_gleave ?_
    refine run_op (loc_or rfl rfl) rfl ?_
    refine run_nil ?_
    refine run_cond rfl (fun h3 => ?_) (fun h3 => ?_)
    · exfalso; omega
    ·
     refine run_skip ?_
     refine run_seq ?_
     refine run_seq ?_
     refine run_region ?_
     refine run_op (loc_move rfl) rfl ?_
     first | refine runL_fact (s := 49) rfl (fun _ _ h => dSl_len h) (fun hlen4 => ?_) | skip
     refine run_op (loc_len rfl) rfl ?_
     refine run_op (loc_move rfl) rfl ?_
     refine run_nil ?_
     refine run_block ?_
     refine run_loopC (σ := Nat) (ks := [2, 3, 4, 5, 6, 49, 50]) (.cons rfl (.cons rfl (.cons rfl (.cons rfl (.cons rfl (.cons rfl (.cons rfl (.nil)))))))) (fun i => [(51, dInt .i64 (i : Nat))]) (fun i => i ≤ rows.length) (fun i => rows.length - i) (0) ((by omega)) (.cons rfl (by first | exact fun _ _ h => h | exact d_int (by omega) | exact d_int (by simp) | exact d_intN (by omega) | exact d_any) .nil) ?_
     intro i hi ih5
     refine run_seq ?_
     refine run_region ?_
     refine run_op (loc_lss rfl rfl) rfl ?_
     refine run_nil ?_
     refine run_seq ?_
     refine run_cond rfl (fun h6 => ?_) (fun h6 => ?_)
     ·
      have hri := hr _ (getD_mem (xs := rows) (k := i) (by omega))
      have hri1 := hri.1
      refine run_skip ?_
      refine run_seq ?_
      refine run_block ?_
      refine run_seq ?_
      refine run_region ?_
      first | refine run_op (loc_index rfl rfl (by first | omega | assumption)) rfl ?_ | refine run_op (loc_indexI rfl rfl (by first | omega | assumption)) rfl ?_
      refine run_op (loc_load1 rfl) rfl ?_
      refine run_op (loc_assign rfl) rfl ?_
      refine run_nil ?_
      refine run_seq ?_
      refine run_seq ?_
      refine run_region ?_
      refine run_op (loc_move rfl) rfl ?_
      first | refine runL_fact (s := 55) rfl (fun _ _ h => dSl_len h) (fun hlen7 => ?_) | skip
      refine run_op (loc_len rfl) rfl ?_
      refine run_op (loc_move rfl) rfl ?_
      refine run_op (loc_neq rfl rfl) rfl ?_
      refine run_nil ?_
      refine run_cond rfl (fun h8 => ?_) (fun h8 => ?_)
      · exfalso; omega
      ·
       refine run_skip ?_
       refine run_seq ?_
       refine run_region ?_
       refine run_op (loc_loadN rfl rfl) rfl ?_
       refine run_op (loc_move rfl) rfl ?_
       refine run_op (loc_call (in3_spec _ _) rfl) rfl ?_
       refine run_op (loc_not rfl) rfl ?_
       refine run_nil ?_
       refine run_cond rfl (fun h9 => ?_) (fun h9 => ?_)
       · exfalso; exact h9 ⟨hp, hri.2⟩
       ·
        refine run_skip ?_
        refine run_inBlock ?_
        refine run_region ?_
        first | refine run_op (loc_add rfl rfl (by first | omega | assumption)) rfl ?_ | refine run_op (loc_addW rfl rfl) rfl ?_
        refine run_op (loc_move rfl) rfl ?_
        refine run_nil ?_
        exact run_againC ih5 (i + 1) (by omega) (by omega) (.cons rfl (by first | exact fun _ _ h => h | exact d_int (by omega) | exact d_int (by simp) | exact d_intN (by omega) | exact d_any) .nil) (.cons rfl (fun _ _ x => x) (.cons rfl (fun _ _ x => x) (.cons rfl (fun _ _ x => x) (.cons rfl (fun _ _ x => x) (.cons rfl (fun _ _ x => x) (.cons rfl (fun _ _ x => x) (.cons rfl (fun _ _ x => x) (.nil))))))))
     ·
      refine run_exit rfl ?_
      refine run_seq ?_
      refine run_region ?_
      refine run_op (loc_loadN rfl rfl) rfl ?_
      refine run_op (loc_move rfl) rfl ?_
      first | refine runL_fact (s := 66) rfl (fun _ _ h => dSl_len h) (fun hlen10 => ?_) | skip
      refine run_op (loc_len rfl) rfl ?_
      refine run_op (loc_call (rgroups_spec _ _ _ _ ⟨by omega, by omega⟩ hn) rfl) rfl ?_
      refine run_op (loc_move rfl) rfl ?_
      refine run_op (loc_extract rfl rfl) rfl ?_
      refine run_op (loc_extract rfl rfl) rfl ?_
      refine run_op (loc_assign rfl) rfl ?_
      refine run_op (loc_assign rfl) rfl ?_
      refine run_nil ?_
      refine run_seq ?_
      refine run_region ?_
      refine run_op (loc_assign rfl) rfl ?_
      refine run_nil ?_
      refine run_seq ?_
      refine run_seq ?_
      refine run_region ?_
      refine run_op (loc_assign rfl) rfl ?_
      refine run_nil ?_
      refine run_block ?_
      refine run_rowNil 44 1 fR ?_
      refine run_loopF (σ := Value × Nat) (ks := [2, 3, 4, 5, 6, 15]) (.cons rfl (.cons rfl (.cons rfl (.cons rfl (.cons rfl (.cons rfl (.nil))))))) (fun q => [(17, dVal q.1), (18, dInt .i64 (q.2 : Nat))]) (fun q => [rRow q.1 44 1 fR (((grpL rows g.toNat).take q.2).map fun x => heldG p j w.toNat x.2)]) (fun q => q.2 ≤ grpN rows.length g.toNat) (fun q => grpN rows.length g.toNat - q.2) ((.slice none 0 0, 0)) (Nat.zero_le _) (.cons rfl (by first | exact fun _ _ h => h | exact d_int (by omega) | exact d_int (by simp) | exact d_intN (by omega) | exact d_any) (.cons rfl (by first | exact fun _ _ h => h | exact d_int (by omega) | exact d_int (by simp) | exact d_intN (by omega) | exact d_any) .nil)) (rfl) ?_
      intro q hq ih11
      have hml : (((grpL rows g.toNat).take q.2).map fun x => heldG p j w.toNat x.2).length = q.2 := by rw [List.length_map, List.length_take, grpL_len]; omega
      refine run_seq ?_
      refine run_seq ?_
      refine run_region ?_
      refine run_op (loc_move rfl) rfl ?_
      refine run_op (loc_move rfl) rfl ?_
      refine run_op (loc_lss rfl rfl) rfl ?_
      refine run_nil ?_
      refine run_cond rfl (fun h12 => ?_) (fun h12 => ?_)
      ·
       have hlt : q.2 * g.toNat < rows.length := (grpN_lt (by omega)).1 (by omega)
       have hig : ((q.2 * g.toNat : Nat) : Int) = (q.2 : Int) * g := by rw [Int.natCast_mul, show ((g.toNat : Nat) : Int) = g by omega]
       have hq3 : q.2 < 1024 := by have := Nat.le_mul_of_pos_right q.2 (show 0 < g.toNat by omega); omega
       have hi2 : (q.2 + 1) * g.toNat = q.2 * g.toNat + g.toNat := by rw [Nat.add_mul, Nat.one_mul]
       have hgl : ((rows.take (min ((q.2 + 1) * g.toNat) rows.length)).drop (q.2 * g.toNat)).length = min ((q.2 + 1) * g.toNat) rows.length - q.2 * g.toNat := by rw [List.length_drop, List.length_take]; omega
       refine run_skip ?_
       refine run_seq ?_
       refine run_block ?_
       refine run_seq ?_
       refine run_region ?_
       refine run_op (loc_move rfl) rfl ?_
       refine run_new (loc_makeSlice rfl rfl (by first | omega | assumption) (by first | omega | assumption) _ _ rfl (by simp)) rfl (fun b77 _ => ?_)
       refine run_op (loc_assign rfl) rfl ?_
       refine run_nil ?_
       refine run_seq ?_
       refine run_seq ?_
       refine run_region ?_
       refine run_op (loc_assign rfl) rfl ?_
       refine run_nil ?_
       refine run_block ?_
       refine run_loopF (σ := Nat) (ks := [2, 3, 4, 5, 6, 15, 17, 18, 19]) (.cons rfl (.cons rfl (.cons rfl (.cons rfl (.cons rfl (.cons rfl (.cons rfl (.cons rfl (.cons rfl (.nil)))))))))) (fun k => [(20, dInt .i64 (k : Nat))]) (fun k => [rRow (.slice (some ⟨b77, 0, none⟩) w.toNat w.toNat) 3 1 fI (heldN p j w.toNat ((rows.take (min ((q.2 + 1) * g.toNat) rows.length)).drop (q.2 * g.toNat)) k)]) (fun k => k ≤ ((rows.take (min ((q.2 + 1) * g.toNat) rows.length)).drop (q.2 * g.toNat)).length) (fun k => ((rows.take (min ((q.2 + 1) * g.toNat) rows.length)).drop (q.2 * g.toNat)).length - k) (0) (Nat.zero_le _) (.cons rfl (by first | exact fun _ _ h => h | exact d_int (by omega) | exact d_int (by simp) | exact d_intN (by omega) | exact d_any) .nil) (rfl) ?_
       intro k hk ih13
       obtain ⟨hcl, hca⟩ := heldN_ok hpb j w.toNat ((rows.take (min ((q.2 + 1) * g.toNat) rows.length)).drop (q.2 * g.toNat)) k
       refine run_seq ?_
       refine run_seq ?_
       have hmb := mul_bd (a := (q.2 : Int)) (b := g) (A := 1024) (B := 10) (by omega) (by have := Nat.le_mul_of_pos_right q.2 (show 0 < g.toNat by omega); omega) (by omega) (by omega)
       refine run_region ?_
       refine run_op (loc_move rfl) rfl ?_
       refine run_op (loc_fieldAddr rfl) rfl ?_
       refine run_op (loc_load1 rfl) rfl ?_
       refine run_op (loc_lss rfl rfl) rfl ?_
       refine run_op (loc_move rfl) rfl ?_
       refine run_gfirst rfl rfl gdI.ok (fun hg => loc_move rfl) rfl ?_
       refine run_gop rfl rfl gdI.ok (fun hg => loc_fieldAddr rfl) rfl ?_
       refine run_gop rfl rfl gdI.ok (fun hg => loc_load1 rfl) rfl ?_
       first | refine run_gop rfl rfl gdI.ok (fun hg => loc_mul rfl rfl (by first | omega | assumption)) rfl ?_ | refine run_gop rfl rfl gdI.ok (fun hg => loc_mulW rfl rfl) rfl ?_
       refine run_gop rfl rfl gdI.ok (fun hg => loc_move rfl) rfl ?_
       first | refine run_gop rfl rfl gdI.ok (fun hg => loc_add rfl rfl (by first | omega | assumption)) rfl ?_ | refine run_gop rfl rfl gdI.ok (fun hg => loc_addW rfl rfl) rfl ?_
       refine run_gop rfl rfl gdI.ok (fun hg => loc_move rfl) rfl ?_
       refine run_gop rfl rfl gdI.ok (fun hg => loc_len rfl) rfl ?_
       refine run_gop rfl rfl gdI.ok (fun hg => loc_lss rfl rfl) rfl ?_
       refine run_gleave ?_
       refine run_op (loc_and rfl rfl) rfl ?_
       refine run_nil ?_
       refine run_cond rfl (fun h14 => ?_) (fun h14 => ?_)
       ·
        have hkl : k < ((rows.take (min ((q.2 + 1) * g.toNat) rows.length)).drop (q.2 * g.toNat)).length := by omega
        have hgk : rows[((q.2 : Int) * g + (k : Int)).toNat]?.getD default = (((rows.take (min ((q.2 + 1) * g.toNat) rows.length)).drop (q.2 * g.toNat))[k]?.getD default) := by rw [List.getElem?_drop, List.getElem?_take, if_pos (by omega)]; congr 2; omega
        have hrk := hr (rows[((q.2 : Int) * g + (k : Int)).toNat]?.getD default) (getD_mem (by omega))
        rw [hgk] at hrk
        have hrk1 := hrk.1
        have hpw : 0 ≤ powM p j k ∧ powM p j k < p := mod_bd _ (by omega)
        refine run_skip ?_
        refine run_seq ?_
        refine run_block ?_
        refine run_seq ?_
        refine run_region ?_
        refine run_op (loc_loadN rfl rfl) rfl ?_
        refine run_op (loc_move rfl) rfl ?_
        refine run_op (loc_move rfl) rfl ?_
        refine run_op (loc_call (rpow_spec _ _ _ ⟨by omega, by omega⟩ ⟨by omega, by omega⟩ (by omega)) rfl) rfl ?_
        refine run_op (loc_assign rfl) rfl ?_
        refine run_nil ?_
        refine run_seq ?_
        refine run_region ?_
        refine run_op (loc_move rfl) rfl ?_
        refine run_op (loc_move rfl) rfl ?_
        refine run_op (loc_fieldAddr rfl) rfl ?_
        refine run_op (loc_load1 rfl) rfl ?_
        first | refine run_op (loc_mul rfl rfl (by first | omega | assumption)) rfl ?_ | refine run_op (loc_mulW rfl rfl) rfl ?_
        refine run_op (loc_move rfl) rfl ?_
        first | refine run_op (loc_add rfl rfl (by first | omega | assumption)) rfl ?_ | refine run_op (loc_addW rfl rfl) rfl ?_
        first | refine run_op (loc_index rfl rfl (by first | omega | assumption)) rfl ?_ | refine run_op (loc_indexI rfl rfl (by first | omega | assumption)) rfl ?_
        refine run_op (loc_load1 rfl) rfl ?_
        first | refine runL_fact (s := 107) rfl (fun _ _ h => dSl_len h) (fun hlen15 => ?_) | skip
        refine run_op (loc_len rfl) rfl ?_
        refine run_op (loc_move rfl) rfl ?_
        refine run_nil ?_
        rw [hgk]
        refine run_block ?_
        refine run_loopF (σ := Nat) (ks := [2, 3, 4, 5, 6, 15, 17, 18, 19, 20, 21, 107, 108]) (.cons rfl (.cons rfl (.cons rfl (.cons rfl (.cons rfl (.cons rfl (.cons rfl (.cons rfl (.cons rfl (.cons rfl (.cons rfl (.cons rfl (.cons rfl (.nil)))))))))))))) (fun u => [(109, dInt .i64 (u : Nat))]) (fun u => [rRow (.slice (some ⟨b77, 0, none⟩) w.toNat w.toNat) 3 1 fI (addT p (powM p j k) (heldN p j w.toNat ((rows.take (min ((q.2 + 1) * g.toNat) rows.length)).drop (q.2 * g.toNat)) k) ((((rows.take (min ((q.2 + 1) * g.toNat) rows.length)).drop (q.2 * g.toNat))[k]?.getD default).take u))]) (fun u => u ≤ (((rows.take (min ((q.2 + 1) * g.toNat) rows.length)).drop (q.2 * g.toNat))[k]?.getD default).length) (fun u => (((rows.take (min ((q.2 + 1) * g.toNat) rows.length)).drop (q.2 * g.toNat))[k]?.getD default).length - u) (0) (Nat.zero_le _) (.cons rfl (by first | exact fun _ _ h => h | exact d_int (by omega) | exact d_int (by simp) | exact d_intN (by omega) | exact d_any) .nil) (by simp only [appR]; rw [List.take_zero, addT_nil]) ?_
        intro u hu ih16
        have hal := addT_len p (powM p j k) (heldN p j w.toNat ((rows.take (min ((q.2 + 1) * g.toNat) rows.length)).drop (q.2 * g.toNat)) k) ((((rows.take (min ((q.2 + 1) * g.toNat) rows.length)).drop (q.2 * g.toNat))[k]?.getD default).take u)
        refine run_seq ?_
        refine run_region ?_
        refine run_op (loc_lss rfl rfl) rfl ?_
        refine run_nil ?_
        refine run_seq ?_
        refine run_cond rfl (fun h17 => ?_) (fun h17 => ?_)
        ·
         have hx1 := hrk.2 _ (getD_mem (xs := (((rows.take (min ((q.2 + 1) * g.toNat) rows.length)).drop (q.2 * g.toNat))[k]?.getD default)) (k := u) (by omega))
         have hx2 := hca _ (getD_mem (xs := (heldN p j w.toNat ((rows.take (min ((q.2 + 1) * g.toNat) rows.length)).drop (q.2 * g.toNat)) k)) (k := u) (by omega))
         unfold hasP at hx1 hx2
         have hx3 := addT_get p (powM p j k) (heldN p j w.toNat ((rows.take (min ((q.2 + 1) * g.toNat) rows.length)).drop (q.2 * g.toNat)) k) ((((rows.take (min ((q.2 + 1) * g.toNat) rows.length)).drop (q.2 * g.toNat))[k]?.getD default).take u) u (by rw [List.length_take]; omega)
         have hmm := mul_bd (a := (powM p j k)) (b := (((rows.take (min ((q.2 + 1) * g.toNat) rows.length)).drop (q.2 * g.toNat))[k]?.getD default)[u]?.getD default) (A := 65521) (B := 65521) (by omega) (by omega) (by omega) (by omega)
         refine run_skip ?_
         refine run_seq ?_
         refine run_block ?_
         refine run_seq ?_
         refine run_region ?_
         refine run_op (loc_move rfl) rfl ?_
         first | refine run_op (loc_index rfl rfl (by first | omega | assumption)) rfl ?_ | refine run_op (loc_indexI rfl rfl (by first | omega | assumption)) rfl ?_
         refine run_op (loc_load1 rfl) rfl ?_
         refine run_op (loc_assign rfl) rfl ?_
         refine run_op (loc_assign rfl) rfl ?_
         refine run_nil ?_
         refine dr_start _ (.none) [⟨[(19, none)], [], none⟩,
             ⟨[(22, none)], [], none⟩,
             ⟨[(19, none)], [], none⟩,
             ⟨[(22, none)], [], none⟩,
             ⟨[(116, some (2, false)), (117, some (3, false))], [2, 3], none⟩,
             ⟨[(118, some (4, false))], [2, 3, 4], some (0, 0, false)⟩,
             ⟨[(21, none)], [], none⟩,
             ⟨[(23, none)], [], none⟩,
             ⟨[(120, some (6, false)), (121, some (7, false))], [6, 7], none⟩,
             ⟨[(119, some (5, false)), (122, some (8, false))], [2, 3, 4, 5, 6, 7, 8], none⟩,
             ⟨[(5, none)], [], none⟩,
             ⟨[(124, some (10, false))], [10], none⟩,
             ⟨[(123, some (9, false)), (125, some (11, false))], [2, 3, 4, 5, 6, 7, 8, 9, 10, 11], none⟩,
             ⟨[(114, some (0, false)), (115, some (1, false))], [0, 1, 2, 3, 4, 5, 6, 7, 8, 9, 10, 11, 12], none⟩,
             ⟨[(127, some (13, false)), (126, some (12, false))], [0, 1, 2, 3, 4, 5, 6, 7, 8, 9, 10, 11, 12, 13], some (0, 0, true)⟩] [_, _] _ rfl rfl ?_
         refine dq_pure rfl (fun s => .g rfl (.nil)) (fun s hs _ => loc_move rfl) (by exact .nil) ?_
         refine dq_pure rfl (fun s => .g rfl (.nil)) (fun s hs _ => loc_move rfl) (by exact .nil) ?_
         refine dq_pure rfl (fun s => .g rfl (.nil)) (fun s hs _ => loc_move rfl) (by exact .nil) ?_
         refine dq_pure rfl (fun s => .g rfl (.nil)) (fun s hs _ => loc_move rfl) (by exact .nil) ?_
         first | refine dq_pure rfl (fun s => .op rfl (.op rfl (.nil))) (fun s hs _ => loc_indexRow rfl rfl (by first | omega | assumption)) (by exact .nil) ?_ | refine dq_pure rfl (fun s => .op rfl (.op rfl (.nil))) (fun s hs _ => loc_indexRowI rfl rfl (by first | omega | assumption)) (by exact .nil) ?_
         refine dq_read rfl (fun s => .op rfl (.nil)) rfl rfl (fun s hs _ hm => loc_loadRow1 rfl hm (by first | omega | assumption)) (by exact .nil) ?_
         refine dq_pure rfl (fun s => .g rfl (.nil)) (fun s hs _ => loc_move rfl) (by exact .nil) ?_
         refine dq_pure rfl (fun s => .g rfl (.nil)) (fun s hs _ => loc_move rfl) (by exact .nil) ?_
         first | refine dq_pure rfl (fun s => .op rfl (.op rfl (.nil))) (fun s hs _ => loc_mul rfl rfl (by first | omega | assumption)) (by exact .nil) ?_ | refine dq_pure rfl (fun s => .op rfl (.op rfl (.nil))) (fun s hs _ => loc_mulW rfl rfl) (by exact .nil) ?_
         first | refine dq_pure rfl (fun s => .op rfl (.op rfl (.nil))) (fun s hs _ => loc_add rfl rfl (by first | omega | assumption)) (by exact .nil) ?_ | refine dq_pure rfl (fun s => .op rfl (.op rfl (.nil))) (fun s hs _ => loc_addW rfl rfl) (by exact .nil) ?_
         refine dq_pure rfl (fun s => .g rfl (.nil)) (fun s hs _ => loc_fieldAddr rfl) (by exact .nil) ?_
         refine dq_pure rfl (fun s => .op rfl (.nil)) (fun s hs _ => loc_load1 rfl) (by exact .nil) ?_
         first | refine dq_pure rfl (fun s => .op rfl (.op rfl (.nil))) (fun s hs _ => loc_rem rfl rfl (by first | omega | assumption)) (by exact .nil) ?_ | refine dq_pure rfl (fun s => .op rfl (.op rfl (.nil))) (fun s hs _ => loc_remW rfl rfl (by first | omega | assumption)) (by exact .nil) ?_
         first | refine dq_pure rfl (fun s => .op rfl (.op rfl (.nil))) (fun s hs _ => loc_indexRow rfl rfl (by first | omega | assumption)) (by exact .nil) ?_ | refine dq_pure rfl (fun s => .op rfl (.op rfl (.nil))) (fun s hs _ => loc_indexRowI rfl rfl (by first | omega | assumption)) (by exact .nil) ?_
         refine dq_write0 rfl (fun s => .op rfl (.op rfl (.nil))) rfl rfl (fun s hs => loc_storeRow1 _ rfl rfl rfl (by first | omega | assumption)) (by exact .nil) ?_
         refine dq_end (rs := [_, _]) () rfl (fun _ => rfl) (.nil) rfl (fun _ => rfl) (fun _ _ => ?_)
         dsimp only [outG, outM, List.map, List.set, id]
         refine run_inBlock ?_
         refine run_region ?_
         first | refine run_op (loc_add rfl rfl (by first | omega | assumption)) rfl ?_ | refine run_op (loc_addW rfl rfl) rfl ?_
         refine run_op (loc_move rfl) rfl ?_
         refine run_nil ?_
         exact run_againF ih16 (u + 1) (by omega) (by omega) (.cons rfl (by first | exact fun _ _ h => h | exact d_int (by omega) | exact d_int (by simp) | exact d_intN (by omega) | exact d_any) .nil) (.cons rfl (fun _ _ x => x) (.cons rfl (fun _ _ x => x) (.cons rfl (fun _ _ x => x) (.cons rfl (fun _ _ x => x) (.cons rfl (fun _ _ x => x) (.cons rfl (fun _ _ x => x) (.cons rfl (fun _ _ x => x) (.cons rfl (fun _ _ x => x) (.cons rfl (fun _ _ x => x) (.cons rfl (fun _ _ x => x) (.cons rfl (fun _ _ x => x) (.cons rfl (fun _ _ x => x) (.cons rfl (fun _ _ x => x) (.nil)))))))))))))) (by simp only [appR]; rw [addT_take p (powM p j k) (heldN p j w.toNat ((rows.take (min ((q.2 + 1) * g.toNat) rows.length)).drop (q.2 * g.toNat)) k) (((rows.take (min ((q.2 + 1) * g.toNat) rows.length)).drop (q.2 * g.toNat))[k]?.getD default) u (by omega) (by omega), Int.add_emod_emod, hx3])
        ·
         refine run_exit rfl ?_
         refine run_inBlock ?_
         refine run_region ?_
         refine run_op (loc_move rfl) rfl ?_
         first | refine run_op (loc_add rfl rfl (by first | omega | assumption)) rfl ?_ | refine run_op (loc_addW rfl rfl) rfl ?_
         refine run_op (loc_assign rfl) rfl ?_
         refine run_nil ?_
         exact run_againF ih13 (k + 1) (by omega) (by omega) (.cons rfl (by first | exact fun _ _ h => h | exact d_int (by omega) | exact d_int (by simp) | exact d_intN (by omega) | exact d_any) .nil) (.cons rfl (fun _ _ x => x) (.cons rfl (fun _ _ x => x) (.cons rfl (fun _ _ x => x) (.cons rfl (fun _ _ x => x) (.cons rfl (fun _ _ x => x) (.cons rfl (fun _ _ x => x) (.cons rfl (fun _ _ x => x) (.cons rfl (fun _ _ x => x) (.cons rfl (fun _ _ x => x) (.nil)))))))))) (by simp only [appR]; rw [List.take_of_length_le (l := (((rows.take (min ((q.2 + 1) * g.toNat) rows.length)).drop (q.2 * g.toNat))[k]?.getD default)) (by omega), heldN_snoc])
       ·
        refine run_exit rfl ?_
        refine run_freezeRow (s := 19) rfl (.here) ?_
        refine run_region ?_
        refine run_op (loc_move rfl) rfl ?_
        refine run_op (loc_move rfl) rfl ?_
        refine run_op (loc_buildSlice rfl rfl (.one rfl (.nil)) rfl rfl) rfl ?_
        refine run_append1 rfl (.here) rfl (by rfl) (by rfl) (by first | omega | (simp [lenMax]; omega) | (simp [lenMax]; done) | assumption) (by first | omega | (simp [lenMax]; omega) | (simp [lenMax]; done) | assumption) rfl (fun v18 => ?_)
        refine run_op (loc_assign rfl) rfl ?_
        refine run_nil ?_
        refine run_inBlock ?_
        refine run_region ?_
        refine run_op (loc_move rfl) rfl ?_
        first | refine run_op (loc_add rfl rfl (by first | omega | assumption)) rfl ?_ | refine run_op (loc_addW rfl rfl) rfl ?_
        refine run_op (loc_assign rfl) rfl ?_
        refine run_nil ?_
        exact run_againF ih11 ((v18, q.2 + 1)) (by simp only; omega) (by simp only; omega) (.cons rfl (by first | exact fun _ _ h => h | exact d_int (by omega) | exact d_int (by simp) | exact d_intN (by omega) | exact d_any) (.cons rfl (by first | exact fun _ _ h => h | exact d_int (by omega) | exact d_int (by simp) | exact d_intN (by omega) | exact d_any) .nil)) (.cons rfl (fun _ _ x => x) (.cons rfl (fun _ _ x => x) (.cons rfl (fun _ _ x => x) (.cons rfl (fun _ _ x => x) (.cons rfl (fun _ _ x => x) (.cons rfl (fun _ _ x => x) (.nil))))))) (by simp only [appR]; rw [List.take_add_one, grpL_get (by omega) hlt, List.map_append, show k = ((rows.take (min ((q.2 + 1) * g.toNat) rows.length)).drop (q.2 * g.toNat)).length by omega]; rfl)
      ·
       refine run_exit rfl ?_
       refine run_seq ?_
       refine run_freezeRow (s := 17) rfl (.here) ?_
       refine run_region ?_
       refine run_op (loc_move rfl) rfl ?_
       refine run_op (loc_assign rfl) rfl ?_
       refine run_op (loc_assign rfl) rfl ?_
       refine run_nil ?_
       refine run_ret2P Tryz.func118 rfl rfl rfl ?_
       exact d_tup2 (d_toRows (by unfold holdG; rw [if_pos hE, List.take_of_length_le (by rw [grpL_len]; omega)]) (fun _ _ h => h)) (fun _ _ h => h)
end Go.Q

namespace Go.Q
open Go.Proofs
open Classical
theorem sto30_spec (s : Schm) : SpecP Tryz.prog 119 [dSchm s] (dAgg [dInt .i64 s.servers, dInt .i64 s.degree, dInt .i64 s.group]) := by
 refine specP_of_body Tryz.func119 rfl rfl (fun I M => ?_)
 refine run_seq ?_
 refine run_region ?_
 refine run_op (loc_boxN rfl) rfl ?_
 refine run_new (loc_allocOwn (by simp)) rfl (fun b1 _ => ?_)
 refine run_nil ?_
 refine run_seq ?_
 refine run_region ?_
 refine run_op (loc_fieldAddr rfl) rfl ?_
 refine run_op (loc_load1 rfl) rfl ?_
 refine run_op (loc_fieldAddr rfl) rfl ?_
 refine run_op (loc_load1 rfl) rfl ?_
 refine run_op (loc_fieldAddr rfl) rfl ?_
 refine run_op (loc_load1 rfl) rfl ?_
 refine run_op (loc_build (.one rfl rfl rfl (.one rfl rfl rfl (.one rfl rfl rfl (.nil))))) rfl ?_
 refine run_storeN (ho := (by show OneAll [_, _, _]; infer_instance)) rfl rfl (.here) (by rfl) ?_
 refine run_nil ?_
 refine run_retGP Tryz.func119 rfl (.cellN rfl (.here) (by rfl) (.nil)) ?_ (fun _ _ h => inv_tail (h))
 exact fun _ _ h => h
theorem rhold23_spec (s : Schm) (t : Tab) (j : Int) (ht : checkT t = 0) (hv : validS s t.p) (hn1 : 1 ≤ t.rows.length) (hj : 1 ≤ j ∧ j ≤ s.servers) : SpecP Tryz.prog 65 [dSchm s, dTab t, dInt .i64 j] (dTup [dRows (hldL s t j), dInt .i64 0]) := by
  have hct := checkT_ok ht
  have hsh := hv.1
  have hctw := hct.2.2.1
  have hctn := hct.2.2.2.1
  have heq : hldL s t j = if s.kind = 3 then holdG t.p s.servers s.degree s.group t.width t.rows j else t.rows := by unfold hldL; rw [if_neg (hld_no ht hv hj)]
  refine specP_of_body Tryz.func65 rfl rfl (fun I M => ?_)
  refine run_seq ?_
  refine run_region ?_
  refine run_op (loc_boxN rfl) rfl ?_
  refine run_op (loc_boxN rfl) rfl ?_
  refine run_op (loc_assign rfl) rfl ?_
  refine run_op (loc_assign rfl) rfl ?_
  refine run_nil ?_
  refine run_seq ?_
  refine run_seq ?_
  refine run_region ?_
  refine run_op (loc_loadN rfl rfl) rfl ?_
  refine run_op (loc_call (rtcheck_spec _) rfl) rfl ?_
  refine run_op (loc_assign rfl) rfl ?_
  refine run_nil ?_
  refine run_seq ?_
  refine run_region ?_
  refine run_op (loc_move rfl) rfl ?_
  refine run_op (loc_neq rfl rfl) rfl ?_
  refine run_nil ?_
  refine run_cond rfl (fun h1 => ?_) (fun h1 => ?_)
  · exfalso; exact h1 ht
  ·
   refine run_skip ?_
   refine run_seq ?_
   refine run_seq ?_
   refine run_region ?_
   refine run_op (loc_loadN rfl rfl) rfl ?_
   refine run_op (loc_fieldAddr rfl) rfl ?_
   refine run_op (loc_loadN rfl rfl) rfl ?_
   refine run_op (loc_call (rvalid_spec _ _) rfl) rfl ?_
   refine run_op (loc_not rfl) rfl ?_
   refine run_nil ?_
   refine run_cond rfl (fun h2 => ?_) (fun h2 => ?_)
   · exfalso; exact h2 hv
   ·
    refine run_skip ?_
    refine run_seq ?_
    refine run_seq ?_
    refine run_region ?_
    refine run_op (loc_move rfl) rfl ?_
    refine run_op (loc_lss rfl rfl) rfl ?_
    refine run_op (loc_move rfl) rfl ?_
    refine run_gfirst rfl rfl gdI.ok (fun hg => loc_move rfl) rfl ?_
    refine run_gop rfl rfl gdI.ok (fun hg => loc_fieldAddr rfl) rfl ?_
    refine run_gop rfl rfl gdI.ok (fun hg => loc_load1 rfl) rfl ?_
    refine run_gop rfl rfl gdI.ok (fun hg => loc_gtr rfl rfl) rfl ?_
    refine run_gleave ?_
    refine run_op (loc_or rfl rfl) rfl ?_
    refine run_nil ?_
    refine run_cond rfl (fun h3 => ?_) (fun h3 => ?_)
    · exfalso; omega
    ·
     refine run_skip ?_
     refine run_seq ?_
     refine run_seq ?_
     refine run_region ?_
     refine run_op (loc_fieldAddr rfl) rfl ?_
     refine run_op (loc_load1 rfl) rfl ?_
     refine run_op (loc_eql rfl rfl) rfl ?_
     refine run_nil ?_
     refine run_cond rfl (fun h4 => ?_) (fun h4 => ?_)
     ·
      have c3 := h4
      have hcd : codE t.p s.servers s.degree s.group = 0 := codE_ok hv.2.1 (by unfold shapeS at hsh; omega) (hv.2.2.resolve_left (by omega)) (by unfold shapeS at hsh; omega) (by unfold shapeS at hsh; omega) (by unfold shapeS at hsh; omega)
      refine run_seq ?_
      refine dr_start _ (.none) [⟨[(4, none)], [], none⟩,
          ⟨[(32, some (0, false))], [0], none⟩,
          ⟨[(3, none)], [], none⟩,
          ⟨[(34, some (2, false))], [2], none⟩,
          ⟨[(4, none)], [], none⟩,
          ⟨[(36, some (4, false))], [4], none⟩,
          ⟨[(4, none)], [], none⟩,
          ⟨[(38, some (6, false))], [6], none⟩,
          ⟨[(2, none)], [], none⟩,
          ⟨[(33, some (1, false)), (35, some (3, false)), (37, some (5, false)), (39, some (7, false)), (40, some (8, false))], [0, 1, 2, 3, 4, 5, 6, 7, 8], none⟩,
          ⟨[(41, some (9, false))], [0, 1, 2, 3, 4, 5, 6, 7, 8, 9], none⟩,
          ⟨[(41, some (9, false))], [0, 1, 2, 3, 4, 5, 6, 7, 8, 9], none⟩,
          ⟨[(42, some (10, false))], [0, 1, 2, 3, 4, 5, 6, 7, 8, 9, 10, 11], none⟩,
          ⟨[(43, some (11, false))], [0, 1, 2, 3, 4, 5, 6, 7, 8, 9, 10, 11, 12], none⟩] [] _ rfl rfl ?_
      refine dq_pure rfl (fun s => .g rfl (.nil)) (fun s hs _ => loc_fieldAddr rfl) (by exact .nil) ?_
      refine dq_pure rfl (fun s => .op rfl (.nil)) (fun s hs _ => loc_loadN rfl rfl) (by exact .nil) ?_
      refine dq_pure rfl (fun s => .g rfl (.nil)) (fun s hs _ => loc_loadN rfl rfl) (by exact .nil) ?_
      refine dq_pure rfl (fun s => .op rfl (.nil)) (fun s hs _ => loc_call (sto30_spec _) rfl) (by exact .nil) ?_
      refine dq_pure rfl (fun s => .g rfl (.nil)) (fun s hs _ => loc_fieldAddr rfl) (by exact .nil) ?_
      refine dq_pure rfl (fun s => .op rfl (.nil)) (fun s hs _ => loc_load1 rfl) (by exact .nil) ?_
      refine dq_pure rfl (fun s => .g rfl (.nil)) (fun s hs _ => loc_fieldAddr rfl) (by exact .nil) ?_
      refine dq_pure rfl (fun s => .op rfl (.nil)) (fun s hs _ => loc_load1 rfl) (by exact .nil) ?_
      refine dq_pure rfl (fun s => .g rfl (.nil)) (fun s hs _ => loc_move rfl) (by exact .nil) ?_
      refine dq_pure rfl (fun s => .op rfl (.op rfl (.op rfl (.op rfl (.op rfl (.nil)))))) (fun s hs _ => loc_call (rhold18_spec _ _ _ _ _ _ _ hcd hj (by omega) (by omega) hct.2.2.2.2) rfl) (by exact .nil) ?_
      refine dq_pure rfl (fun s => .op rfl (.nil)) (fun s hs _ => loc_extract rfl rfl) (by exact .nil) ?_
      refine dq_pure rfl (fun s => .op rfl (.nil)) (fun s hs _ => loc_extract rfl rfl) (by exact .nil) ?_
      refine dq_pure rfl (fun s => .op rfl (.nil)) (fun s hs _ => loc_assign rfl) (by exact .nil) ?_
      refine dq_pure rfl (fun s => .op rfl (.nil)) (fun s hs _ => loc_assign rfl) (by exact .nil) ?_
      refine dq_end (rs := []) () rfl (fun _ => rfl) (.nil) rfl (fun _ => rfl) (fun _ _ => ?_)
      dsimp only [outG, outM, List.map, List.set, id]
      refine run_ret2P Tryz.func65 rfl rfl rfl ?_
      exact d_tup2 (d_toRows (by rw [heq, if_pos c3]) (fun _ _ h => h)) (fun _ _ h => h)
     ·
      have c3 := h4
      refine run_skip ?_
      refine run_seq ?_
      refine run_region ?_
      refine run_op (loc_assign rfl) rfl ?_
      refine run_nil ?_
      refine run_seq ?_
      refine run_seq ?_
      refine run_region ?_
      refine run_op (loc_assign rfl) rfl ?_
      refine run_nil ?_
      refine run_block ?_
      refine run_rowNil 44 1 fR ?_
      refine run_loopF (σ := Value × Nat) (ks := [4]) (.cons rfl (.nil)) (fun q => [(9, dVal q.1), (10, dInt .i64 (q.2 : Nat))]) (fun q => [rRow q.1 44 1 fR (t.rows.take q.2)]) (fun q => q.2 ≤ t.rows.length) (fun q => t.rows.length - q.2) ((.slice none 0 0, 0)) (Nat.zero_le _) (.cons rfl (by first | exact fun _ _ h => h | exact d_int (by omega) | exact d_int (by simp) | exact d_intN (by omega) | exact d_any) (.cons rfl (by first | exact fun _ _ h => h | exact d_int (by omega) | exact d_int (by simp) | exact d_intN (by omega) | exact d_any) .nil)) (rfl) ?_
      intro q hq ih5
      have hql : (t.rows.take q.2).length = q.2 := by rw [List.length_take]; omega
      refine run_seq ?_
      refine run_seq ?_
      refine run_region ?_
      refine run_op (loc_move rfl) rfl ?_
      refine run_op (loc_fieldAddr rfl) rfl ?_
      refine run_op (loc_load1 rfl) rfl ?_
      first | refine runL_fact (s := 46) rfl (fun _ _ h => dSl_len h) (fun hlen6 => ?_) | skip
      refine run_op (loc_len rfl) rfl ?_
      refine run_op (loc_lss rfl rfl) rfl ?_
      refine run_nil ?_
      refine run_cond rfl (fun h7 => ?_) (fun h7 => ?_)
      ·
       have hrl := (hct.2.2.2.2 _ (getD_mem (xs := t.rows) (k := q.2) (by omega))).1
       refine run_skip ?_
       refine run_seq ?_
       refine run_block ?_
       refine run_region ?_
       refine run_op (loc_move rfl) rfl ?_
       refine run_new (loc_build0 fI) rfl (fun b8 _ => ?_)
       refine run_op (loc_fieldAddr rfl) rfl ?_
       refine run_op (loc_load1 rfl) rfl ?_
       refine run_op (loc_move rfl) rfl ?_
       first | refine run_op (loc_index rfl rfl (by first | omega | assumption)) rfl ?_ | refine run_op (loc_indexI rfl rfl (by first | omega | assumption)) rfl ?_
       refine run_op (loc_load1 rfl) rfl ?_
       refine run_upd (LocM.frz (loc_append rfl rfl rfl (by first | omega | (simp [lenMax]; omega) | (simp [lenMax]; done) | assumption) (by first | omega | (simp [lenMax]; omega) | (simp [lenMax]; done) | assumption)) rfl) rfl (.here) (fun v9 hv9 => ?_)
       refine run_op (loc_buildSlice rfl rfl (.one rfl (.nil)) rfl rfl) rfl ?_
       refine run_append1 (e0 := (t.rows[q.2]?.getD default)) rfl (.there (.here)) rfl (by rfl) (by rfl) (by first | omega | (simp [lenMax]; omega) | (simp [lenMax]; done) | assumption) (by first | omega | (simp [lenMax]; omega) | (simp [lenMax]; done) | assumption) rfl (fun v10 => ?_)
       refine run_op (loc_assign rfl) rfl ?_
       refine run_nil ?_
       refine run_inBlock ?_
       refine run_region ?_
       refine run_op (loc_move rfl) rfl ?_
       first | refine run_op (loc_add rfl rfl (by first | omega | assumption)) rfl ?_ | refine run_op (loc_addW rfl rfl) rfl ?_
       refine run_op (loc_assign rfl) rfl ?_
       refine run_nil ?_
       refine run_drop (.cons _ (.refl _)) ?_
       exact run_againF ih5 ((v10, q.2 + 1)) (by simp only; omega) (by simp only; omega) (.cons rfl (by first | exact fun _ _ h => h | exact d_int (by omega) | exact d_int (by simp) | exact d_intN (by omega) | exact d_any) (.cons rfl (by first | exact fun _ _ h => h | exact d_int (by omega) | exact d_int (by simp) | exact d_intN (by omega) | exact d_any) .nil)) (.cons rfl (fun _ _ x => x) (.nil)) (by simp only [appR]; rw [take_snocR (by omega)]; try rfl)
      ·
       refine run_exit rfl ?_
       refine run_seq ?_
       refine run_freezeRow (s := 9) rfl (.here) ?_
       refine run_region ?_
       refine run_op (loc_move rfl) rfl ?_
       refine run_op (loc_assign rfl) rfl ?_
       refine run_op (loc_assign rfl) rfl ?_
       refine run_nil ?_
       refine run_ret2P Tryz.func65 rfl rfl rfl ?_
       exact d_tup2 (d_toRows (by rw [heq, if_neg c3, List.take_of_length_le (by omega)]) (fun _ _ h => h)) (fun _ _ h => h)
end Go.Q

namespace Go.Q
structure Sett where
 index : Int
 row : List Int
deriving Inhabited
structure Chg where
 from' : Int
 to' : Int
 count : Int
 sets : List Sett
deriving Inhabited
abbrev cSett (x : Sett) : List D := [dInt .i64 x.index, dInts x.row]
abbrev cChg (x : Chg) : List D := [dInt .i64 x.from', dInt .i64 x.to', dInt .i64 x.count, dSl 2 cSett x.sets]
abbrev dChg (x : Chg) : D := dAgg (cChg x)
abbrev cTab (t : Tab) : List D := [dInt .i64 t.number, dInt .i64 t.p, dInt .i64 t.width, dRows t.rows]
end Go.Q

namespace Go.Q
open Classical
def ascV (l : List Held) : Prop := ∀ i j, i < j → j < l.length → (l[i]?.getD default).head.number < (l[j]?.getD default).head.number
theorem atV_lead {v : Srv} (hs : ascV v.versions) (n : Int) : atV v n = lead (fun h : Held => h.head.number < n) v.versions := by
 have hle := lead_le (fun h : Held => h.head.number < n) v.versions
 refine atV_at hle (fun a ha => lead_lt (q := fun h : Held => h.head.number < n) a ha) (fun a ha hb => ?_)
 have hk := lead_end (q := fun h : Held => h.head.number < n) (xs := v.versions) (by omega)
 by_cases e : a = lead (fun h : Held => h.head.number < n) v.versions
 ·rw [e]; omega
 ·have := hs _ a (by omega : lead (fun h : Held => h.head.number < n) v.versions < a) hb
  omega
theorem at_lo {v : Srv} (hs : ascV v.versions) (n : Int) {a : Nat} (h : a < atV v n) : (v.versions[a]?.getD default).head.number < n := by
 rw [atV_lead hs] at h
 exact lead_lt (q := fun h : Held => h.head.number < n) a h
theorem at_hi {v : Srv} (hs : ascV v.versions) (n : Int) {a : Nat} (h : atV v n ≤ a) (hb : a < v.versions.length) : n ≤ (v.versions[a]?.getD default).head.number := by
 rw [atV_lead hs] at h
 have hk := lead_end (q := fun h : Held => h.head.number < n) (xs := v.versions) (by omega)
 by_cases e : a = lead (fun h : Held => h.head.number < n) v.versions
 ·rw [e]; omega
 ·have := hs _ a (by omega : lead (fun h : Held => h.head.number < n) v.versions < a) hb
  omega
theorem there_of {v : Srv} (hs : ascV v.versions) {n : Int} {k : Nat} (hk : k < v.versions.length) (hn : (v.versions[k]?.getD default).head.number = n) : atV v n = k ∧ thereV v n ∧ heldV v n = v.versions[k]?.getD default := by
 have e : atV v n = k := by
  have h1 : ¬ atV v n < k := fun h => by
   have h2 := at_hi hs n (Nat.le_refl _) (by omega)
   have h3 := hs _ k h hk
   omega
  have h2 : ¬ k < atV v n := fun h => by have := at_lo hs n h; omega
  omega
 exact ⟨e, ⟨by omega, by rw [e]; exact cmpI_zero.2 hn⟩, by unfold heldV; rw [e]⟩
theorem there_num {v : Srv} {n : Int} (h : thereV v n) : (heldV v n).head.number = n := cmpI_zero.1 h.2
theorem asc_ins {v : Srv} (hs : ascV v.versions) {n : Int} (hno : ¬ thereV v n) {h0 : Held} (hn : h0.head.number = n) : ascV (v.versions.take (atV v n) ++ [h0] ++ v.versions.drop (atV v n)) := by
 have hle := atV_le v n
 have hhi : ∀ a, atV v n ≤ a → a < v.versions.length → n < (v.versions[a]?.getD default).head.number := fun a ha hb => by
  have h1 := at_hi hs n ha hb
  by_cases e : (v.versions[a]?.getD default).head.number = n
  ·exact absurd (there_of hs hb e).2.1 hno
  ·omega
 have hl : (v.versions.take (atV v n)).length = atV v n := by rw [List.length_take]; omega
 have g1 : ∀ a, a < atV v n → ((v.versions.take (atV v n) ++ [h0] ++ v.versions.drop (atV v n))[a]?.getD default) = v.versions[a]?.getD default := fun a ha => by
  rw [List.append_assoc, List.getElem?_append_left (by omega), List.getElem?_take, if_pos ha]
 have g2 : ((v.versions.take (atV v n) ++ [h0] ++ v.versions.drop (atV v n))[atV v n]?.getD default) = h0 := by
  rw [List.append_assoc, List.getElem?_append_right (by omega), hl, Nat.sub_self]; rfl
 have g3 : ∀ a, atV v n < a → ((v.versions.take (atV v n) ++ [h0] ++ v.versions.drop (atV v n))[a]?.getD default) = v.versions[a - 1]?.getD default := fun a ha => by
  rw [List.append_assoc, List.getElem?_append_right (by omega), hl, List.getElem?_append_right (by simp; omega), List.getElem?_drop]
  simp only [List.length_singleton]
  rw [show atV v n + (a - atV v n - 1) = a - 1 by omega]
 intro i j hij hj
 simp only [List.length_append, List.length_singleton, List.length_drop, hl] at hj
 by_cases c1 : j < atV v n
 ·rw [g1 i (by omega), g1 j c1]; exact hs i j hij (by omega)
 ·by_cases c2 : j = atV v n
  ·rw [c2, g2, g1 i (by omega), hn]; exact at_lo hs n (by omega)
  ·rw [g3 j (by omega)]
   by_cases c3 : i < atV v n
   ·rw [g1 i c3]; have := at_lo hs n c3; have := hhi (j - 1) (by omega) (by omega); omega
   ·by_cases c4 : i = atV v n
    ·rw [c4, g2, hn]; exact hhi (j - 1) (by omega) (by omega)
    ·rw [g3 i (by omega)]; exact hs (i - 1) (j - 1) (by omega) (by omega)
end Go.Q

namespace Go.Q
open Classical
theorem heldN_okH {s : Schm} {id : Int} {t : Tab} (ht : checkT t = 0) (hv : validS s t.p) (hr : 1 ≤ t.rows.length) (hid : 1 ≤ id ∧ id ≤ s.servers) : okHeld ⟨headT t, hldL s t id⟩ := by
 have h2 := hld_sz hv ht hr hid
 have h3 := checkT_ok ht
 have hrow : ∀ r ∈ hldL s t id, (r.length : Int) = t.width ∧ allP t.p r := by
  intro r hr
  unfold hldL at hr
  rw [if_neg (hld_no ht hv hid)] at hr
  split at hr
  ·unfold holdG at hr
   split at hr
   ·obtain ⟨q, _, rfl⟩ := List.mem_map.1 hr
    unfold heldG
    obtain ⟨h4, h5⟩ := heldN_ok h3.2.1.1 id t.width.toNat q.2 q.2.length
    exact ⟨by rw [h4]; have := h3.2.2.1; omega, h5⟩
   ·cases hr
  ·exact h3.2.2.2.2 r hr
 rw [head_ok ht]
 exact ⟨h3.2.1, h3.2.2.1, h2.1, hrow⟩
theorem load_zero {v : Srv} {t : Tab} (h : loadE v t = 0) : v.up ∧ checkT t = 0 ∧ validS v.scheme t.p ∧ 1 ≤ t.rows.length ∧ ¬ thereV v t.number ∧ v.versions.length < 16 ∧ (1 ≤ v.id ∧ v.id ≤ v.scheme.servers) := by
 unfold loadE at h
 by_cases c1 : v.up
 ·rw [if_neg (Classical.not_not.2 c1)] at h
  by_cases c2 : checkT t = 0
  ·rw [if_neg (Classical.not_not.2 c2)] at h
   by_cases c3 : validS v.scheme t.p
   ·rw [if_neg (Classical.not_not.2 c3)] at h
    by_cases c4 : t.rows.length = 0
    ·rw [if_pos c4] at h; cases h
    ·rw [if_neg c4] at h
     by_cases c5 : thereV v t.number
     ·rw [if_pos c5] at h; cases h
     ·rw [if_neg c5] at h
      by_cases c6 : v.versions.length ≥ 16
      ·rw [if_pos c6] at h; cases h
      ·rw [if_neg c6] at h
       refine ⟨c1, c2, c3, by omega, c5, by omega, ?_⟩
       unfold hldE at h
       rw [if_neg (Classical.not_not.2 c2), if_neg (Classical.not_not.2 c3)] at h
       by_cases c7 : 1 ≤ v.id ∧ v.id ≤ v.scheme.servers
       ·exact c7
       ·rw [if_pos c7] at h; cases h
   ·rw [if_pos c3] at h; cases h
  ·rw [if_pos c2] at h; exact absurd h c2
 ·rw [if_pos c1] at h; cases h
theorem ok_load {v : Srv} {t : Tab} (hok : okSrv v) : okSrv (loadV v t) := by
 by_cases h : loadE v t = 0
 ·obtain ⟨c1, c2, c3, c4, c5, c6, c7⟩ := load_zero h
  obtain ⟨o1, o2, o3, o4, o5⟩ := hok
  have hs : ascV v.versions := o4
  have hn : (⟨headT t, hldL v.scheme t v.id⟩ : Held).head.number = t.number := heldT_number (s := v.scheme) (id := v.id) c2
  have ha := asc_ins hs c5 hn
  have hle := atV_le v t.number
  have hL : loadV v t = { v with versions := v.versions.take (atV v t.number) ++ [⟨headT t, hldL v.scheme t v.id⟩] ++ v.versions.drop (atV v t.number) } := by unfold loadV; rw [if_pos h]
  rw [hL]
  have hl : (v.versions.take (atV v t.number)).length = atV v t.number := by rw [List.length_take]; omega
  refine ⟨?_, o2, fun x hx => ?_, ha, fun j hj => ?_⟩
  ·simp only [List.length_append, List.length_singleton, List.length_drop, hl]; omega
  ·rcases List.mem_append.1 hx with hx | hx
   ·rcases List.mem_append.1 hx with hx | hx
    ·exact o3 x (List.mem_of_mem_take hx)
    ·rw [List.mem_singleton.1 hx]; exact heldN_okH c2 c3 c4 c7
   ·exact o3 x (List.mem_of_mem_drop hx)
  ·obtain ⟨p1, p2, p3, p4, p5⟩ := o5 j hj
   have hk := p1.1
   have hnum : (v.versions[atV v j.version]?.getD default).head.number = j.version := cmpI_zero.1 p1.2
   have key : ∃ k, k < (v.versions.take (atV v t.number) ++ [(⟨headT t, hldL v.scheme t v.id⟩ : Held)] ++ v.versions.drop (atV v t.number)).length ∧ (v.versions.take (atV v t.number) ++ [(⟨headT t, hldL v.scheme t v.id⟩ : Held)] ++ v.versions.drop (atV v t.number))[k]?.getD default = v.versions[atV v j.version]?.getD default := by
    by_cases c : atV v j.version < atV v t.number
    ·refine ⟨atV v j.version, by simp only [List.length_append, List.length_singleton, List.length_drop, hl]; omega, ?_⟩
     rw [List.append_assoc, List.getElem?_append_left (by omega), List.getElem?_take, if_pos c]
    ·refine ⟨atV v j.version + 1, by simp only [List.length_append, List.length_singleton, List.length_drop, hl]; omega, ?_⟩
     rw [List.append_assoc, List.getElem?_append_right (by omega), hl, List.getElem?_append_right (by simp; omega), List.getElem?_drop]
     simp only [List.length_singleton]
     rw [show atV v t.number + (atV v j.version + 1 - atV v t.number - 1) = atV v j.version by omega]
   obtain ⟨k, hk1, hk2⟩ := key
   obtain ⟨e1, e2, e3⟩ := there_of (v := { v with versions := v.versions.take (atV v t.number) ++ [⟨headT t, hldL v.scheme t v.id⟩] ++ v.versions.drop (atV v t.number) }) ha (n := j.version) hk1 (by rw [hk2]; exact hnum)
   have e4 : heldV { v with versions := v.versions.take (atV v t.number) ++ [⟨headT t, hldL v.scheme t v.id⟩] ++ v.versions.drop (atV v t.number) } j.version = heldV v j.version := e3.trans hk2
   unfold okJob
   rw [e4]
   exact ⟨e2, p2, p3, p4, p5⟩
 ·have hL : loadV v t = v := by unfold loadV; rw [if_neg h]
  rw [hL]; exact hok
theorem ok_crash {v : Srv} (hok : okSrv v) : okSrv (crashV v) := ⟨hok.1, Nat.zero_le _, hok.2.2.1, hok.2.2.2.1, fun j hj => by cases hj⟩
end Go.Q

namespace Go.Q
open Classical
theorem held_ok {v : Srv} (hok : okSrv v) {n : Int} (h : thereV v n) : okHeld (heldV v n) := hok.2.2.1 _ (getD_mem h.1)
theorem ok_ask {v : Srv} {n : Nte} (hok : okSrv v) : okSrv (askV v n) := by
 by_cases h : askE v n = 0
 ·have hL : askV v n = { v with jobs := v.jobs ++ [⟨n.read, n.probe, n.version, n.query, []⟩] } := by unfold askV; rw [if_pos h]
  rw [hL]
  unfold askE at h
  by_cases c1 : v.up
  ·rw [if_neg (Classical.not_not.2 c1)] at h
   by_cases c2 : n.kind ≠ 1 ∨ n.server ≠ v.id
   ·rw [if_pos c2] at h; cases h
   ·rw [if_neg c2] at h
    by_cases c3 : thereV v n.version
    ·rw [if_neg (Classical.not_not.2 c3)] at h
     by_cases c4 : n.query.length ≠ (heldV v n.version).rows.length ∨ ¬ (okP (heldV v n.version).head.p ∧ allP (heldV v n.version).head.p n.query)
     ·rw [if_pos c4] at h; cases h
     ·rw [if_neg c4] at h
      by_cases c5 : ∃ j ∈ v.jobs, j.read = n.read ∧ j.probe = n.probe
      ·rw [if_pos c5] at h; cases h
      ·rw [if_neg c5] at h
       by_cases c6 : v.jobs.length ≥ 32
       ·rw [if_pos c6] at h; cases h
       ·have hh := held_ok hok c3
        refine ⟨hok.1, by simp only [List.length_append, List.length_singleton]; omega, hok.2.2.1, hok.2.2.2.1, fun j hj => ?_⟩
        rcases List.mem_append.1 hj with hj | hj
        ·exact hok.2.2.2.2 j hj
        ·rw [List.mem_singleton.1 hj]
         refine ⟨c3, Classical.not_not.1 fun hc => c4 (.inl hc), (Classical.not_not.1 fun hc => c4 (.inr hc)).2, ?_, fun x hx => by cases hx⟩
         have := hh.2.1
         show ((0 : Nat) : Int) < (heldV v n.version).head.width
         omega
    ·rw [if_pos c3] at h; cases h
  ·rw [if_pos c1] at h; cases h
 ·have hL : askV v n = v := by unfold askV; rw [if_neg h]
  rw [hL]; exact hok
theorem wordX_bd {h : Held} {j : Job} {lie : Int} (hp : 0 < h.head.p) : hasP h.head.p (wordX h j lie) := by
 have hb : ∀ k, 0 ≤ dotK h.head.p j.got.length h.rows j.query k ∧ dotK h.head.p j.got.length h.rows j.query k < h.head.p := fun k => by
  cases k with
  | zero => exact ⟨Int.le_refl _, hp⟩
  | succ k => exact mod_bd _ hp
 unfold wordX hasP
 split
 ·exact mod_bd _ hp
 ·exact hb _
theorem ok_word {v : Srv} {p : Psn} {lie : Int} (hok : okSrv v) : okSrv (wordV v p lie) := by
 unfold wordV
 split
 ·exact hok
 ·rename_i hn
  have hup : v.up := Classical.not_not.1 fun h => hn (.inl h)
  have hl : v.jobs.length ≠ 0 := fun h => hn (.inr h)
  have hj0 := hok.2.2.2.2 _ (getD_mem (xs := v.jobs) (k := 0) (by omega))
  have hdrop : ∀ j ∈ v.jobs.drop 1, okJob v j := fun j hj => hok.2.2.2.2 j (List.mem_of_mem_drop hj)
  have hrest : okSrv { v with jobs := v.jobs.drop 1 } := ⟨hok.1, by have := hok.2.1; simp only [List.length_drop]; omega, hok.2.2.1, hok.2.2.2.1, hdrop⟩
  split
  ·rename_i hm
   refine ⟨hok.1, by have := hok.2.1; simp only [List.length_cons, List.length_drop]; omega, hok.2.2.1, hok.2.2.2.1, fun j hj => ?_⟩
   rcases List.mem_cons.1 hj with rfl | hj
   ·obtain ⟨p1, p2, p3, p4, p5⟩ := hj0
    have hh := held_ok hok p1
    have hw : hasP (heldV v (v.jobs[0]?.getD default).version).head.p (wordX (heldV v (v.jobs[0]?.getD default).version) (v.jobs[0]?.getD default) lie) := wordX_bd (by have := hh.1.1; omega)
    refine ⟨p1, p2, p3, hm, fun x hx => ?_⟩
    rcases List.mem_append.1 hx with hx | hx
    ·exact p5 x hx
    ·rw [List.mem_singleton.1 hx]
     exact hw
   ·exact hdrop j hj
  ·split
   ·exact hrest
   ·exact hok
theorem sz_of_ok {v : Srv} (hok : okSrv v) : v.versions.length ≤ 1000 ∧ v.jobs.length ≤ 1000 ∧ (∀ h ∈ v.versions, h.rows.length ≤ 100000 ∧ ∀ r ∈ h.rows, r.length ≤ 100000) ∧ ∀ j ∈ v.jobs, j.query.length ≤ 100000 ∧ j.got.length ≤ 100000 := by
 refine ⟨by have := hok.1; omega, by have := hok.2.1; omega, fun h hh => ?_, fun j hj => ?_⟩
 ·obtain ⟨h1, h2, h3, h4⟩ := hok.2.2.1 h hh
  exact ⟨by omega, fun r hr => by have := (h4 r hr).1; omega⟩
 ·obtain ⟨p1, p2, p3, p4, p5⟩ := hok.2.2.2.2 j hj
  obtain ⟨h1, h2, h3, h4⟩ := held_ok hok p1
  exact ⟨by omega, by omega⟩
theorem ok_new {id : Int} {s : Schm} : okSrv (newS id s) := by
 unfold newS
 split
 ·exact ⟨Nat.zero_le _, Nat.zero_le _, fun h hh => (by cases hh), fun i j _ hj => (by cases hj), fun j hj => (by cases hj)⟩
 ·exact ⟨Nat.zero_le _, Nat.zero_le _, fun h hh => (by cases hh), fun i j _ hj => (by cases hj), fun j hj => (by cases hj)⟩
end Go.Q

namespace Go.Q
open Classical
noncomputable def findS (l : List Sett) (i : Int) : Option (List Int) := (l.find? (fun s => decide (s.index = i))).map Sett.row
noncomputable def rowS (l : List Sett) (i : Int) : List Int := (findS l i).getD []
def hasS (l : List Sett) (i : Int) : Prop := ∃ s ∈ l, s.index = i
theorem findS_none {l : List Sett} {i : Int} (h : ¬ hasS l i) : findS l i = none := by
 unfold findS
 rw [List.find?_eq_none.2 (fun s hs => by rw [decide_eq_true_eq]; exact fun e => h ⟨s, hs, e⟩)]; rfl
theorem findS_at {l : List Sett} {i : Int} {k : Nat} (hk : k < l.length) (hb : ∀ j, j < k → (l[j]?.getD default).index ≠ i) (he : (l[k]?.getD default).index = i) : findS l i = some (l[k]?.getD default).row ∧ hasS l i := by
 refine ⟨?_, ⟨_, getD_mem hk, he⟩⟩
 unfold findS
 rw [show l.find? (fun s => decide (s.index = i)) = some (l[k]?.getD default) from ?_]; · rfl
 have e : l[k]?.getD default = l[k] := by rw [List.getElem?_eq_getElem hk]; rfl
 rw [List.find?_eq_some_iff_getElem]
 refine ⟨by simpa using he, k, hk, e.symm, fun j hj => ?_⟩
 have := hb j hj
 rw [List.getElem?_eq_getElem (by omega)] at this
 simpa using this
theorem rowS_at {l : List Sett} {i : Int} {k : Nat} (hk : k < l.length) (hb : ∀ j, j < k → (l[j]?.getD default).index ≠ i) (he : (l[k]?.getD default).index = i) : rowS l i = (l[k]?.getD default).row := by
 unfold rowS; rw [(findS_at hk hb he).1]; rfl
theorem rowS_none {l : List Sett} {i : Int} (h : ¬ hasS l i) : rowS l i = [] := by unfold rowS; rw [findS_none h]; rfl
theorem hasS_none {l : List Sett} {i : Int} (h : ∀ j, j < l.length → (l[j]?.getD default).index ≠ i) : ¬ hasS l i := by
 rintro ⟨s, hs, e⟩
 obtain ⟨j, hj, rfl⟩ := List.mem_iff_getElem.1 hs
 have := h j hj
 rw [List.getElem?_eq_getElem hj] at this
 exact this e
def formC (c : Chg) : Prop := 1 ≤ c.from' ∧ c.to' < 2147483647 ∧ c.from' < c.to' ∧ 0 ≤ c.count ∧ c.count ≤ 1024 ∧ ∀ i, i < c.sets.length → 0 ≤ (c.sets[i]?.getD default).index ∧ (c.sets[i]?.getD default).index < c.count ∧ (0 < i → (c.sets[i - 1]?.getD default).index < (c.sets[i]?.getD default).index)
noncomputable def setE (t : Tab) (s : Sett) : Int := if (s.row.length : Int) ≠ t.width then 2 else if ¬ allP t.p s.row then 9 else 0
noncomputable def chkC (t : Tab) (c : Chg) : Int := if checkT t ≠ 0 then checkT t else if ¬ formC c then 2 else if c.from' ≠ t.number then 17 else if firstErr (setE t) c.sets ≠ 0 then firstErr (setE t) c.sets else if ∃ i : Nat, t.rows.length ≤ i ∧ (i : Int) < c.count ∧ ¬ hasS c.sets i then 2 else 0
def tabZ : Tab := ⟨0, 0, 0, []⟩
noncomputable def rowC (t : Tab) (c : Chg) (i : Nat) : List Int := if hasS c.sets i then rowS c.sets i else t.rows[i]?.getD default
noncomputable def applyC (t : Tab) (c : Chg) : Tab := if chkC t c = 0 then ⟨c.to', t.p, t.width, (List.range c.count.toNat).map (rowC t c)⟩ else tabZ
theorem chkC_zero {t : Tab} {c : Chg} (h : chkC t c = 0) : checkT t = 0 ∧ formC c ∧ c.from' = t.number ∧ (∀ s ∈ c.sets, (s.row.length : Int) = t.width ∧ allP t.p s.row) ∧ ∀ i : Nat, t.rows.length ≤ i → (i : Int) < c.count → hasS c.sets i := by
 unfold chkC at h
 by_cases h1 : checkT t = 0
 ·rw [if_neg (by omega)] at h
  by_cases h2 : formC c
  ·rw [if_neg (Classical.not_not.2 h2)] at h
   by_cases h3 : c.from' = t.number
   ·rw [if_neg (by omega)] at h
    by_cases h4 : firstErr (setE t) c.sets = 0
    ·rw [if_neg (by omega)] at h
     refine ⟨h1, h2, h3, fun s hs => ?_, fun i h6 h7 => Classical.byContradiction fun h8 => ?_⟩
     ·have := firstErr_zero.1 h4 s hs
      unfold setE at this
      by_cases h9 : (s.row.length : Int) = t.width
      ·rw [if_neg (by omega)] at this
       refine ⟨h9, Classical.byContradiction fun h10 => ?_⟩
       rw [if_pos h10] at this; omega
      ·rw [if_pos h9] at this; omega
     ·rw [if_pos ⟨i, h6, h7, h8⟩] at h; omega
    ·rw [if_pos h4] at h; exact absurd h h4
   ·rw [if_pos h3] at h; omega
  ·rw [if_pos h2] at h; omega
 ·rw [if_pos h1] at h; exact absurd h h1
def chg0 : Chg := ⟨0, 0, 0, []⟩
noncomputable def btwE (a b : Tab) : Int := if checkT a ≠ 0 then checkT a else if checkT b ≠ 0 then checkT b else if a.p ≠ b.p ∨ a.width ≠ b.width then 2 else if b.number ≤ a.number then 17 else 0
noncomputable def newR (a b : Tab) (k : Nat) : List Sett := ((List.range k).filter fun i => decide (¬ (i < a.rows.length ∧ b.rows[i]?.getD default = a.rows[i]?.getD default))).map fun (i : Nat) => ⟨i, b.rows[i]?.getD default⟩
noncomputable def btwC (a b : Tab) : Chg := if btwE a b = 0 then ⟨a.number, b.number, b.rows.length, newR a b b.rows.length⟩ else chg0
theorem newR_snoc (a b : Tab) (k : Nat) : newR a b (k + 1) = if k < a.rows.length ∧ b.rows[k]?.getD default = a.rows[k]?.getD default then newR a b k else newR a b k ++ [⟨k, b.rows[k]?.getD default⟩] := by
 unfold newR
 rw [List.range_succ, List.filter_append, List.map_append]
 split <;> rename_i h
 ·rw [List.filter_cons_of_neg (by rw [decide_eq_true_eq]; exact fun hn => hn h), List.filter_nil]; simp
 ·rw [List.filter_cons_of_pos (by rw [decide_eq_true_eq]; exact h), List.filter_nil]; simp
theorem newR_len (a b : Tab) (k : Nat) : (newR a b k).length ≤ k := by
 unfold newR
 rw [List.length_map]
 exact Nat.le_trans (List.length_filter_le _ _) (by rw [List.length_range]; exact Nat.le_refl _)
end Go.Q

namespace Go.Q
open Classical
structure OkA (s : Schm) (id : Int) (t : Tab) : Prop where
 ht : checkT t = 0
 hn : t.number ≤ 1000
 hv : validS s t.p
 hr : 1 ≤ t.rows.length
 hid : 1 ≤ id ∧ id ≤ s.servers
end Go.Q

namespace Go.Q
open Classical
end Go.Q

namespace Go.Q
open Classical
def okI (v : Srv) : Prop := okSrv v ∧ shapeS v.scheme ∧ 1 ≤ v.id ∧ v.id ≤ v.scheme.servers
theorem okI_asc {v : Srv} (h : okI v) : ascV v.versions := h.1.2.2.2.1
noncomputable def findR (v : Srv) (n : Int) : Int := if thereV v n then (atV v n : Nat) else -1
theorem findR_at {v : Srv} (hs : ascV v.versions) {n : Int} {k : Nat} (hk : k < v.versions.length) (hn : (v.versions[k]?.getD default).head.number = n) : findR v n = k := by
 obtain ⟨h1, h2, _⟩ := there_of hs hk hn
 unfold findR; rw [if_pos h2, h1]
theorem findR_none {v : Srv} {n : Int} (h : ∀ j, j < v.versions.length → (v.versions[j]?.getD default).head.number ≠ n) : findR v n = -1 := by
 unfold findR; rw [if_neg]
 intro h1
 exact h _ h1.1 (there_num h1)
theorem findR_neg {v : Srv} {n : Int} : findR v n < 0 ↔ ¬ thereV v n := by
 unfold findR
 split <;> rename_i h
 ·exact ⟨fun h1 => by omega, fun h1 => absurd h h1⟩
 ·exact ⟨fun _ => h, fun _ => by omega⟩
theorem findR_pos {v : Srv} {n : Int} (h : thereV v n) : findR v n = (atV v n : Nat) := by unfold findR; rw [if_pos h]
theorem atV_stop {v : Srv} (hs : ascV v.versions) {n : Int} {k : Nat} (hk : k ≤ v.versions.length) (h1 : ∀ a, a < k → (v.versions[a]?.getD default).head.number < n) (h2 : k < v.versions.length → n ≤ (v.versions[k]?.getD default).head.number) : atV v n = k := by
 refine atV_at hk h1 (fun a ha hb => ?_)
 have h3 := h2 (by omega)
 by_cases e : a = k
 ·rw [e]; exact h3
 ·have := hs k a (by omega) hb; omega
theorem okI_hld {v : Srv} {t : Tab} (h : okI v) (ht : checkT t = 0) (hv : validS v.scheme t.p) (hr : 1 ≤ t.rows.length) : hldE v.scheme t v.id = 0 := (hld_ok hv ht hr h.2.2).1
theorem loadV_scheme (v : Srv) (t : Tab) : (loadV v t).scheme = v.scheme ∧ (loadV v t).id = v.id ∧ (loadV v t).up = v.up := by
 unfold loadV; split <;> exact ⟨rfl, rfl, rfl⟩
theorem askV_scheme (v : Srv) (n : Nte) : (askV v n).scheme = v.scheme ∧ (askV v n).id = v.id ∧ (askV v n).up = v.up := by
 unfold askV; split <;> exact ⟨rfl, rfl, rfl⟩
theorem wordV_scheme (v : Srv) (p : Psn) (lie : Int) : (wordV v p lie).scheme = v.scheme ∧ (wordV v p lie).id = v.id ∧ (wordV v p lie).up = v.up := by
 unfold wordV; split; · exact ⟨rfl, rfl, rfl⟩
 split; · exact ⟨rfl, rfl, rfl⟩
 split <;> exact ⟨rfl, rfl, rfl⟩
theorem okI_load {v : Srv} {t : Tab} (h : okI v) : okI (loadV v t) := by
 obtain ⟨h1, h2, _⟩ := loadV_scheme v t
 exact ⟨ok_load h.1, by rw [h1]; exact h.2.1, by rw [h2]; exact h.2.2.1, by rw [h1, h2]; exact h.2.2.2⟩
theorem okI_ask {v : Srv} {n : Nte} (h : okI v) : okI (askV v n) := by
 obtain ⟨h1, h2, _⟩ := askV_scheme v n
 exact ⟨ok_ask h.1, by rw [h1]; exact h.2.1, by rw [h2]; exact h.2.2.1, by rw [h1, h2]; exact h.2.2.2⟩
theorem okI_word {v : Srv} {p : Psn} {lie : Int} (h : okI v) : okI (wordV v p lie) := by
 obtain ⟨h1, h2, _⟩ := wordV_scheme v p lie
 exact ⟨ok_word h.1, by rw [h1]; exact h.2.1, by rw [h2]; exact h.2.2.1, by rw [h1, h2]; exact h.2.2.2⟩
theorem okI_crash {v : Srv} (h : okI v) : okI (crashV v) := ⟨ok_crash h.1, h.2.1, h.2.2⟩
theorem okI_new {id : Int} {s : Schm} (hs : shapeS s) (hid : 1 ≤ id ∧ id ≤ s.servers) : newSE id s = 0 ∧ newS id s = ⟨id, s, True, [], []⟩ ∧ okI (newS id s) := by
 have e : newSE id s = 0 := by unfold newSE; rw [if_neg (Classical.not_not.2 hs), if_neg (by omega)]
 have e2 : newS id s = ⟨id, s, True, [], []⟩ := by unfold newS; rw [if_pos e]
 exact ⟨e, e2, ok_new, by rw [e2]; exact ⟨hs, hid⟩⟩
theorem comb_word {h : Held} {j : Job} {lie : Int} (hh : okHeld h) (hq : j.query.length = h.rows.length) (hg : (j.got.length : Int) < h.head.width) :
  wordX h j lie = if j.got.length = 0 then ((combN h.head.p h.head.width.toNat h.rows j.query h.rows.length)[j.got.length]?.getD default + lie % h.head.p) % h.head.p else (combN h.head.p h.head.width.toNat h.rows j.query h.rows.length)[j.got.length]?.getD default := by
 obtain ⟨hp, hw, hl, hr⟩ := hh
 have h1 : (combN h.head.p h.head.width.toNat h.rows j.query h.rows.length)[j.got.length]?.getD default = dotK h.head.p j.got.length h.rows j.query h.rows.length := combN_at hp.1 (by omega) _ (Nat.le_refl _) (fun r hr' => by have := (hr r hr').1; omega)
 unfold wordX
 rw [h1]
theorem job_first {v : Srv} {j : Job} {rest : List Job} (h : okI v) (hj : v.jobs = j :: rest) : thereV v j.version ∧ okHeld (heldV v j.version) ∧ j.query.length = (heldV v j.version).rows.length ∧ allP (heldV v j.version).head.p j.query ∧ (j.got.length : Int) < (heldV v j.version).head.width ∧ allP (heldV v j.version).head.p j.got := by
 have := h.1.2.2.2.2 j (by rw [hj]; exact List.mem_cons_self ..)
 exact ⟨this.1, held_ok h.1 this.1, this.2.1, this.2.2.1, this.2.2.2.1, this.2.2.2.2⟩
end Go.Q
