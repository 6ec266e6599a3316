/- Contracts of queries on polynomials. -/
import Derived.Test.YtmihhjchmnmaiaaQFam
set_option linter.unusedVariables false
set_option linter.unusedSimpArgs false
namespace Go.Q
open Go.Proofs

open Classical
theorem cvalid_spec (sv d : Int) : SpecP Try.prog 147 [dAgg [dInt .i64 sv, dInt .i64 d]] (dB ((2 ≤ sv ∧ sv ≤ 10) ∧ 1 ≤ d ∧ d < sv)) := by
  refine specP_of_body Try.func147 rfl rfl (fun I M => ?_)
  refine run_seq ?_
  refine run_region ?_
  refine run_op (loc_boxN rfl) rfl ?_
  refine run_op (loc_assign rfl) rfl ?_
  refine run_nil ?_
  refine run_seq ?_
  refine run_region ?_
  refine run_op (loc_fieldAddr rfl) rfl ?_
  refine run_op (loc_load1 rfl) rfl ?_
  refine run_op (loc_geq rfl rfl) rfl ?_
  refine run_op (loc_move rfl) rfl ?_
  refine run_gfirst rfl rfl (by first | exact guard_true _ | exact guard_false _ | exact guard_if (guard_true _) | exact guard_if (guard_false _)) (fun hg => loc_fieldAddr rfl) rfl ?_
  refine run_gop rfl rfl (by first | exact guard_true _ | exact guard_false _ | exact guard_if (guard_true _) | exact guard_if (guard_false _)) (fun hg => loc_load1 rfl) rfl ?_
  refine run_gop rfl rfl (by first | exact guard_true _ | exact guard_false _ | exact guard_if (guard_true _) | exact guard_if (guard_false _)) (fun hg => loc_leq rfl rfl) rfl ?_
  refine run_gleave ?_
  refine run_op (loc_and rfl rfl) rfl ?_
  refine run_op (loc_move rfl) rfl ?_
  refine run_gfirst rfl rfl (by first | exact guard_true _ | exact guard_false _ | exact guard_if (guard_true _) | exact guard_if (guard_false _)) (fun hg => loc_fieldAddr rfl) rfl ?_
  refine run_gop rfl rfl (by first | exact guard_true _ | exact guard_false _ | exact guard_if (guard_true _) | exact guard_if (guard_false _)) (fun hg => loc_load1 rfl) rfl ?_
  refine run_gop rfl rfl (by first | exact guard_true _ | exact guard_false _ | exact guard_if (guard_true _) | exact guard_if (guard_false _)) (fun hg => loc_geq rfl rfl) rfl ?_
  refine run_gleave ?_
  refine run_op (loc_and rfl rfl) rfl ?_
  refine run_op (loc_move rfl) rfl ?_
  refine run_gfirst rfl rfl (by first | exact guard_true _ | exact guard_false _ | exact guard_if (guard_true _) | exact guard_if (guard_false _)) (fun hg => loc_fieldAddr rfl) rfl ?_
  refine run_gop rfl rfl (by first | exact guard_true _ | exact guard_false _ | exact guard_if (guard_true _) | exact guard_if (guard_false _)) (fun hg => loc_load1 rfl) rfl ?_
  refine run_gop rfl rfl (by first | exact guard_true _ | exact guard_false _ | exact guard_if (guard_true _) | exact guard_if (guard_false _)) (fun hg => loc_fieldAddr rfl) rfl ?_
  refine run_gop rfl rfl (by first | exact guard_true _ | exact guard_false _ | exact guard_if (guard_true _) | exact guard_if (guard_false _)) (fun hg => loc_load1 rfl) rfl ?_
  refine run_gop rfl rfl (by first | exact guard_true _ | exact guard_false _ | exact guard_if (guard_true _) | exact guard_if (guard_false _)) (fun hg => loc_lss rfl rfl) rfl ?_
  refine run_gleave ?_
  refine run_op (loc_and rfl rfl) rfl ?_
  refine run_op (loc_assign rfl) rfl ?_
  refine run_nil ?_
  refine run_retP Try.func147 rfl rfl ?_
  exact d_B (by constructor <;> (intro h; omega))

theorem ccheck_spec (p sv d : Int) : SpecP Try.prog 144 [dAgg [dInt .i64 p], dAgg [dInt .i64 sv, dInt .i64 d]] (dInt .i64 (planE p sv d)) := by
  refine specP_of_body Try.func144 rfl rfl (fun I M => ?_)
  refine run_seq ?_
  refine run_region ?_
  refine run_op (loc_boxN rfl) rfl ?_
  refine run_op (loc_boxN rfl) rfl ?_
  refine run_op (loc_assign rfl) rfl ?_
  refine run_nil ?_
  refine run_seq ?_
  refine run_seq ?_
  refine run_region ?_
  refine run_op (loc_loadN rfl rfl) rfl ?_
  refine run_op (loc_call (of_spec _) rfl) rfl ?_
  refine run_op (loc_move rfl) rfl ?_
  refine run_op (loc_extract rfl rfl) rfl ?_
  refine run_op (loc_extract rfl rfl) rfl ?_
  refine run_op (loc_assign rfl) rfl ?_
  refine run_op (loc_assign rfl) rfl ?_
  refine run_nil ?_
  refine run_seq ?_
  refine run_region ?_
  refine run_op (loc_move rfl) rfl ?_
  refine run_op (loc_not rfl) rfl ?_
  refine run_nil ?_
  refine run_cond rfl (fun h1 => ?_) (fun h1 => ?_)
  ·
    have c1 := h1
    refine run_seq ?_
    refine run_region ?_
    refine run_op (loc_assign rfl) rfl ?_
    refine run_nil ?_
    refine run_retP Try.func144 rfl rfl ?_
    exact d_int (by unfold planE; rw [if_pos c1])
  ·
    have c1 := h1
    refine run_skip ?_
    refine run_seq ?_
    refine run_seq ?_
    refine run_region ?_
    refine run_op (loc_loadN rfl rfl) rfl ?_
    refine run_op (loc_call (cvalid_spec _ _) rfl) rfl ?_
    refine run_op (loc_not rfl) rfl ?_
    refine run_op (loc_move rfl) rfl ?_
    refine run_gfirst rfl rfl (by first | exact guard_true _ | exact guard_false _ | exact guard_if (guard_true _) | exact guard_if (guard_false _)) (fun hg => loc_fieldAddr rfl) rfl ?_
    refine run_gop rfl rfl (by first | exact guard_true _ | exact guard_false _ | exact guard_if (guard_true _) | exact guard_if (guard_false _)) (fun hg => loc_load1 rfl) rfl ?_
    refine run_gop rfl rfl (by first | exact guard_true _ | exact guard_false _ | exact guard_if (guard_true _) | exact guard_if (guard_false _)) (fun hg => loc_fieldAddr rfl) rfl ?_
    refine run_gop rfl rfl (by first | exact guard_true _ | exact guard_false _ | exact guard_if (guard_true _) | exact guard_if (guard_false _)) (fun hg => loc_load1 rfl) rfl ?_
    refine run_gop rfl rfl (by first | exact guard_true _ | exact guard_false _ | exact guard_if (guard_true _) | exact guard_if (guard_false _)) (fun hg => loc_geq rfl rfl) rfl ?_
    refine run_gleave ?_
    refine run_op (loc_or rfl rfl) rfl ?_
    refine run_nil ?_
    refine run_cond rfl (fun h2 => ?_) (fun h2 => ?_)
    ·
      have c2 := h2
      refine run_seq ?_
      refine run_region ?_
      refine run_op (loc_assign rfl) rfl ?_
      refine run_nil ?_
      refine run_retP Try.func144 rfl rfl ?_
      exact d_int (by unfold planE; rw [if_neg c1, if_pos c2])
    ·
      have c2 := h2
      refine run_skip ?_
      refine run_seq ?_
      refine run_region ?_
      refine run_op (loc_assign rfl) rfl ?_
      refine run_nil ?_
      refine run_retP Try.func144 rfl rfl ?_
      exact d_int (by unfold planE; rw [if_neg c1, if_neg c2])

theorem ccheckR_spec (p sv d rows : Int) : SpecP Try.prog 142 [dAgg [dInt .i64 p], dAgg [dInt .i64 sv, dInt .i64 d], dInt .i64 rows] (dInt .i64 (planRE p sv d rows)) := by
  refine specP_of_body Try.func142 rfl rfl (fun I M => ?_)
  refine run_seq ?_
  refine run_region ?_
  refine run_op (loc_boxN rfl) rfl ?_
  refine run_op (loc_boxN rfl) rfl ?_
  refine run_op (loc_assign rfl) rfl ?_
  refine run_nil ?_
  refine run_seq ?_
  refine run_region ?_
  refine run_op (loc_loadN rfl rfl) rfl ?_
  refine run_op (loc_loadN rfl rfl) rfl ?_
  refine run_op (loc_call (ccheck_spec _ _ _) rfl) rfl ?_
  refine run_op (loc_assign rfl) rfl ?_
  refine run_nil ?_
  refine run_seq ?_
  refine run_seq ?_
  refine run_region ?_
  refine run_op (loc_move rfl) rfl ?_
  refine run_op (loc_eql rfl rfl) rfl ?_
  refine run_op (loc_move rfl) rfl ?_
  refine run_gfirst rfl rfl (by first | exact guard_true _ | exact guard_false _ | exact guard_if (guard_true _) | exact guard_if (guard_false _)) (fun hg => loc_move rfl) rfl ?_
  refine run_gop rfl rfl (by first | exact guard_true _ | exact guard_false _ | exact guard_if (guard_true _) | exact guard_if (guard_false _)) (fun hg => loc_lss rfl rfl) rfl ?_
  refine run_gop rfl rfl (by first | exact guard_true _ | exact guard_false _ | exact guard_if (guard_true _) | exact guard_if (guard_false _)) (fun hg => loc_move rfl) rfl ?_
  refine run_gleave ?_
  refine run_gfirst rfl rfl (by first | exact guard_true _ | exact guard_false _ | exact guard_if (guard_true _) | exact guard_if (guard_false _)) (fun hg => loc_move rfl) rfl ?_
  refine run_gop rfl rfl (by first | exact guard_true _ | exact guard_false _ | exact guard_if (guard_true _) | exact guard_if (guard_false _)) (fun hg => loc_gtr rfl rfl) rfl ?_
  refine run_gleave ?_
  first | refine run_gfirst rfl rfl (by first | exact guard_true _ | exact guard_false _ | exact guard_if (guard_true _) | exact guard_if (guard_false _)) (fun hg => loc_or rfl rfl) rfl ?_ | refine run_gfirst rfl rfl (by first | exact guard_true _ | exact guard_false _ | exact guard_if (guard_true _) | exact guard_if (guard_false _)) (fun hg => loc_orG hg rfl rfl) rfl ?_ | refine run_gfirst rfl rfl (by first | exact guard_true _ | exact guard_false _ | exact guard_if (guard_true _) | exact guard_if (guard_false _)) (fun hg => loc_orH hg rfl rfl) rfl ?_
  refine run_gleave ?_
  refine run_op (loc_and rfl rfl) rfl ?_
  refine run_nil ?_
  refine run_cond rfl (fun h1 => ?_) (fun h1 => ?_)
  ·
    have c1 := h1
    refine run_seq ?_
    refine run_region ?_
    refine run_op (loc_assign rfl) rfl ?_
    refine run_nil ?_
    refine run_retP Try.func142 rfl rfl ?_
    exact d_int (by unfold planRE; rw [if_pos c1])
  ·
    have c1 := h1
    refine run_skip ?_
    refine run_seq ?_
    refine run_region ?_
    refine run_op (loc_move rfl) rfl ?_
    refine run_op (loc_assign rfl) rfl ?_
    refine run_nil ?_
    refine run_retP Try.func142 rfl rfl ?_
    exact d_int (by unfold planRE; rw [if_neg c1])

theorem climits_spec (p sv d rows : Int) : SpecP Try.prog 140 [dAgg [dInt .i64 p], dAgg [dInt .i64 sv, dInt .i64 d], dInt .i64 rows] (dTup [dInts (limsC p sv d rows), dInt .i64 (planRE p sv d rows)]) := by
  refine specP_of_body Try.func140 rfl rfl (fun I M => ?_)
  refine run_seq ?_
  refine run_region ?_
  refine run_op (loc_boxN rfl) rfl ?_
  refine run_op (loc_boxN rfl) rfl ?_
  refine run_op (loc_assign rfl) rfl ?_
  refine run_op (loc_assign rfl) rfl ?_
  refine run_nil ?_
  refine run_seq ?_
  refine run_seq ?_
  refine run_region ?_
  refine run_op (loc_loadN rfl rfl) rfl ?_
  refine run_op (loc_loadN rfl rfl) rfl ?_
  refine run_op (loc_move rfl) rfl ?_
  refine run_op (loc_call (ccheckR_spec _ _ _ _) rfl) rfl ?_
  refine run_op (loc_assign rfl) rfl ?_
  refine run_nil ?_
  refine run_seq ?_
  refine run_region ?_
  refine run_op (loc_move rfl) rfl ?_
  refine run_op (loc_neq rfl rfl) rfl ?_
  refine run_nil ?_
  refine run_cond rfl (fun h1 => ?_) (fun h1 => ?_)
  ·
    have c1 := h1
    refine run_seq ?_
    refine run_region ?_
    refine run_op (loc_move rfl) rfl ?_
    refine run_op (loc_assign rfl) rfl ?_
    refine run_op (loc_assign rfl) rfl ?_
    refine run_nil ?_
    refine run_ret2P Try.func140 rfl rfl rfl ?_
    exact d_tup2 (d_toInts (by unfold limsC; rw [if_neg c1]) d_nil) (d_int rfl)
  ·
    have c1 := Classical.not_not.1 h1
    refine run_skip ?_
    refine run_seq ?_
    refine run_region ?_
    refine run_op (loc_assign rfl) rfl ?_
    refine run_nil ?_
    refine run_seq ?_
    refine run_seq ?_
    obtain ⟨hp, hsv, hd, hsp, hr⟩ := planRE_zero c1
    have hm := mul_bd (a := rows) (b := d) (A := 1024) (B := 10) (by omega) (by omega) (by omega) (by omega)
    refine run_region ?_
    refine run_op (loc_move rfl) rfl ?_
    refine run_op (loc_fieldAddr rfl) rfl ?_
    refine run_op (loc_load1 rfl) rfl ?_
    first | refine run_op (loc_mul rfl rfl (by first | omega | assumption)) rfl ?_ | refine run_op (loc_mulW rfl rfl) rfl ?_
    refine run_op (loc_move rfl) rfl ?_
    refine run_nil ?_
    refine run_block ?_
    refine run_rowNil 3 1 fI ?_
    refine run_loopF (σ := Value × Nat) (ks := [3, 20]) (.cons rfl (.cons rfl (.nil))) (fun q => [(9, dVal q.1), (21, dInt .i64 (q.2 : Nat))]) (fun q => [rRow q.1 3 1 fI (List.replicate q.2 p)]) (fun q => q.2 ≤ (rows * d).toNat) (fun q => (rows * d).toNat - q.2) ((.slice none 0 0, 0)) (Nat.zero_le _) (.cons rfl (by first | exact fun _ _ h => h | exact d_int (by omega) | exact d_int (by simp) | exact d_intN (by omega) | exact d_any) (.cons rfl (by first | exact fun _ _ h => h | exact d_int (by omega) | exact d_int (by simp) | exact d_intN (by omega) | exact d_any) .nil)) (rfl) ?_
    intro q hq ih2
    have hql : (List.replicate q.2 p).length = q.2 := List.length_replicate
    refine run_seq ?_
    refine run_region ?_
    refine run_op (loc_lss rfl rfl) rfl ?_
    refine run_nil ?_
    refine run_seq ?_
    refine run_cond rfl (fun h3 => ?_) (fun h3 => ?_)
    ·
      refine run_skip ?_
      refine run_seq ?_
      refine run_block ?_
      refine run_region ?_
      refine run_op (loc_move rfl) rfl ?_
      refine run_op (loc_fieldAddr rfl) rfl ?_
      refine run_op (loc_load1 rfl) rfl ?_
      refine run_op (loc_buildSlice rfl rfl (.one rfl (.nil)) rfl rfl) rfl ?_
      refine run_append1 rfl (.here) rfl (by rfl) (by rfl) (by first | omega | (unfold lenMax; omega) | assumption | (simp; omega) | (simp [lenMax]; omega)) (by first | omega | (unfold lenMax; omega) | assumption | (simp; omega) | (simp [lenMax]; omega)) rfl (fun v4 => ?_)
      refine run_op (loc_assign rfl) rfl ?_
      refine run_nil ?_
      refine run_inBlock ?_
      refine run_region ?_
      first | refine run_op (loc_add rfl rfl (by first | omega | assumption)) rfl ?_ | refine run_op (loc_addW rfl rfl) rfl ?_
      refine run_op (loc_move rfl) rfl ?_
      refine run_nil ?_
      exact run_againF ih2 ((v4, q.2 + 1)) (by simp only; omega) (by simp only; omega) (.cons rfl (by first | exact fun _ _ h => h | exact d_int (by omega) | exact d_int (by simp) | exact d_intN (by omega) | exact d_any) (.cons rfl (by first | exact fun _ _ h => h | exact d_int (by omega) | exact d_int (by simp) | exact d_intN (by omega) | exact d_any) .nil)) (.cons rfl (fun _ _ x => x) (.cons rfl (fun _ _ x => x) (.nil))) (by simp only [appR]; rw [rep_snoc])
    ·
      refine run_exit rfl ?_
      refine run_seq ?_
      refine run_freezeRow (s := 9) rfl (.here) ?_
      refine run_region ?_
      refine run_op (loc_move rfl) rfl ?_
      refine run_op (loc_assign rfl) rfl ?_
      refine run_op (loc_assign rfl) rfl ?_
      refine run_nil ?_
      refine run_ret2P Try.func140 rfl rfl rfl ?_
      exact d_tup2 (d_eq (by unfold limsC; rw [if_pos c1, show q.2 = (rows * d).toNat by omega])) (d_int c1.symm)

theorem cqueriesM_spec (p sv d rows index : Int) (t : Tape) : Spec Try.prog 141 [dAgg [dInt .i64 p], dAgg [dInt .i64 sv, dInt .i64 d], dInt .i64 rows, dInt .i64 index, dTape t] [] (σ := Value × List (Value × List Int)) (fun q => q.2.map (·.2) = cqL p sv d rows index t) (fun q => dTup [dVal q.1, dTape (cqT p sv d rows index t), dInt .i64 (cqE p sv d rows index t)]) (fun q => rRow q.1 40 1 (fun u => [dSlV u]) (q.2.map (·.1)) :: fam 3 1 (fun x => [dInt .i64 x]) q.2) := by
  refine spec_of_body Try.func141 rfl rfl (fun I F => ?_)
  refine run_seq ?_
  refine run_region ?_
  refine run_op (loc_boxN rfl) rfl ?_
  refine run_op (loc_boxN rfl) rfl ?_
  refine run_new (loc_boxOwnN rfl) rfl (fun b9 _ => ?_)
  refine run_op (loc_assign rfl) rfl ?_
  refine run_new (loc_allocOwn (by simp)) rfl (fun b11 _ => ?_)
  refine run_op (loc_assign rfl) rfl ?_
  refine run_nil ?_
  refine run_seq ?_
  refine run_seq ?_
  refine run_region ?_
  refine run_op (loc_loadN rfl rfl) rfl ?_
  refine run_op (loc_loadN rfl rfl) rfl ?_
  refine run_op (loc_move rfl) rfl ?_
  refine run_op (loc_call (ccheckR_spec _ _ _ _) rfl) rfl ?_
  refine run_op (loc_assign rfl) rfl ?_
  refine run_nil ?_
  refine run_seq ?_
  refine run_region ?_
  refine run_op (loc_move rfl) rfl ?_
  refine run_op (loc_neq rfl rfl) rfl ?_
  refine run_nil ?_
  refine run_cond rfl (fun h1 => ?_) (fun h1 => ?_)
  ·
    have c1 := h1
    refine run_seq ?_
    refine run_region ?_
    refine run_op (loc_build (.nil)) rfl ?_
    refine run_op (loc_move rfl) rfl ?_
    refine run_op (loc_assign rfl) rfl ?_
    refine run_storeN (ho := (by show OneAll [_, _]; infer_instance)) rfl rfl (.here) (by rfl) ?_
    refine run_op (loc_assign rfl) rfl ?_
    refine run_nil ?_
    have hE : cqE p sv d rows index t = planRE p sv d rows := by unfold cqE; rw [if_pos c1]
    refine run_retG ((.slice none 0 0, [])) Try.func141 rfl (.tmp rfl (.cellN rfl (by first | exact .here | exact .there .here | exact .there (.there .here) | exact .there (.there (.there .here)) | exact .there (.there (.there (.there .here))) | exact .there (.there (.there (.there (.there .here))))) (by rfl) (.tmp rfl (.nil)))) ?_ (by unfold cqL; rw [if_neg (by rw [hE]; omega)]; rfl) (fun I w h => nil_ok ((fun _ _ h => h.sub (.cons _ (.cons _ (.refl _)))) I w h))
    exact d_tup3 (fun _ _ h => h) (d_toTape (by unfold cqT; rw [if_neg (by rw [hE]; omega)]) (d_aggU (.cons d_nil (.cons (d_int rfl) .nil)))) (d_int hE.symm)
  ·
    have c1 := Classical.not_not.1 h1
    refine run_skip ?_
    refine run_seq ?_
    refine run_seq ?_
    refine run_region ?_
    refine run_op (loc_move rfl) rfl ?_
    refine run_op (loc_lss rfl rfl) rfl ?_
    refine run_op (loc_move rfl) rfl ?_
    refine run_gfirst rfl rfl (by first | exact guard_true _ | exact guard_false _ | exact guard_if (guard_true _) | exact guard_if (guard_false _)) (fun hg => loc_move rfl) rfl ?_
    refine run_gop rfl rfl (by first | exact guard_true _ | exact guard_false _ | exact guard_if (guard_true _) | exact guard_if (guard_false _)) (fun hg => loc_move rfl) rfl ?_
    refine run_gop rfl rfl (by first | exact guard_true _ | exact guard_false _ | exact guard_if (guard_true _) | exact guard_if (guard_false _)) (fun hg => loc_geq rfl rfl) rfl ?_
    refine run_gleave ?_
    refine run_op (loc_or rfl rfl) rfl ?_
    refine run_nil ?_
    refine run_cond rfl (fun h2 => ?_) (fun h2 => ?_)
    ·
      have c2 := h2
      refine run_seq ?_
      refine run_region ?_
      refine run_op (loc_build (.nil)) rfl ?_
      refine run_op (loc_assign rfl) rfl ?_
      refine run_storeN (ho := (by show OneAll [_, _]; infer_instance)) rfl rfl (.here) (by rfl) ?_
      refine run_op (loc_assign rfl) rfl ?_
      refine run_nil ?_
      have hE : cqE p sv d rows index t = 6 := by unfold cqE; rw [if_neg (Classical.not_not.2 c1), if_pos (by omega)]
      refine run_retG ((.slice none 0 0, [])) Try.func141 rfl (.tmp rfl (.cellN rfl (by first | exact .here | exact .there .here | exact .there (.there .here) | exact .there (.there (.there .here)) | exact .there (.there (.there (.there .here))) | exact .there (.there (.there (.there (.there .here))))) (by rfl) (.tmp rfl (.nil)))) ?_ (by unfold cqL; rw [if_neg (by rw [hE]; omega)]; rfl) (fun I w h => nil_ok ((fun _ _ h => h.sub (.cons _ (.cons _ (.refl _)))) I w h))
      exact d_tup3 (fun _ _ h => h) (d_toTape (by unfold cqT; rw [if_neg (by rw [hE]; omega)]) (d_aggU (.cons d_nil (.cons (d_int rfl) .nil)))) (d_int hE.symm)
    ·
      have c2 := h2
      refine run_skip ?_
      refine run_seq ?_
      obtain ⟨hp, hsv, hd, hsp, hr⟩ := planRE_zero c1
      have hpb := hp.1
      have hpb2 := hp.2.1
      have hm := mul_bd (a := rows) (b := d) (A := 1024) (B := 9) (by omega) (by omega) (by omega) (by omega)
      refine run_region ?_
      refine run_op (loc_loadOwnN rfl (.there (.here)) (by rfl)) rfl ?_
      refine run_op (loc_fieldAddr rfl) rfl ?_
      refine run_op (loc_load1 rfl) rfl ?_
      refine run_op (loc_move rfl) rfl ?_
      refine run_op (loc_fieldAddr rfl) rfl ?_
      refine run_op (loc_load1 rfl) rfl ?_
      first | refine run_op (loc_mul rfl rfl (by first | omega | assumption)) rfl ?_ | refine run_op (loc_mulW rfl rfl) rfl ?_
      refine run_op (loc_call (draws_spec _ _ _) rfl) rfl ?_
      refine run_op (loc_move rfl) rfl ?_
      refine run_op (loc_extract rfl rfl) rfl ?_
      refine run_op (loc_extract rfl rfl) rfl ?_
      refine run_op (loc_extract rfl rfl) rfl ?_
      refine run_new (loc_allocOwn (by simp)) rfl (fun b14 _ => ?_)
      refine run_storeN (ho := (by show OneAll [_, _]; infer_instance)) rfl rfl (.here) (by rfl) ?_
      refine run_op (loc_assign rfl) rfl ?_
      refine run_op (loc_assign rfl) rfl ?_
      refine run_nil ?_
      have hE : cqE p sv d rows index t = drawE t p (rows * d) := by unfold cqE; rw [if_neg (Classical.not_not.2 c1), if_neg (by omega)]
      refine run_seq ?_
      refine run_seq ?_
      refine run_region ?_
      refine run_op (loc_move rfl) rfl ?_
      refine run_op (loc_neq rfl rfl) rfl ?_
      refine run_nil ?_
      refine run_cond rfl (fun h3 => ?_) (fun h3 => ?_)
      ·
        have c3 := h3
        refine run_seq ?_
        refine run_region ?_
        refine run_op (loc_build (.nil)) rfl ?_
        refine run_op (loc_move rfl) rfl ?_
        refine run_op (loc_assign rfl) rfl ?_
        refine run_storeN (ho := (by show OneAll [_, _]; infer_instance)) rfl rfl (.there (.here)) (by rfl) ?_
        refine run_op (loc_assign rfl) rfl ?_
        refine run_nil ?_
        skip
        refine run_retG ((.slice none 0 0, [])) Try.func141 rfl (.tmp rfl (.cellN rfl (by first | exact .here | exact .there .here | exact .there (.there .here) | exact .there (.there (.there .here)) | exact .there (.there (.there (.there .here))) | exact .there (.there (.there (.there (.there .here))))) (by rfl) (.tmp rfl (.nil)))) ?_ (by unfold cqL; rw [if_neg (by rw [hE]; omega)]; rfl) (fun I w h => nil_ok ((fun _ _ h => h.sub (.cons _ (.cons _ (.cons _ (.refl _))))) I w h))
        exact d_tup3 (fun _ _ h => h) (d_toTape (by unfold cqT; rw [if_neg (by rw [hE]; omega)]) (d_aggU (.cons d_nil (.cons (d_int rfl) .nil)))) (d_int hE.symm)
      ·
        have c3 := Classical.not_not.1 h3
        refine run_skip ?_
        refine run_seq ?_
        have hdz := drawE_zero c3
        have hok := hdz.1
        unfold okTape at hok
        have hdl := hdz.2.2.2.2.1
        have hda := hdz.2.2.2.2.2
        refine run_region ?_
        refine run_op (loc_fieldAddr rfl) rfl ?_
        refine run_op (loc_load1 rfl) rfl ?_
        refine run_new (loc_makeSlice rfl rfl (by first | omega | assumption) (by first | omega | assumption) _ _ rfl (by simp)) rfl (fun b17 _ => ?_)
        refine run_op (loc_assign rfl) rfl ?_
        refine run_nil ?_
        refine run_seq ?_
        refine run_seq ?_
        refine run_inv (M' := rRow (.slice (some ⟨b17, 0, none⟩) sv.toNat sv.toNat) 40 1 (fun u => [dSlV u]) ((List.replicate sv.toNat ((.slice none 0 0 : Value), ([] : List Int))).map (·.1)) :: rCells b11 57 [dVal (.slice none 0 0), dInt .i64 0] :: rCells b9 57 [dInts t.numbers, dInt .i64 t.at'] :: (fam 3 1 fI (List.replicate sv.toNat ((.slice none 0 0 : Value), ([] : List Int))) ++ F)) (fun I w h => fam_nils [_, _, _] sv.toNat (by rw [List.map_replicate]; exact row_nilV (h.sub (.cons_cons _ (.cons _ (.refl _)))))) ?_
        refine run_region ?_
        refine run_op (loc_move rfl) rfl ?_
        refine run_op (loc_move rfl) rfl ?_
        refine run_nil ?_
        refine run_block ?_
        refine run_loopE (σ := Nat × List (Value × List Int)) (ks := [3, 5, 6, 9, 11, 15, 17, 60]) (.cons rfl (.cons rfl (.cons rfl (.cons rfl (.cons rfl (.cons rfl (.cons rfl (.cons rfl (.nil))))))))) (fun q => [(61, dInt .i64 (q.1 : Nat))]) (fun q => rRow (.slice (some ⟨b17, 0, none⟩) sv.toNat sv.toNat) 40 1 (fun u => [dSlV u]) (q.2.map (·.1)) :: rCells b11 57 [dVal (.slice none 0 0), dInt .i64 0] :: rCells b9 57 [dInts t.numbers, dInt .i64 t.at'] :: (fam 3 1 fI q.2 ++ F)) (fun q => q.1 ≤ rows.toNat ∧ q.2.length = sv.toNat ∧ q.2.map (·.2) = cqP p d index (drawL t p (rows * d)) sv.toNat 0 q.1) (fun q => rows.toNat - q.1) ((0, (List.replicate sv.toNat ((.slice none 0 0 : Value), ([] : List Int))))) (⟨Nat.zero_le _, by simp, by rw [cqP_0]; simp⟩) (.cons rfl (by first | exact fun _ _ h => h | exact d_int (by omega) | exact d_int (by simp) | exact d_intN (by omega) | exact d_any) .nil) (rfl) ?_
        rintro q ⟨hq1, hq2, hq3⟩ ih4
        refine run_seq ?_
        refine run_region ?_
        refine run_op (loc_lss rfl rfl) rfl ?_
        refine run_nil ?_
        refine run_seq ?_
        refine run_cond rfl (fun h5 => ?_) (fun h5 => ?_)
        ·
          refine run_skip ?_
          refine run_seq ?_
          refine run_block ?_
          refine run_seq ?_
          refine run_region ?_
          refine run_op (loc_move rfl) rfl ?_
          refine run_op (loc_assign rfl) rfl ?_
          refine run_nil ?_
          refine run_seq ?_
          refine run_region ?_
          refine run_op (loc_assign rfl) rfl ?_
          refine run_nil ?_
          refine run_seq ?_
          refine run_seq ?_
          refine run_region ?_
          refine run_op (loc_move rfl) rfl ?_
          refine run_op (loc_move rfl) rfl ?_
          refine run_op (loc_eql rfl rfl) rfl ?_
          refine run_nil ?_
          refine run_joinC (σ := Unit) (ks := [3, 5, 6, 9, 11, 15, 17, 18, 60, 61]) (.cons rfl (.cons rfl (.cons rfl (.cons rfl (.cons rfl (.cons rfl (.cons rfl (.cons rfl (.cons rfl (.cons rfl (.nil))))))))))) (fun _u => [(19, dInt .i64 (if (q.1 : Int) = index then 1 else 0))]) (fun _u => True) (fun j6 => ?_) ?_
          ·
            refine run_cond rfl (fun h7 => ?_) (fun h7 => ?_)
            ·
              refine run_region ?_
              refine run_op (loc_assign rfl) rfl ?_
              refine run_nil ?_
              exact run_atC j6 (()) (trivial) (.cons rfl (d_int (by rw [if_pos (by omega)])) .nil) (.cons rfl (fun _ _ x => x) (.cons rfl (fun _ _ x => x) (.cons rfl (fun _ _ x => x) (.cons rfl (fun _ _ x => x) (.cons rfl (fun _ _ x => x) (.cons rfl (fun _ _ x => x) (.cons rfl (fun _ _ x => x) (.cons rfl (fun _ _ x => x) (.cons rfl (fun _ _ x => x) (.cons rfl (fun _ _ x => x) (.nil)))))))))))
            ·
              refine run_skip ?_
              exact run_atC j6 (()) (trivial) (.cons rfl (d_int (by rw [if_neg (by omega)])) .nil) (.cons rfl (fun _ _ x => x) (.cons rfl (fun _ _ x => x) (.cons rfl (fun _ _ x => x) (.cons rfl (fun _ _ x => x) (.cons rfl (fun _ _ x => x) (.cons rfl (fun _ _ x => x) (.cons rfl (fun _ _ x => x) (.cons rfl (fun _ _ x => x) (.cons rfl (fun _ _ x => x) (.cons rfl (fun _ _ x => x) (.nil)))))))))))
          intro _u _
          refine run_seq ?_
          have hqd := mul_bd (a := (q.1 : Int)) (b := d) (A := 1024) (B := 9) (by omega) (by omega) (by omega) (by omega)
          have hqd1 : ((q.1 : Int) + 1) * d = (q.1 : Int) * d + d := by rw [Int.add_mul, Int.one_mul]
          have hqd2 : ((q.1 : Int) + 1) * d ≤ rows * d := Int.mul_le_mul_of_nonneg_right (by omega) (by omega)
          have hsp1 := split_ok (p := p) (sec := (if (q.1 : Int) = index then 1 else 0)) (most := d) (count := sv) (l := ((drawL t p (rows * d)).take (((q.1 : Int) + 1) * d).toNat).drop ((q.1 : Int) * d).toNat) hp (by unfold hasP; split <;> omega) (by omega) (by omega) (by rw [List.length_drop, List.length_take]; omega) (sl_all hda)
          refine run_addNone ?_
          refine dr_start _ (.one (σ := Nat) 23 (fun _ => True)) [⟨[(5, none)], [], none⟩,
              ⟨[(19, none)], [], none⟩,
              ⟨[(6, none)], [], none⟩,
              ⟨[(70, some (2, false))], [2], none⟩,
              ⟨[(6, none)], [], none⟩,
              ⟨[(72, some (4, false))], [4], none⟩,
              ⟨[(15, none)], [], none⟩,
              ⟨[(18, none)], [], none⟩,
              ⟨[(6, none)], [], none⟩,
              ⟨[(76, some (8, false))], [8], none⟩,
              ⟨[(75, some (7, false)), (77, some (9, false))], [7, 8, 9], none⟩,
              ⟨[(18, none)], [], none⟩,
              ⟨[(79, some (11, false))], [11], none⟩,
              ⟨[(6, none)], [], none⟩,
              ⟨[(81, some (13, false))], [13], none⟩,
              ⟨[(80, some (12, false)), (82, some (14, false))], [11, 12, 13, 14], none⟩,
              ⟨[(74, some (6, false)), (78, some (10, false)), (83, some (15, false))], [6, 7, 8, 9, 10, 11, 12, 13, 14, 15], none⟩,
              ⟨[(84, some (16, false))], [6, 7, 8, 9, 10, 11, 12, 13, 14, 15, 16], none⟩,
              ⟨[(68, some (0, false)), (69, some (1, false)), (71, some (3, false)), (73, some (5, false)), (85, some (17, false))], [0, 1, 2, 3, 4, 5, 6, 7, 8, 9, 10, 11, 12, 13, 14, 15, 16, 17], none⟩,
              ⟨[(86, some (18, false))], [0, 1, 2, 3, 4, 5, 6, 7, 8, 9, 10, 11, 12, 13, 14, 15, 16, 17, 18], none⟩,
              ⟨[(67, some (19, false))], [0, 1, 2, 3, 4, 5, 6, 7, 8, 9, 10, 11, 12, 13, 14, 15, 16, 17, 18, 19], none⟩,
              ⟨[(67, some (19, false))], [0, 1, 2, 3, 4, 5, 6, 7, 8, 9, 10, 11, 12, 13, 14, 15, 16, 17, 18, 19], none⟩,
              ⟨[(67, some (19, false))], [0, 1, 2, 3, 4, 5, 6, 7, 8, 9, 10, 11, 12, 13, 14, 15, 16, 17, 18, 19], none⟩,
              ⟨[], [], some (0, 0, true)⟩,
              ⟨[(87, some (20, false))], [0, 1, 2, 3, 4, 5, 6, 7, 8, 9, 10, 11, 12, 13, 14, 15, 16, 17, 18, 19, 20, 23], none⟩,
              ⟨[(21, some (23, false)), (88, some (21, false))], [0, 1, 2, 3, 4, 5, 6, 7, 8, 9, 10, 11, 12, 13, 14, 15, 16, 17, 18, 19, 20, 21, 23, 24], some (0, 1, true)⟩,
              ⟨[(89, some (22, false))], [0, 1, 2, 3, 4, 5, 6, 7, 8, 9, 10, 11, 12, 13, 14, 15, 16, 17, 18, 19, 20, 21, 22, 23, 24, 25], none⟩] [_, _, _, _] _ rfl rfl ?_
          refine dq_pure rfl (fun s => .g rfl (.nil)) (fun s hs _ => loc_loadN rfl rfl) (by exact .cons (.inr fun _ _ _ => rfl) (.nil)) ?_
          refine dq_pure rfl (fun s => .g rfl (.nil)) (fun s hs _ => loc_move rfl) (by exact .cons (.inr fun _ _ _ => rfl) (.nil)) ?_
          refine dq_pure rfl (fun s => .g rfl (.nil)) (fun s hs _ => loc_fieldAddr rfl) (by exact .cons (.inr fun _ _ _ => rfl) (.nil)) ?_
          refine dq_pure rfl (fun s => .op rfl (.nil)) (fun s hs _ => loc_load1 rfl) (by exact .cons (.inr fun _ _ _ => rfl) (.nil)) ?_
          refine dq_pure rfl (fun s => .g rfl (.nil)) (fun s hs _ => loc_fieldAddr rfl) (by exact .cons (.inr fun _ _ _ => rfl) (.nil)) ?_
          refine dq_pure rfl (fun s => .op rfl (.nil)) (fun s hs _ => loc_load1 rfl) (by exact .cons (.inr fun _ _ _ => rfl) (.nil)) ?_
          refine dq_pure rfl (fun s => .g rfl (.nil)) (fun s hs _ => loc_move rfl) (by exact .cons (.inr fun _ _ _ => rfl) (.nil)) ?_
          refine dq_pure rfl (fun s => .g rfl (.nil)) (fun s hs _ => loc_move rfl) (by exact .cons (.inr fun _ _ _ => rfl) (.nil)) ?_
          refine dq_pure rfl (fun s => .g rfl (.nil)) (fun s hs _ => loc_fieldAddr rfl) (by exact .cons (.inr fun _ _ _ => rfl) (.nil)) ?_
          refine dq_pure rfl (fun s => .op rfl (.nil)) (fun s hs _ => loc_load1 rfl) (by exact .cons (.inr fun _ _ _ => rfl) (.nil)) ?_
          first | refine dq_pure rfl (fun s => .op rfl (.op rfl (.nil))) (fun s hs _ => loc_mul rfl rfl (by first | omega | assumption)) (by exact .cons (.inr fun _ _ _ => rfl) (.nil)) ?_ | refine dq_pure rfl (fun s => .op rfl (.op rfl (.nil))) (fun s hs _ => loc_mulW rfl rfl) (by exact .cons (.inr fun _ _ _ => rfl) (.nil)) ?_
          refine dq_pure rfl (fun s => .g rfl (.nil)) (fun s hs _ => loc_move rfl) (by exact .cons (.inr fun _ _ _ => rfl) (.nil)) ?_
          first | refine dq_pure rfl (fun s => .op rfl (.nil)) (fun s hs _ => loc_add rfl rfl (by first | omega | assumption)) (by exact .cons (.inr fun _ _ _ => rfl) (.nil)) ?_ | refine dq_pure rfl (fun s => .op rfl (.nil)) (fun s hs _ => loc_addW rfl rfl) (by exact .cons (.inr fun _ _ _ => rfl) (.nil)) ?_
          refine dq_pure rfl (fun s => .g rfl (.nil)) (fun s hs _ => loc_fieldAddr rfl) (by exact .cons (.inr fun _ _ _ => rfl) (.nil)) ?_
          refine dq_pure rfl (fun s => .op rfl (.nil)) (fun s hs _ => loc_load1 rfl) (by exact .cons (.inr fun _ _ _ => rfl) (.nil)) ?_
          first | refine dq_pure rfl (fun s => .op rfl (.op rfl (.nil))) (fun s hs _ => loc_mul rfl rfl (by first | omega | assumption)) (by exact .cons (.inr fun _ _ _ => rfl) (.nil)) ?_ | refine dq_pure rfl (fun s => .op rfl (.op rfl (.nil))) (fun s hs _ => loc_mulW rfl rfl) (by exact .cons (.inr fun _ _ _ => rfl) (.nil)) ?_
          refine dq_pure rfl (fun s => .op rfl (.op rfl (.op rfl (.nil)))) (fun s hs _ => loc_slice rfl rfl rfl (by first | omega | assumption)) (by exact .cons (.inr fun _ _ _ => rfl) (.nil)) ?_
          refine dq_pure rfl (fun s => .op rfl (.nil)) (fun s hs _ => loc_build (.one rfl rfl rfl (.nil))) (by exact .cons (.inr fun _ _ _ => rfl) (.nil)) ?_
          refine dq_pure rfl (fun s => .op rfl (.op rfl (.op rfl (.op rfl (.op rfl (.nil)))))) (fun s hs _ => loc_call (split_spec _ _ _ _ ⟨_, _⟩) rfl) (by exact .cons (.inr fun _ _ _ => rfl) (.nil)) ?_
          refine dq_pure rfl (fun s => .op rfl (.nil)) (fun s hs _ => loc_move rfl) (by exact .cons (.inr fun _ _ _ => rfl) (.nil)) ?_
          refine dq_pure rfl (fun s => .op rfl (.nil)) (fun s hs _ => loc_extract rfl rfl) (by exact .cons (.inr fun _ _ _ => rfl) (.nil)) ?_
          refine dq_pure rfl (fun s => .op rfl (.nil)) (fun s hs _ => loc_extract rfl rfl) (by exact .cons (.inr fun _ _ _ => rfl) (.nil)) ?_
          refine dq_pure rfl (fun s => .op rfl (.nil)) (fun s hs _ => loc_extract rfl rfl) (by exact .cons (.inr fun _ _ _ => rfl) (.nil)) ?_
          refine dq_choose id (fun _ t => t) rfl (fun _ _ => ⟨rfl, id, trivial⟩) (fun s => .nil) rfl rfl (fun s hs => locM_new (loc_allocOwn (by simp))) (by exact .cons (.inl rfl) (.nil)) ?_
          refine dq_pure rfl (fun s => .op rfl (.nil)) (fun s hs _ => loc_assign rfl) (by exact .cons (.inl rfl) (.nil)) ?_
          refine dq_write0 rfl (fun s => .op rfl (.op rfl (.nil))) rfl rfl (fun s hs => loc_storeN (ho := (by show OneAll [_, _]; infer_instance)) rfl rfl rfl) (by exact .cons (.inl rfl) (.nil)) ?_
          refine dq_pure rfl (fun s => .op rfl (.nil)) (fun s hs _ => loc_assign rfl) (by exact .cons (.inl rfl) (.nil)) ?_
          refine dq_end (rs := [_, _, _, _]) 0 rfl (fun _ => rfl) (.cons rfl (.nil)) rfl (fun b8 _ => ?_)
          dsimp only [outG, outM, List.map, List.set, id]
          refine run_seq ?_
          refine run_seq ?_
          refine run_region ?_
          refine run_op (loc_move rfl) rfl ?_
          refine run_op (loc_neq rfl rfl) rfl ?_
          refine run_nil ?_
          refine run_cond rfl (fun h9 => ?_) (fun h9 => ?_)
          · exfalso; exact h9 hsp1.1
          ·
            refine run_skip ?_
            refine run_seq ?_
            refine run_region ?_
            refine run_op (loc_move rfl) rfl ?_
            first | refine runL_fact (s := 94) rfl (fun _ _ h => dSl_len h) (fun hlen10 => ?_) | skip
            refine run_op (loc_len rfl) rfl ?_
            refine run_op (loc_move rfl) rfl ?_
            refine run_nil ?_
            refine run_block ?_
            refine run_inv (fun _ _ h => inv_tail h) ?_
            refine run_loopE (σ := Nat × List (Value × List Int)) (ks := [3, 5, 6, 9, 11, 15, 17, 60, 61, 94, 95]) (.cons rfl (.cons rfl (.cons rfl (.cons rfl (.cons rfl (.cons rfl (.cons rfl (.cons rfl (.cons rfl (.cons rfl (.cons rfl (.nil)))))))))))) (fun u => [(96, dInt .i64 (u.1 : Nat))]) (fun u => rRow (.slice (some ⟨b17, 0, none⟩) sv.toNat sv.toNat) 40 1 (fun u => [dSlV u]) (u.2.map (·.1)) :: rCells b11 57 [dVal (.slice none 0 0), dInt .i64 0] :: rCells b9 57 [dInts t.numbers, dInt .i64 t.at'] :: (fam 3 1 fI u.2 ++ F)) (fun u => u.1 ≤ sv.toNat ∧ u.2.length = sv.toNat ∧ u.2.map (·.2) = cqP p d index (drawL t p (rows * d)) sv.toNat u.1 q.1) (fun u => sv.toNat - u.1) ((0, q.2)) (⟨Nat.zero_le _, hq2, hq3⟩) (.cons rfl (by first | exact fun _ _ h => h | exact d_int (by omega) | exact d_int (by simp) | exact d_intN (by omega) | exact d_any) .nil) (rfl) ?_
            rintro u ⟨hu1, hu2, hu3⟩ ih11
            refine run_seq ?_
            refine run_region ?_
            refine run_op (loc_lss rfl rfl) rfl ?_
            refine run_nil ?_
            refine run_seq ?_
            refine run_cond rfl (fun h12 => ?_) (fun h12 => ?_)
            ·
              have hus : u.1 < sv.toNat := by have := h12; rw [hsp1.2, shares_len] at this; omega
              obtain ⟨pk, hpk⟩ : ∃ pk, u.2[u.1]? = some pk := ⟨u.2[u.1]'(by omega), List.getElem?_eq_getElem (by omega)⟩
              have hpk1 : (u.2.map (·.1))[u.1]?.getD default = pk.1 := by rw [List.getElem?_map, hpk]; rfl
              have hpk2 : pk.2 = (List.range q.1).map (fun r => cV p d index (drawL t p (rows * d)) u.1 r) := by rw [← cqP_get (d := d) (index := index) hus, ← hu3, List.getElem?_map, hpk]; rfl
              have hml : (u.2.map (·.1)).length = sv.toNat := by rw [List.length_map]; exact hu2
              have hpl : pk.2.length = q.1 := by rw [hpk2]; simp
              have hsh : (splitL p (if (q.1 : Int) = index then 1 else 0) d sv ⟨((drawL t p (rows * d)).take (((q.1 : Int) + 1) * d).toNat).drop ((q.1 : Int) * d).toNat, 0⟩)[u.1]?.getD default = ((u.1 : Int) + 1, cV p d index (drawL t p (rows * d)) u.1 q.1) := by rw [hsp1.2, shares_get hus]; rfl
              refine run_skip ?_
              refine run_seq ?_
              refine run_block ?_
              refine run_seq ?_
              refine run_region ?_
              refine run_op (loc_move rfl) rfl ?_
              first | refine run_op (loc_index rfl rfl (by first | omega | assumption)) rfl ?_ | refine run_op (loc_indexI rfl rfl (by first | omega | assumption)) rfl ?_
              refine run_op (loc_loadN rfl rfl) rfl ?_
              refine runL_recast (s := 100) rfl (d_eq (d' := dAgg [dInt .i64 ((u.1 : Int) + 1), dInt .i64 (cV p d index (drawL t p (rows * d)) u.1 q.1)]) (by rw [hsh]; rfl)) ?_
              refine run_new (loc_allocOwn (by simp)) rfl (fun b13 _ => ?_)
              refine run_op (loc_assign rfl) rfl ?_
              refine run_storeN (ho := (by show OneAll [_, _]; infer_instance)) rfl rfl (.here) (by rfl) ?_
              refine run_nil ?_
              refine run_inv (fun I w h => fam_out [_, _, _, _] u.1 hpk h) ?_
              refine dr_start _ (.one (σ := Value) 9 (fun _ => True)) [⟨[(17, none)], [], none⟩,
                  ⟨[(23, none)], [], none⟩,
                  ⟨[(17, none)], [], none⟩,
                  ⟨[(23, none)], [], none⟩,
                  ⟨[(103, some (2, false)), (104, some (3, false))], [2, 3], none⟩,
                  ⟨[(105, some (4, false))], [2, 3, 4], some (2, 0, false)⟩,
                  ⟨[(24, none)], [], none⟩,
                  ⟨[(107, some (6, false))], [6], some (1, 0, false)⟩,
                  ⟨[(108, some (7, false))], [6, 7], none⟩,
                  ⟨[(106, some (5, false)), (109, some (8, false))], [2, 3, 4, 5, 6, 7, 8], some (0, 0, true)⟩,
                  ⟨[(101, some (0, false)), (102, some (1, false))], [0, 1, 2, 3, 4, 5, 6, 7, 8, 9], none⟩,
                  ⟨[(111, some (10, false)), (110, some (9, false))], [0, 1, 2, 3, 4, 5, 6, 7, 8, 9, 10], some (2, 0, true)⟩] [_, _, _, _, _] _ rfl rfl ?_
              refine dq_pure rfl (fun s => .g rfl (.nil)) (fun s hs _ => loc_move rfl) (by exact .cons (.inr fun _ _ _ => rfl) (.nil)) ?_
              refine dq_pure rfl (fun s => .g rfl (.nil)) (fun s hs _ => loc_move rfl) (by exact .cons (.inr fun _ _ _ => rfl) (.nil)) ?_
              refine dq_pure rfl (fun s => .g rfl (.nil)) (fun s hs _ => loc_move rfl) (by exact .cons (.inr fun _ _ _ => rfl) (.nil)) ?_
              refine dq_pure rfl (fun s => .g rfl (.nil)) (fun s hs _ => loc_move rfl) (by exact .cons (.inr fun _ _ _ => rfl) (.nil)) ?_
              first | refine dq_pure rfl (fun s => .op rfl (.op rfl (.nil))) (fun s hs _ => loc_indexRow rfl rfl (by first | omega | assumption)) (by exact .cons (.inr fun _ _ _ => rfl) (.nil)) ?_ | refine dq_pure rfl (fun s => .op rfl (.op rfl (.nil))) (fun s hs _ => loc_indexRowI rfl rfl (by first | omega | assumption)) (by exact .cons (.inr fun _ _ _ => rfl) (.nil)) ?_
              refine dq_read rfl (fun s => .op rfl (.nil)) rfl rfl (fun s hs _ hm => LocP.conv (loc_loadRow1 rfl hm (by omega)) (congrArg dSlV hpk1)) (by exact .cons (.inr fun _ _ _ => rfl) (.nil)) ?_
              refine dq_pure rfl (fun s => .g rfl (.nil)) (fun s hs _ => loc_fieldAddrOwn rfl) (by exact .cons (.inr fun _ _ _ => rfl) (.nil)) ?_
              refine dq_read rfl (fun s => .op rfl (.nil)) rfl rfl (fun s hs _ hm => loc_loadOwn1 rfl hm (by rfl)) (by exact .cons (.inr fun _ _ _ => rfl) (.nil)) ?_
              refine dq_pure rfl (fun s => .op rfl (.nil)) (fun s hs _ => loc_buildSlice rfl rfl (.one rfl (.nil)) rfl rfl) (by exact .cons (.inr fun _ _ _ => rfl) (.nil)) ?_
              refine dq_choose id (fun _ t => t) rfl (fun _ _ => ⟨rfl, id, trivial⟩) (fun s => .op rfl (.op rfl (.nil))) rfl rfl (fun s hs => loc_append1V _ rfl rfl rfl rfl (by first | omega | (unfold lenMax; omega) | assumption | (simp; omega) | (simp [lenMax]; omega)) (by first | omega | (unfold lenMax; omega) | assumption | (simp; omega) | (simp [lenMax]; omega))) (by exact .cons (.inl rfl) (.nil)) ?_
              first | refine dq_pure rfl (fun s => .op rfl (.op rfl (.nil))) (fun s hs _ => loc_indexRow rfl rfl (by first | omega | assumption)) (by exact .cons (.inl rfl) (.nil)) ?_ | refine dq_pure rfl (fun s => .op rfl (.op rfl (.nil))) (fun s hs _ => loc_indexRowI rfl rfl (by first | omega | assumption)) (by exact .cons (.inl rfl) (.nil)) ?_
              refine dq_write0 rfl (fun s => .op rfl (.op rfl (.nil))) rfl rfl (fun s hs => loc_storeRow1 _ rfl rfl rfl (by first | omega | assumption)) (by exact .cons (.inl rfl) (.nil)) ?_
              refine dq_end (rs := [_, _, _, _, _]) (.bool true) rfl (fun _ => rfl) (.cons rfl (.nil)) rfl (fun v9 _ => ?_)
              dsimp only [outG, outM, List.map, List.set, id]
              refine run_inBlock ?_
              refine run_region ?_
              first | refine run_op (loc_add rfl rfl (by first | omega | assumption)) rfl ?_ | refine run_op (loc_addW rfl rfl) rfl ?_
              refine run_op (loc_move rfl) rfl ?_
              refine run_nil ?_
              refine run_inv (M' := rRow (.slice (some ⟨b17, 0, none⟩) sv.toNat sv.toNat) 40 1 (fun u => [dSlV u]) ((u.2.set u.1 (v9, pk.2 ++ [cV p d index (drawL t p (rows * d)) u.1 q.1])).map (·.1)) :: rCells b11 57 [dVal (.slice none 0 0), dInt .i64 0] :: rCells b9 57 [dInts t.numbers, dInt .i64 t.at'] :: (fam 3 1 fI (u.2.set u.1 (v9, pk.2 ++ [cV p d index (drawL t p (rows * d)) u.1 q.1])) ++ F)) (fun I w h => by have h2 := fam_in [_, _, _, _] u.1 (p := (v9, pk.2 ++ [cV p d index (drawL t p (rows * d)) u.1 q.1])) (by omega) h; rw [List.map_set]; exact h2.sub (.cons _ (.refl _))) ?_
              exact run_againE ih11 ((u.1 + 1, u.2.set u.1 (v9, pk.2 ++ [cV p d index (drawL t p (rows * d)) u.1 q.1]))) (⟨by simp only; omega, by simp only [List.length_set]; exact hu2, by simp only [List.map_set]; rw [hu3, hpk2, cqP_set hus]⟩) (by simp only; omega) (.cons rfl (by first | exact fun _ _ h => h | exact d_int (by omega) | exact d_int (by simp) | exact d_intN (by omega) | exact d_any) .nil) (.cons rfl (fun _ _ x => x) (.cons rfl (fun _ _ x => x) (.cons rfl (fun _ _ x => x) (.cons rfl (fun _ _ x => x) (.cons rfl (fun _ _ x => x) (.cons rfl (fun _ _ x => x) (.cons rfl (fun _ _ x => x) (.cons rfl (fun _ _ x => x) (.cons rfl (fun _ _ x => x) (.cons rfl (fun _ _ x => x) (.cons rfl (fun _ _ x => x) (.nil)))))))))))) (rfl)
            ·
              have hus : u.1 = sv.toNat := by have := h12; rw [hsp1.2, shares_len] at this; omega
              refine run_exit rfl ?_
              refine run_inBlock ?_
              refine run_region ?_
              first | refine run_op (loc_add rfl rfl (by first | omega | assumption)) rfl ?_ | refine run_op (loc_addW rfl rfl) rfl ?_
              refine run_op (loc_move rfl) rfl ?_
              refine run_nil ?_
              exact run_againE ih4 ((q.1 + 1, u.2)) (⟨by simp only; omega, hu2, by simp only; rw [hu3, hus, cqP_next]⟩) (by simp only; omega) (.cons rfl (by first | exact fun _ _ h => h | exact d_int (by omega) | exact d_int (by simp) | exact d_intN (by omega) | exact d_any) .nil) (.cons rfl (fun _ _ x => x) (.cons rfl (fun _ _ x => x) (.cons rfl (fun _ _ x => x) (.cons rfl (fun _ _ x => x) (.cons rfl (fun _ _ x => x) (.cons rfl (fun _ _ x => x) (.cons rfl (fun _ _ x => x) (.cons rfl (fun _ _ x => x) (.nil))))))))) (rfl)
        ·
          refine run_exit rfl ?_
          refine run_seq ?_
          refine run_region ?_
          refine run_op (loc_fieldAddrOwn rfl) rfl ?_
          refine run_op (loc_loadOwn1 rfl (.there (.there (.here))) (by rfl)) rfl ?_
          refine run_op (LocM.frz0 (loc_appendNil rfl rfl rfl (by first | omega | (unfold lenMax; omega) | assumption | (simp; omega) | (simp [lenMax]; omega)) (by first | omega | (unfold lenMax; omega) | assumption | (simp; omega) | (simp [lenMax]; omega)))) rfl ?_
          refine run_op (loc_fieldAddrOwn rfl) rfl ?_
          refine run_store1 rfl rfl (.there (.there (.here))) (by rfl) ?_
          refine run_nil ?_
          refine run_seq ?_
          refine run_region ?_
          refine run_op (loc_fieldAddrOwn rfl) rfl ?_
          refine run_op (loc_loadOwn1 rfl (.there (.there (.here))) (by rfl)) rfl ?_
          refine run_op (loc_move rfl) rfl ?_
          first | refine runL_fact (s := 120) rfl (fun _ _ h => dSl_len h) (fun hlen14 => ?_) | skip
          refine run_op (loc_len rfl) rfl ?_
          first | refine run_op (loc_add rfl rfl (by first | omega | assumption)) rfl ?_ | refine run_op (loc_addW rfl rfl) rfl ?_
          refine run_op (loc_fieldAddrOwn rfl) rfl ?_
          refine run_store1 rfl rfl (.there (.there (.here))) (by rfl) ?_
          refine run_nil ?_
          refine run_seq ?_
          refine dr_start _ (.none) [⟨[(17, none)], [], none⟩,
              ⟨[(9, none)], [], some (2, 0, false)⟩,
              ⟨[(124, some (0, false))], [0], none⟩,
              ⟨[(11, none), (125, some (1, false))], [0, 1, 2], some (1, 0, true)⟩,
              ⟨[], [0, 1, 2, 3], none⟩] [_, _, _] _ rfl rfl ?_
          refine dq_pure rfl (fun s => .g rfl (.nil)) (fun s hs _ => loc_move rfl) (by exact .nil) ?_
          refine dq_read rfl (fun s => .g rfl (.nil)) rfl rfl (fun s hs _ hm => loc_loadOwnN rfl hm (by rfl)) (by exact .nil) ?_
          refine dq_pure rfl (fun s => .op rfl (.nil)) (fun s hs _ => loc_assign rfl) (by exact .nil) ?_
          refine dq_write0 rfl (fun s => .g rfl (.op rfl (.nil))) rfl rfl (fun s hs => loc_storeN (ho := (by show OneAll [_, _]; infer_instance)) rfl rfl rfl) (by exact .nil) ?_
          refine dq_pure rfl (fun s => .nil) (fun s hs _ => loc_assign rfl) (by exact .nil) ?_
          refine dq_end (rs := [_, _, _]) () rfl (fun _ => rfl) (.nil) rfl (fun _ _ => ?_)
          dsimp only [outG, outM, List.map, List.set, id]
          refine run_retG ((.slice (some ⟨b17, 0, none⟩) sv.toNat sv.toNat, q.2)) Try.func141 rfl (.tmp rfl (.cellN rfl (by first | exact .here | exact .there .here | exact .there (.there .here) | exact .there (.there (.there .here)) | exact .there (.there (.there (.there .here))) | exact .there (.there (.there (.there (.there .here))))) (by rfl) (.tmp rfl (.nil)))) ?_ (by unfold cqL; rw [if_pos (hE.trans c3)]; simp only; rw [hq3, show q.1 = rows.toNat by omega, cqP_end]) (fun _ _ h => h.sub (.cons_cons _ (.cons _ (.cons _ (.refl _)))))
          exact d_tup3 (fun _ _ h => h) (d_toTape (t' := ⟨t.numbers, t.at' + rows * d⟩) (by unfold cqT; rw [if_pos (hE.trans c3)]; exact (drawT_ok c3).1) (d_aggU (.cons (fun _ _ h => h) (.cons (d_int (by simp only; omega)) .nil)))) (d_int (hE.trans c3).symm)

theorem cqueries_spec (p sv d rows index : Int) (t : Tape) : SpecP Try.prog 141 [dAgg [dInt .i64 p], dAgg [dInt .i64 sv, dInt .i64 d], dInt .i64 rows, dInt .i64 index, dTape t] (dTup [dRows (cqL p sv d rows index t), dTape (cqT p sv d rows index t), dInt .i64 (cqE p sv d rows index t)]) := spec_freezeRows3 (cqueriesM_spec p sv d rows index t)
end Go.Q

namespace Go.Q
open Classical

/-! ### Draws one after the other -/

theorem drawE_sum {t : Tape} {n a b : Int} (ha : 0 ≤ a) (hb : 0 ≤ b) (h : drawE t n a = 0) : drawE t n (a + b) = drawE (drawT t n a) n b := by
  obtain ⟨h1, h2, _, h4, _⟩ := drawE_zero h
  obtain ⟨e1, e2⟩ := drawT_ok h
  have h0 := h
  unfold drawE at h
  rw [if_neg (Classical.not_not.2 h1), if_neg (by omega)] at h
  have h11 := h1.2.1
  unfold drawE
  rw [if_neg (Classical.not_not.2 h1), if_neg (by omega), if_neg (Classical.not_not.2 e2), if_neg (by omega), e1]
  simp only
  rw [show (a + b).toNat = a.toNat + b.toNat by omega, stepE_add h, List.drop_drop, show t.at'.toNat + a.toNat = (t.at' + a).toNat by omega]
theorem drawE_stop {t : Tape} {n a b : Int} (ha : 0 ≤ a) (hb : 0 ≤ b) (h : drawE t n a ≠ 0) : drawE t n (a + b) = drawE t n a := by
  unfold drawE at h ⊢
  by_cases h1 : okTape t
  · rw [if_neg (Classical.not_not.2 h1)] at h ⊢
    rw [if_neg (Classical.not_not.2 h1)]
    by_cases h2 : 1 ≤ n ∧ n ≤ 2147483647
    · rw [if_neg (by omega)] at h ⊢
      rw [if_neg (by omega)]
      rw [show (a + b).toNat = a.toNat + b.toNat by omega]
      exact stepE_more h
    · rw [if_pos (.inl h2), if_pos (.inl h2)]
  · rw [if_pos h1, if_pos h1]
theorem drawE_none {t : Tape} {n : Int} (h : okTape t) (hn : 1 ≤ n ∧ n ≤ 2147483647) : drawE t n 0 = 0 := by
  unfold drawE
  rw [if_neg (Classical.not_not.2 h), if_neg (by omega)]
  exact stepE_0 _ _

/-! ### Queries that add up -/

noncomputable def parE (p rows s : Int) : Int := if ¬ okP p then 9 else if s < 2 ∨ s > 10 ∨ rows < 1 ∨ rows > 1024 then 1 else 0
theorem parE_zero {p rows s : Int} (h : parE p rows s = 0) : okP p ∧ (2 ≤ s ∧ s ≤ 10) ∧ (1 ≤ rows ∧ rows ≤ 1024) := by
  unfold parE at h
  split at h
  · cases h
  · split at h
    · cases h
    · rename_i h1 h2
      exact ⟨Classical.not_not.1 h1, by omega, by omega⟩
theorem parE_ok {p rows s : Int} (hp : okP p) (h1 : 2 ≤ s ∧ s ≤ 10) (h2 : 1 ≤ rows ∧ rows ≤ 1024) : parE p rows s = 0 := by
  unfold parE
  rw [if_neg (Classical.not_not.2 hp), if_neg (by omega)]
noncomputable def limsP (p rows s : Int) : List Int := if parE p rows s = 0 then List.replicate (rows * (s - 1)).toNat p else []
def unitL (n k : Nat) : List Int := (List.replicate n 0).set k 1
theorem unitL_len (n k : Nat) : (unitL n k).length = n := by simp [unitL]
theorem unitL_has {p : Int} (hp : 2 ≤ p) {n k : Nat} : ∀ x ∈ unitL n k, hasP p x := by
  intro x hx
  unfold unitL at hx
  rcases List.mem_or_eq_of_mem_set hx with h | rfl
  · rw [List.eq_of_mem_replicate h]; unfold hasP; omega
  · unfold hasP; omega
noncomputable def unitE (p n k : Int) : Int := if ¬ okP p then 9 else if n < 0 ∨ n > 1024 then 4 else if k < 0 ∨ k ≥ n then 1 else 0
/-- The sum of lists of n elements. -/
def sumL (p : Int) (n : Nat) (ls : List (List Int)) : List Int := ls.foldl (fun a l => addT p 1 a l) (List.replicate n 0)
theorem sumL_ok {p : Int} (hp : 2 ≤ p) {n : Nat} : ∀ {ls : List (List Int)} {a : List Int}, a.length = n → (∀ x ∈ a, hasP p x) → (ls.foldl (fun a l => addT p 1 a l) a).length = n ∧ ∀ x ∈ ls.foldl (fun a l => addT p 1 a l) a, hasP p x
  | [], a, h1, h2 => ⟨h1, h2⟩
  | l :: ls, a, h1, h2 => sumL_ok hp (ls := ls) (a := addT p 1 a l) (by rw [addT_len]; exact h1) (addT_has (by omega) h2)
theorem rep0_has {p : Int} (hp : 2 ≤ p) (n : Nat) : ∀ x ∈ List.replicate n (0 : Int), hasP p x := fun x hx => by rw [List.eq_of_mem_replicate hx]; unfold hasP; omega

def pBase (t : Tape) : List Int := t.numbers.drop t.at'.toNat
def pQs (b : List Int) (rows k : Nat) : List (List Int) := (List.range k).map fun j => (b.drop (j * rows)).take rows
theorem pQs_len (b : List Int) (rows k : Nat) : (pQs b rows k).length = k := by simp [pQs]
theorem pQs_snoc (b : List Int) (rows k : Nat) : pQs b rows (k + 1) = pQs b rows k ++ [(b.drop (k * rows)).take rows] := by simp [pQs, List.range_succ]
noncomputable def pLast (p index rows : Int) (ls : List (List Int)) : List Int := addT p (p - 1) (unitL rows.toNat index.toNat) (sumL p rows.toNat ls)
noncomputable def pqE (p rows s index : Int) (t : Tape) : Int := if parE p rows s ≠ 0 then parE p rows s else if index < 0 ∨ index ≥ rows then 6 else drawE t p (rows * (s - 1))
noncomputable def pqL (p rows s index : Int) (t : Tape) : List (List Int) := if pqE p rows s index t = 0 then pQs (pBase t) rows.toNat (s - 1).toNat ++ [pLast p index rows (pQs (pBase t) rows.toNat (s - 1).toNat)] else []
noncomputable def pqT (p rows s index : Int) (t : Tape) : Tape := if pqE p rows s index t = 0 then drawT t p (rows * (s - 1)) else ⟨[], 0⟩
/-- What is drawn for the server k. -/
theorem pDraw {t : Tape} {p rows : Int} {k : Nat} (hr : 1 ≤ rows) (hk : drawE t p (rows * k) = 0) (he : drawE (drawT t p (rows * k)) p rows = 0) : drawL (drawT t p (rows * k)) p rows = ((pBase t).drop (k * rows.toNat)).take rows.toNat ∧ drawT (drawT t p (rows * k)) p rows = drawT t p (rows * ((k : Int) + 1)) ∧ drawE t p (rows * ((k : Int) + 1)) = 0 := by
  obtain ⟨h1, h2, h3, h4, _⟩ := drawE_zero hk
  obtain ⟨e1, e2⟩ := drawT_ok hk
  have h11 := h1.2.1
  have hmul : rows * ((k : Int) + 1) = rows * k + rows := by rw [Int.mul_add, Int.mul_one]
  have hd : drawE t p (rows * ((k : Int) + 1)) = 0 := by rw [hmul, drawE_sum h3 (by omega) hk]; exact he
  refine ⟨?_, ?_, hd⟩
  · unfold drawL
    rw [if_pos he, e1]
    unfold pBase
    simp only
    rw [List.drop_drop]
    congr 2
    have : (rows * (k : Int)).toNat = k * rows.toNat := by
      have e : rows * (k : Int) = ((k * rows.toNat : Nat) : Int) := by rw [Int.natCast_mul, Int.mul_comm, show ((rows.toNat : Nat) : Int) = rows by omega]
      rw [e]; rfl
    omega
  · rw [(drawT_ok he).1, (drawT_ok hd).1, e1, hmul]
    simp only [Int.add_assoc]
theorem pQs_all {t : Tape} {p rows : Int} {k : Nat} (hr : 1 ≤ rows) (hk : drawE t p (rows * k) = 0) : ∀ l ∈ pQs (pBase t) rows.toNat k, l.length = rows.toNat ∧ ∀ x ∈ l, hasP p x := by
  intro l hl
  obtain ⟨j, hj, rfl⟩ := List.mem_map.1 hl
  have hj := List.mem_range.1 hj
  obtain ⟨h1, h2, h3, h4, h5, h6⟩ := drawE_zero hk
  have h11 := h1.2.1
  have e : (rows * (k : Int)).toNat = k * rows.toNat := by
    have e : rows * (k : Int) = ((k * rows.toNat : Nat) : Int) := by rw [Int.natCast_mul, Int.mul_comm, show ((rows.toNat : Nat) : Int) = rows by omega]
    rw [e]; rfl
  unfold drawL at h5 h6
  rw [if_pos hk, e] at h5 h6
  change ((pBase t).take (k * rows.toNat)).length = _ at h5
  change ∀ x ∈ (pBase t).take (k * rows.toNat), _ at h6
  rw [List.length_take] at h5
  have hle : (j + 1) * rows.toNat ≤ k * rows.toNat := Nat.mul_le_mul_right _ (by omega)
  rw [Nat.add_mul, Nat.one_mul] at hle
  refine ⟨?_, fun x hx => h6 x ?_⟩
  · simp only [List.length_take, List.length_drop]; omega
  · obtain ⟨i, hi⟩ := List.getElem?_of_mem hx
    rw [List.getElem?_take] at hi
    split at hi
    · rename_i hlt
      rw [List.getElem?_drop] at hi
      refine List.mem_of_getElem? (i := j * rows.toNat + i) ?_
      rw [List.getElem?_take, if_pos (by omega)]
      exact hi
    · cases hi

noncomputable def tpK (t : Tape) (p rows : Int) (k : Nat) : Tape := if k = 0 then t else drawT t p (rows * k)
theorem tpK_E {t : Tape} {p rows : Int} {k : Nat} (hr : 1 ≤ rows) (hk : k = 0 ∨ drawE t p (rows * k) = 0) : drawE (tpK t p rows k) p rows = drawE t p (rows * ((k : Int) + 1)) := by
  unfold tpK
  split
  · rename_i h; subst h; simp
  · rename_i h
    rcases hk with hk | hk
    · exact absurd hk h
    · have := (drawE_zero hk).2.2.1
      rw [Int.mul_add, Int.mul_one, drawE_sum this (by omega) hk]
theorem tpK_ok {t : Tape} {p rows : Int} {k : Nat} (hr : 1 ≤ rows) (hk : k = 0 ∨ drawE t p (rows * k) = 0) (he : drawE (tpK t p rows k) p rows = 0) : drawL (tpK t p rows k) p rows = ((pBase t).drop (k * rows.toNat)).take rows.toNat ∧ drawT (tpK t p rows k) p rows = tpK t p rows (k + 1) ∧ drawE t p (rows * ((k + 1 : Nat) : Int)) = 0 := by
  have e := tpK_E hr hk
  rw [he] at e
  have e2 : drawE t p (rows * ((k + 1 : Nat) : Int)) = 0 := e.symm
  unfold tpK at he ⊢
  rw [if_neg (show ¬ k + 1 = 0 by omega)]
  split at he
  · rename_i h
    subst h
    rw [if_pos rfl]
    refine ⟨?_, ?_, e2⟩
    · unfold drawL; rw [if_pos he]; simp [pBase]
    · simp
  · rename_i h
    rcases hk with hk | hk
    · exact absurd hk h
    · obtain ⟨h1, h2, _⟩ := pDraw hr hk he
      rw [if_neg h]
      exact ⟨h1, h2, e2⟩

/-! ### Coded storage -/

noncomputable def codE (p s d g : Int) : Int := if ¬ okP p then 9 else if s < 2 ∨ s > 10 ∨ s ≥ p ∨ d < 1 ∨ g < 1 ∨ d > s ∨ g > s ∨ 2 * g + d - 1 > s then 1 else 0
noncomputable def codRE (p s d g n : Int) : Int := if codE p s d g = 0 ∧ (n < 1 ∨ n > 1024) then 1 else codE p s d g
theorem codE_zero {p s d g : Int} (h : codE p s d g = 0) : okP p ∧ (2 ≤ s ∧ s ≤ 10) ∧ s < p ∧ (1 ≤ d ∧ d ≤ s) ∧ (1 ≤ g ∧ g ≤ s) ∧ 2 * g + d - 1 ≤ s := by
  unfold codE at h
  split at h
  · cases h
  · split at h
    · cases h
    · rename_i h1 h2
      exact ⟨Classical.not_not.1 h1, by omega, by omega, by omega, by omega, by omega⟩
theorem codE_ok {p s d g : Int} (hp : okP p) (h1 : 2 ≤ s ∧ s ≤ 10) (h2 : s < p) (h3 : 1 ≤ d ∧ d ≤ s) (h4 : 1 ≤ g ∧ g ≤ s) (h5 : 2 * g + d - 1 ≤ s) : codE p s d g = 0 := by
  unfold codE
  rw [if_neg (Classical.not_not.2 hp), if_neg (by omega)]
theorem codRE_zero {p s d g n : Int} (h : codRE p s d g n = 0) : codE p s d g = 0 ∧ (1 ≤ n ∧ n ≤ 1024) := by
  unfold codRE at h
  split at h
  · cases h
  · rename_i h1
    have h5 : ¬ (n < 1 ∨ n > 1024) := fun hr => h1 ⟨h, hr⟩
    exact ⟨h, by omega⟩
theorem codRE_ok {p s d g n : Int} (h : codE p s d g = 0) (hn : 1 ≤ n ∧ n ≤ 1024) : codRE p s d g n = 0 := by
  unfold codRE
  rw [if_neg (by omega), h]
noncomputable def limsG (p s d g n : Int) : List Int := if codRE p s d g n = 0 then List.replicate (n * d).toNat p else []
/-- The element of a query: of the group r, for the server j. -/
noncomputable def gW (p d g : Int) (dr : List Int) (j : Int) (r : Nat) : Int := powM p j g.toNat * valP p ((dr.take (((r : Int) + 1) * d).toNat).drop ((r : Int) * d).toNat) j % p
noncomputable def gV (p d g group : Int) (dr : List Int) (j : Int) (r : Nat) : Int := if (r : Int) = group then (gW p d g dr j r + 1) % p else gW p d g dr j r
noncomputable def gqE (p s d g n group : Int) (t : Tape) : Int := if codRE p s d g n ≠ 0 then codRE p s d g n else if group < 0 ∨ group ≥ n then 6 else drawE t p (n * d)
noncomputable def gRow (p d g group : Int) (dr : List Int) (j : Int) (n : Nat) : List Int := (List.range n).map fun r => gV p d g group dr j r
noncomputable def gQs (p d g group : Int) (dr : List Int) (n k : Nat) : List (List Int) := (List.range k).map fun j : Nat => gRow p d g group dr ((j : Int) + 1) n
theorem gRow_snoc (p d g group : Int) (dr : List Int) (j : Int) (n : Nat) : gRow p d g group dr j (n + 1) = gRow p d g group dr j n ++ [gV p d g group dr j n] := by simp [gRow, List.range_succ]
theorem gQs_snoc (p d g group : Int) (dr : List Int) (n k : Nat) : gQs p d g group dr n (k + 1) = gQs p d g group dr n k ++ [gRow p d g group dr ((k : Int) + 1) n] := by simp [gQs, List.range_succ]
noncomputable def gqL (p s d g n group : Int) (t : Tape) : List (List Int) := if gqE p s d g n group t = 0 then gQs p d g group (drawL t p (n * d)) n.toNat s.toNat else []
noncomputable def gqT (p s d g n group : Int) (t : Tape) : Tape := if gqE p s d g n group t = 0 then drawT t p (n * d) else ⟨[], 0⟩
theorem rowErr_ok {p w : Int} {r : List Int} (h : rowErr p w r = 0) : (r.length : Int) = w ∧ ∀ x ∈ r, hasP p x := by
  unfold rowErr at h
  split at h
  · cases h
  · rename_i h1
    split at h
    · cases h
    · rename_i h2
      exact ⟨by omega, Classical.not_not.1 h2⟩
/-! ### What is held -/

def grpN (n g : Nat) : Nat := (n + g - 1) / g
def grpL (rows : List (List Int)) (g : Nat) : List (Nat × List (List Int)) := (List.range (grpN rows.length g)).map fun i => (i, (rows.take (min ((i + 1) * g) rows.length)).drop (i * g))
theorem grpN_lt {n g i : Nat} (hg : 1 ≤ g) : i < grpN n g ↔ i * g < n := by
  unfold grpN
  rw [Nat.lt_div_iff_mul_lt hg]
  omega
theorem grpL_len (rows : List (List Int)) (g : Nat) : (grpL rows g).length = grpN rows.length g := by simp [grpL]
theorem grpL_get {rows : List (List Int)} {g i : Nat} (hg : 1 ≤ g) (h : i * g < rows.length) : (grpL rows g)[i]? = some (i, (rows.take (min ((i + 1) * g) rows.length)).drop (i * g)) := by
  have := (grpN_lt (n := rows.length) (i := i) hg).2 h
  simp [grpL, this]
theorem grpL_mem {rows : List (List Int)} {g : Nat} {q : Nat × List (List Int)} (h : q ∈ grpL rows g) : (∀ r ∈ q.2, r ∈ rows) ∧ q.2.length ≤ g := by
  obtain ⟨i, _, rfl⟩ := List.mem_map.1 h
  refine ⟨fun r hr => List.mem_of_mem_take (List.mem_of_mem_drop hr), ?_⟩
  simp only [List.length_drop, List.length_take, Nat.add_mul]
  omega
/-- The rows of a group, each times a power, added up. -/
noncomputable def heldN (p j : Int) (w : Nat) (grp : List (List Int)) (n : Nat) : List Int := (List.range n).foldl (fun a i => addT p (powM p j i) a (grp[i]?.getD default)) (List.replicate w 0)
noncomputable def heldG (p j : Int) (w : Nat) (grp : List (List Int)) : List Int := heldN p j w grp grp.length
theorem heldN_0 (p j : Int) (w : Nat) (grp : List (List Int)) : heldN p j w grp 0 = List.replicate w 0 := rfl
theorem heldN_snoc (p j : Int) (w : Nat) (grp : List (List Int)) (n : Nat) : heldN p j w grp (n + 1) = addT p (powM p j n) (heldN p j w grp n) (grp[n]?.getD default) := by simp [heldN, List.range_succ]
theorem heldN_ok {p : Int} (hp : 2 ≤ p) (j : Int) (w : Nat) (grp : List (List Int)) : ∀ n, (heldN p j w grp n).length = w ∧ ∀ x ∈ heldN p j w grp n, hasP p x
  | 0 => ⟨by simp [heldN], rep0_has hp w⟩
  | n + 1 => by
    obtain ⟨h1, h2⟩ := heldN_ok hp j w grp n
    rw [heldN_snoc]
    exact ⟨by rw [addT_len]; exact h1, addT_has (by omega) h2⟩
noncomputable def holdE (p s d g w : Int) (rows : List (List Int)) (j : Int) : Int := if codE p s d g ≠ 0 then codE p s d g else if j < 1 ∨ j > s then 1 else if ¬ (0 ≤ w ∧ w ≤ 64) ∨ 1024 < rows.length then 4 else firstErr (rowErr p w) rows
noncomputable def holdG (p s d g w : Int) (rows : List (List Int)) (j : Int) : List (List Int) := if holdE p s d g w rows j = 0 then (grpL rows g.toNat).map fun q => heldG p j w.toNat q.2 else []

end Go.Q
