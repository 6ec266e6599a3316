/- Contracts of limits in the references. -/
import Derived.Test.YtmihhjchmnmaiaaQHead
import Derived.Test.YtmihhjchmnmaiaaQPlainW
import Derived.Test.YtmihhjchmnmaiaaQRes
set_option linter.unusedVariables false
set_option linter.unusedSimpArgs false
namespace Go.Q
open Go.Proofs

open Classical
theorem rplan_spec (p s d : Int) : SpecP Try.prog 89 [dAgg [dInt .i64 p], dAgg [dInt .i64 s, dInt .i64 d]] (dInt .i64 (planE p s d)) := by
  refine specP_of_body Try.func89 rfl rfl (fun I M => ?_)
  refine run_seq ?_
  refine run_region ?_
  refine run_op (loc_boxN rfl) rfl ?_
  refine run_op (loc_boxN rfl) rfl ?_
  refine run_op (loc_assign rfl) rfl ?_
  refine run_nil ?_
  refine run_seq ?_
  refine run_seq ?_
  refine run_region ?_
  refine run_op (loc_loadN rfl rfl) rfl ?_
  refine run_op (loc_call (rcheck3_spec _) rfl) rfl ?_
  refine run_op (loc_assign rfl) rfl ?_
  refine run_nil ?_
  refine run_seq ?_
  refine run_region ?_
  refine run_op (loc_move rfl) rfl ?_
  refine run_op (loc_neq rfl rfl) rfl ?_
  refine run_nil ?_
  refine run_cond rfl (fun h1 => ?_) (fun h1 => ?_)
  ·
    have c1 : ¬ okP p := fun h => h1 (errP_zero.2 h)
    refine run_seq ?_
    refine run_region ?_
    refine run_op (loc_move rfl) rfl ?_
    refine run_op (loc_assign rfl) rfl ?_
    refine run_nil ?_
    refine run_retP Try.func89 rfl rfl ?_
    exact d_int (by unfold planE errP; rw [if_neg c1, if_pos c1])
  ·
    have c1 : okP p := errP_zero.1 (Classical.not_not.1 h1)
    refine run_skip ?_
    refine run_seq ?_
    refine run_seq ?_
    refine run_region ?_
    refine run_op (loc_fieldAddr rfl) rfl ?_
    refine run_op (loc_load1 rfl) rfl ?_
    refine run_op (loc_lss rfl rfl) rfl ?_
    refine run_op (loc_move rfl) rfl ?_
    refine run_gfirst rfl rfl (by first | exact guard_true _ | exact guard_false _ | exact guard_if (guard_true _) | exact guard_if (guard_false _)) (fun hg => loc_fieldAddr rfl) rfl ?_
    refine run_gop rfl rfl (by first | exact guard_true _ | exact guard_false _ | exact guard_if (guard_true _) | exact guard_if (guard_false _)) (fun hg => loc_load1 rfl) rfl ?_
    refine run_gop rfl rfl (by first | exact guard_true _ | exact guard_false _ | exact guard_if (guard_true _) | exact guard_if (guard_false _)) (fun hg => loc_gtr rfl rfl) rfl ?_
    refine run_gleave ?_
    refine run_op (loc_or rfl rfl) rfl ?_
    refine run_op (loc_move rfl) rfl ?_
    refine run_gfirst rfl rfl (by first | exact guard_true _ | exact guard_false _ | exact guard_if (guard_true _) | exact guard_if (guard_false _)) (fun hg => loc_fieldAddr rfl) rfl ?_
    refine run_gop rfl rfl (by first | exact guard_true _ | exact guard_false _ | exact guard_if (guard_true _) | exact guard_if (guard_false _)) (fun hg => loc_load1 rfl) rfl ?_
    refine run_gop rfl rfl (by first | exact guard_true _ | exact guard_false _ | exact guard_if (guard_true _) | exact guard_if (guard_false _)) (fun hg => loc_fieldAddr rfl) rfl ?_
    refine run_gop rfl rfl (by first | exact guard_true _ | exact guard_false _ | exact guard_if (guard_true _) | exact guard_if (guard_false _)) (fun hg => loc_load1 rfl) rfl ?_
    refine run_gop rfl rfl (by first | exact guard_true _ | exact guard_false _ | exact guard_if (guard_true _) | exact guard_if (guard_false _)) (fun hg => loc_geq rfl rfl) rfl ?_
    refine run_gleave ?_
    refine run_op (loc_or rfl rfl) rfl ?_
    refine run_op (loc_move rfl) rfl ?_
    refine run_gfirst rfl rfl (by first | exact guard_true _ | exact guard_false _ | exact guard_if (guard_true _) | exact guard_if (guard_false _)) (fun hg => loc_fieldAddr rfl) rfl ?_
    refine run_gop rfl rfl (by first | exact guard_true _ | exact guard_false _ | exact guard_if (guard_true _) | exact guard_if (guard_false _)) (fun hg => loc_load1 rfl) rfl ?_
    refine run_gop rfl rfl (by first | exact guard_true _ | exact guard_false _ | exact guard_if (guard_true _) | exact guard_if (guard_false _)) (fun hg => loc_lss rfl rfl) rfl ?_
    refine run_gleave ?_
    refine run_op (loc_or rfl rfl) rfl ?_
    refine run_op (loc_move rfl) rfl ?_
    refine run_gfirst rfl rfl (by first | exact guard_true _ | exact guard_false _ | exact guard_if (guard_true _) | exact guard_if (guard_false _)) (fun hg => loc_fieldAddr rfl) rfl ?_
    refine run_gop rfl rfl (by first | exact guard_true _ | exact guard_false _ | exact guard_if (guard_true _) | exact guard_if (guard_false _)) (fun hg => loc_load1 rfl) rfl ?_
    refine run_gop rfl rfl (by first | exact guard_true _ | exact guard_false _ | exact guard_if (guard_true _) | exact guard_if (guard_false _)) (fun hg => loc_fieldAddr rfl) rfl ?_
    refine run_gop rfl rfl (by first | exact guard_true _ | exact guard_false _ | exact guard_if (guard_true _) | exact guard_if (guard_false _)) (fun hg => loc_load1 rfl) rfl ?_
    first | refine run_gop rfl rfl (by first | exact guard_true _ | exact guard_false _ | exact guard_if (guard_true _) | exact guard_if (guard_false _)) (fun hg => loc_sub rfl rfl (by first | omega | assumption)) rfl ?_ | refine run_gop rfl rfl (by first | exact guard_true _ | exact guard_false _ | exact guard_if (guard_true _) | exact guard_if (guard_false _)) (fun hg => loc_subW rfl rfl) rfl ?_
    refine run_gop rfl rfl (by first | exact guard_true _ | exact guard_false _ | exact guard_if (guard_true _) | exact guard_if (guard_false _)) (fun hg => loc_gtr rfl rfl) rfl ?_
    refine run_gleave ?_
    refine run_op (loc_or rfl rfl) rfl ?_
    refine run_nil ?_
    refine run_cond rfl (fun h2 => ?_) (fun h2 => ?_)
    ·
      have c2 := h2
      refine run_seq ?_
      refine run_region ?_
      refine run_op (loc_assign rfl) rfl ?_
      refine run_nil ?_
      refine run_retP Try.func89 rfl rfl ?_
      exact d_int (by unfold planE; rw [if_neg (Classical.not_not.2 c1), if_pos (by omega)])
    ·
      have c2 := h2
      refine run_skip ?_
      refine run_seq ?_
      refine run_region ?_
      refine run_op (loc_assign rfl) rfl ?_
      refine run_nil ?_
      refine run_retP Try.func89 rfl rfl ?_
      exact d_int (by unfold planE; rw [if_neg (Classical.not_not.2 c1), if_neg (by omega)])

theorem rcod_spec (p s d g : Int) : SpecP Try.prog 90 [dAgg [dInt .i64 p], dAgg [dInt .i64 s, dInt .i64 d, dInt .i64 g]] (dInt .i64 (codE p s d g)) := by
  refine specP_of_body Try.func90 rfl rfl (fun I M => ?_)
  refine run_seq ?_
  refine run_region ?_
  refine run_op (loc_boxN rfl) rfl ?_
  refine run_op (loc_boxN rfl) rfl ?_
  refine run_op (loc_assign rfl) rfl ?_
  refine run_nil ?_
  refine run_seq ?_
  refine run_seq ?_
  refine run_region ?_
  refine run_op (loc_loadN rfl rfl) rfl ?_
  refine run_op (loc_call (rcheck3_spec _) rfl) rfl ?_
  refine run_op (loc_assign rfl) rfl ?_
  refine run_nil ?_
  refine run_seq ?_
  refine run_region ?_
  refine run_op (loc_move rfl) rfl ?_
  refine run_op (loc_neq rfl rfl) rfl ?_
  refine run_nil ?_
  refine run_cond rfl (fun h1 => ?_) (fun h1 => ?_)
  ·
    have c1 : ¬ okP p := fun h => h1 (errP_zero.2 h)
    refine run_seq ?_
    refine run_region ?_
    refine run_op (loc_move rfl) rfl ?_
    refine run_op (loc_assign rfl) rfl ?_
    refine run_nil ?_
    refine run_retP Try.func90 rfl rfl ?_
    exact d_int (by unfold codE errP; rw [if_neg c1, if_pos c1])
  ·
    have c1 : okP p := errP_zero.1 (Classical.not_not.1 h1)
    refine run_skip ?_
    refine run_seq ?_
    refine run_seq ?_
    refine run_region ?_
    refine run_op (loc_fieldAddr rfl) rfl ?_
    refine run_op (loc_load1 rfl) rfl ?_
    refine run_op (loc_lss rfl rfl) rfl ?_
    refine run_op (loc_move rfl) rfl ?_
    refine run_gfirst rfl rfl (by first | exact guard_true _ | exact guard_false _ | exact guard_if (guard_true _) | exact guard_if (guard_false _)) (fun hg => loc_fieldAddr rfl) rfl ?_
    refine run_gop rfl rfl (by first | exact guard_true _ | exact guard_false _ | exact guard_if (guard_true _) | exact guard_if (guard_false _)) (fun hg => loc_load1 rfl) rfl ?_
    refine run_gop rfl rfl (by first | exact guard_true _ | exact guard_false _ | exact guard_if (guard_true _) | exact guard_if (guard_false _)) (fun hg => loc_gtr rfl rfl) rfl ?_
    refine run_gleave ?_
    refine run_op (loc_or rfl rfl) rfl ?_
    refine run_op (loc_move rfl) rfl ?_
    refine run_gfirst rfl rfl (by first | exact guard_true _ | exact guard_false _ | exact guard_if (guard_true _) | exact guard_if (guard_false _)) (fun hg => loc_fieldAddr rfl) rfl ?_
    refine run_gop rfl rfl (by first | exact guard_true _ | exact guard_false _ | exact guard_if (guard_true _) | exact guard_if (guard_false _)) (fun hg => loc_load1 rfl) rfl ?_
    refine run_gop rfl rfl (by first | exact guard_true _ | exact guard_false _ | exact guard_if (guard_true _) | exact guard_if (guard_false _)) (fun hg => loc_fieldAddr rfl) rfl ?_
    refine run_gop rfl rfl (by first | exact guard_true _ | exact guard_false _ | exact guard_if (guard_true _) | exact guard_if (guard_false _)) (fun hg => loc_load1 rfl) rfl ?_
    refine run_gop rfl rfl (by first | exact guard_true _ | exact guard_false _ | exact guard_if (guard_true _) | exact guard_if (guard_false _)) (fun hg => loc_geq rfl rfl) rfl ?_
    refine run_gleave ?_
    refine run_op (loc_or rfl rfl) rfl ?_
    refine run_op (loc_move rfl) rfl ?_
    refine run_gfirst rfl rfl (by first | exact guard_true _ | exact guard_false _ | exact guard_if (guard_true _) | exact guard_if (guard_false _)) (fun hg => loc_fieldAddr rfl) rfl ?_
    refine run_gop rfl rfl (by first | exact guard_true _ | exact guard_false _ | exact guard_if (guard_true _) | exact guard_if (guard_false _)) (fun hg => loc_load1 rfl) rfl ?_
    refine run_gop rfl rfl (by first | exact guard_true _ | exact guard_false _ | exact guard_if (guard_true _) | exact guard_if (guard_false _)) (fun hg => loc_lss rfl rfl) rfl ?_
    refine run_gleave ?_
    refine run_op (loc_or rfl rfl) rfl ?_
    refine run_op (loc_move rfl) rfl ?_
    refine run_gfirst rfl rfl (by first | exact guard_true _ | exact guard_false _ | exact guard_if (guard_true _) | exact guard_if (guard_false _)) (fun hg => loc_fieldAddr rfl) rfl ?_
    refine run_gop rfl rfl (by first | exact guard_true _ | exact guard_false _ | exact guard_if (guard_true _) | exact guard_if (guard_false _)) (fun hg => loc_load1 rfl) rfl ?_
    refine run_gop rfl rfl (by first | exact guard_true _ | exact guard_false _ | exact guard_if (guard_true _) | exact guard_if (guard_false _)) (fun hg => loc_fieldAddr rfl) rfl ?_
    refine run_gop rfl rfl (by first | exact guard_true _ | exact guard_false _ | exact guard_if (guard_true _) | exact guard_if (guard_false _)) (fun hg => loc_load1 rfl) rfl ?_
    refine run_gop rfl rfl (by first | exact guard_true _ | exact guard_false _ | exact guard_if (guard_true _) | exact guard_if (guard_false _)) (fun hg => loc_gtr rfl rfl) rfl ?_
    refine run_gleave ?_
    refine run_op (loc_or rfl rfl) rfl ?_
    refine run_op (loc_move rfl) rfl ?_
    refine run_gfirst rfl rfl (by first | exact guard_true _ | exact guard_false _ | exact guard_if (guard_true _) | exact guard_if (guard_false _)) (fun hg => loc_fieldAddr rfl) rfl ?_
    refine run_gop rfl rfl (by first | exact guard_true _ | exact guard_false _ | exact guard_if (guard_true _) | exact guard_if (guard_false _)) (fun hg => loc_load1 rfl) rfl ?_
    refine run_gop rfl rfl (by first | exact guard_true _ | exact guard_false _ | exact guard_if (guard_true _) | exact guard_if (guard_false _)) (fun hg => loc_lss rfl rfl) rfl ?_
    refine run_gleave ?_
    refine run_op (loc_or rfl rfl) rfl ?_
    refine run_op (loc_move rfl) rfl ?_
    refine run_gfirst rfl rfl (by first | exact guard_true _ | exact guard_false _ | exact guard_if (guard_true _) | exact guard_if (guard_false _)) (fun hg => loc_fieldAddr rfl) rfl ?_
    refine run_gop rfl rfl (by first | exact guard_true _ | exact guard_false _ | exact guard_if (guard_true _) | exact guard_if (guard_false _)) (fun hg => loc_load1 rfl) rfl ?_
    refine run_gop rfl rfl (by first | exact guard_true _ | exact guard_false _ | exact guard_if (guard_true _) | exact guard_if (guard_false _)) (fun hg => loc_fieldAddr rfl) rfl ?_
    refine run_gop rfl rfl (by first | exact guard_true _ | exact guard_false _ | exact guard_if (guard_true _) | exact guard_if (guard_false _)) (fun hg => loc_load1 rfl) rfl ?_
    refine run_gop rfl rfl (by first | exact guard_true _ | exact guard_false _ | exact guard_if (guard_true _) | exact guard_if (guard_false _)) (fun hg => loc_gtr rfl rfl) rfl ?_
    refine run_gleave ?_
    refine run_op (loc_or rfl rfl) rfl ?_
    refine run_op (loc_move rfl) rfl ?_
    refine run_gfirst rfl rfl (by first | exact guard_true _ | exact guard_false _ | exact guard_if (guard_true _) | exact guard_if (guard_false _)) (fun hg => loc_fieldAddr rfl) rfl ?_
    refine run_gop rfl rfl (by first | exact guard_true _ | exact guard_false _ | exact guard_if (guard_true _) | exact guard_if (guard_false _)) (fun hg => loc_load1 rfl) rfl ?_
    first | refine run_gop rfl rfl (by first | exact guard_true _ | exact guard_false _ | exact guard_if (guard_true _) | exact guard_if (guard_false _)) (fun hg => loc_mul rfl rfl (by first | omega | assumption)) rfl ?_ | refine run_gop rfl rfl (by first | exact guard_true _ | exact guard_false _ | exact guard_if (guard_true _) | exact guard_if (guard_false _)) (fun hg => loc_mulW rfl rfl) rfl ?_
    refine run_gop rfl rfl (by first | exact guard_true _ | exact guard_false _ | exact guard_if (guard_true _) | exact guard_if (guard_false _)) (fun hg => loc_fieldAddr rfl) rfl ?_
    refine run_gop rfl rfl (by first | exact guard_true _ | exact guard_false _ | exact guard_if (guard_true _) | exact guard_if (guard_false _)) (fun hg => loc_load1 rfl) rfl ?_
    first | refine run_gop rfl rfl (by first | exact guard_true _ | exact guard_false _ | exact guard_if (guard_true _) | exact guard_if (guard_false _)) (fun hg => loc_add rfl rfl (by first | omega | assumption)) rfl ?_ | refine run_gop rfl rfl (by first | exact guard_true _ | exact guard_false _ | exact guard_if (guard_true _) | exact guard_if (guard_false _)) (fun hg => loc_addW rfl rfl) rfl ?_
    first | refine run_gop rfl rfl (by first | exact guard_true _ | exact guard_false _ | exact guard_if (guard_true _) | exact guard_if (guard_false _)) (fun hg => loc_sub rfl rfl (by first | omega | assumption)) rfl ?_ | refine run_gop rfl rfl (by first | exact guard_true _ | exact guard_false _ | exact guard_if (guard_true _) | exact guard_if (guard_false _)) (fun hg => loc_subW rfl rfl) rfl ?_
    refine run_gop rfl rfl (by first | exact guard_true _ | exact guard_false _ | exact guard_if (guard_true _) | exact guard_if (guard_false _)) (fun hg => loc_fieldAddr rfl) rfl ?_
    refine run_gop rfl rfl (by first | exact guard_true _ | exact guard_false _ | exact guard_if (guard_true _) | exact guard_if (guard_false _)) (fun hg => loc_load1 rfl) rfl ?_
    refine run_gop rfl rfl (by first | exact guard_true _ | exact guard_false _ | exact guard_if (guard_true _) | exact guard_if (guard_false _)) (fun hg => loc_gtr rfl rfl) rfl ?_
    refine run_gleave ?_
    refine run_op (loc_or rfl rfl) rfl ?_
    refine run_nil ?_
    refine run_cond rfl (fun h2 => ?_) (fun h2 => ?_)
    ·
      have c2 := h2
      refine run_seq ?_
      refine run_region ?_
      refine run_op (loc_assign rfl) rfl ?_
      refine run_nil ?_
      refine run_retP Try.func90 rfl rfl ?_
      exact d_int (by unfold codE; rw [if_neg (Classical.not_not.2 c1), if_pos (by omega)])
    ·
      have c2 := h2
      refine run_skip ?_
      refine run_seq ?_
      refine run_region ?_
      refine run_op (loc_assign rfl) rfl ?_
      refine run_nil ?_
      refine run_retP Try.func90 rfl rfl ?_
      exact d_int (by unfold codE; rw [if_neg (Classical.not_not.2 c1), if_neg (by omega)])

theorem rlim16_spec (p n s : Int) : SpecP Try.prog 71 [dAgg [dInt .i64 p], dInt .i64 n, dInt .i64 s] (dTup [dInts (limsP p n s), dInt .i64 (parE p n s)]) := by
  refine specP_of_body Try.func71 rfl rfl (fun I M => ?_)
  refine run_seq ?_
  refine run_region ?_
  refine run_op (loc_boxN rfl) rfl ?_
  refine run_op (loc_assign rfl) rfl ?_
  refine run_op (loc_assign rfl) rfl ?_
  refine run_nil ?_
  refine run_seq ?_
  refine run_seq ?_
  refine run_region ?_
  refine run_op (loc_loadN rfl rfl) rfl ?_
  refine run_op (loc_call (rcheck3_spec _) rfl) rfl ?_
  refine run_op (loc_assign rfl) rfl ?_
  refine run_nil ?_
  refine run_seq ?_
  refine run_region ?_
  refine run_op (loc_move rfl) rfl ?_
  refine run_op (loc_neq rfl rfl) rfl ?_
  refine run_nil ?_
  refine run_cond rfl (fun h1 => ?_) (fun h1 => ?_)
  ·
    have c1 : ¬ okP p := fun h => h1 (errP_zero.2 h)
    refine run_seq ?_
    refine run_region ?_
    refine run_op (loc_move rfl) rfl ?_
    refine run_op (loc_assign rfl) rfl ?_
    refine run_op (loc_assign rfl) rfl ?_
    refine run_nil ?_
    have hE : parE p n s = 9 := by unfold parE; rw [if_pos c1]
    refine run_ret2P Try.func71 rfl rfl rfl ?_
    exact d_tup2 (d_toInts (by unfold limsP; rw [if_neg (by rw [hE]; omega)]) d_nil) (d_int (hE.trans (show (9 : Int) = errP p by unfold errP; rw [if_neg c1])).symm)
  ·
    have c1 : okP p := errP_zero.1 (Classical.not_not.1 h1)
    refine run_skip ?_
    refine run_seq ?_
    refine run_seq ?_
    refine run_region ?_
    refine run_op (loc_move rfl) rfl ?_
    refine run_op (loc_lss rfl rfl) rfl ?_
    refine run_op (loc_move rfl) rfl ?_
    refine run_gfirst rfl rfl (by first | exact guard_true _ | exact guard_false _ | exact guard_if (guard_true _) | exact guard_if (guard_false _)) (fun hg => loc_move rfl) rfl ?_
    refine run_gop rfl rfl (by first | exact guard_true _ | exact guard_false _ | exact guard_if (guard_true _) | exact guard_if (guard_false _)) (fun hg => loc_gtr rfl rfl) rfl ?_
    refine run_gleave ?_
    refine run_op (loc_or rfl rfl) rfl ?_
    refine run_op (loc_move rfl) rfl ?_
    refine run_gfirst rfl rfl (by first | exact guard_true _ | exact guard_false _ | exact guard_if (guard_true _) | exact guard_if (guard_false _)) (fun hg => loc_move rfl) rfl ?_
    refine run_gop rfl rfl (by first | exact guard_true _ | exact guard_false _ | exact guard_if (guard_true _) | exact guard_if (guard_false _)) (fun hg => loc_lss rfl rfl) rfl ?_
    refine run_gleave ?_
    refine run_op (loc_or rfl rfl) rfl ?_
    refine run_op (loc_move rfl) rfl ?_
    refine run_gfirst rfl rfl (by first | exact guard_true _ | exact guard_false _ | exact guard_if (guard_true _) | exact guard_if (guard_false _)) (fun hg => loc_move rfl) rfl ?_
    refine run_gop rfl rfl (by first | exact guard_true _ | exact guard_false _ | exact guard_if (guard_true _) | exact guard_if (guard_false _)) (fun hg => loc_gtr rfl rfl) rfl ?_
    refine run_gleave ?_
    refine run_op (loc_or rfl rfl) rfl ?_
    refine run_nil ?_
    refine run_cond rfl (fun h2 => ?_) (fun h2 => ?_)
    ·
      have c2 := h2
      refine run_seq ?_
      refine run_region ?_
      refine run_op (loc_assign rfl) rfl ?_
      refine run_op (loc_assign rfl) rfl ?_
      refine run_nil ?_
      have hE : parE p n s = 1 := by unfold parE; rw [if_neg (Classical.not_not.2 c1), if_pos (by omega)]
      refine run_ret2P Try.func71 rfl rfl rfl ?_
      exact d_tup2 (d_toInts (by unfold limsP; rw [if_neg (by rw [hE]; omega)]) d_nil) (d_int hE.symm)
    ·
      have c2 := h2
      refine run_skip ?_
      refine run_seq ?_
      refine run_region ?_
      refine run_op (loc_assign rfl) rfl ?_
      refine run_nil ?_
      refine run_seq ?_
      refine run_seq ?_
      have hE : parE p n s = 0 := by unfold parE; rw [if_neg (Classical.not_not.2 c1), if_neg (by omega)]
      have hmb := mul_bd (a := n) (b := s - 1) (A := 1024) (B := 10) (by omega) (by omega) (by omega) (by omega)
      refine run_region ?_
      refine run_op (loc_move rfl) rfl ?_
      refine run_op (loc_move rfl) rfl ?_
      first | refine run_op (loc_sub rfl rfl (by first | omega | assumption)) rfl ?_ | refine run_op (loc_subW rfl rfl) rfl ?_
      first | refine run_op (loc_mul rfl rfl (by first | omega | assumption)) rfl ?_ | refine run_op (loc_mulW rfl rfl) rfl ?_
      refine run_op (loc_move rfl) rfl ?_
      refine run_nil ?_
      refine run_block ?_
      refine run_rowNil 3 1 fI ?_
      refine run_loopF (σ := Value × Nat) (ks := [3, 32]) (.cons rfl (.cons rfl (.nil))) (fun q => [(9, dVal q.1), (33, dInt .i64 (q.2 : Nat))]) (fun q => [rRow q.1 3 1 fI (List.replicate q.2 p)]) (fun q => q.2 ≤ (n * (s - 1)).toNat) (fun q => (n * (s - 1)).toNat - q.2) ((.slice none 0 0, 0)) (Nat.zero_le _) (.cons rfl (by first | exact fun _ _ h => h | exact d_int (by omega) | exact d_int (by simp) | exact d_intN (by omega) | exact d_any) (.cons rfl (by first | exact fun _ _ h => h | exact d_int (by omega) | exact d_int (by simp) | exact d_intN (by omega) | exact d_any) .nil)) (rfl) ?_
      intro q hq ih3
      have hql : (List.replicate q.2 p).length = q.2 := List.length_replicate
      refine run_seq ?_
      refine run_region ?_
      refine run_op (loc_lss rfl rfl) rfl ?_
      refine run_nil ?_
      refine run_seq ?_
      refine run_cond rfl (fun h4 => ?_) (fun h4 => ?_)
      ·
        refine run_skip ?_
        refine run_seq ?_
        refine run_block ?_
        refine run_region ?_
        refine run_op (loc_move rfl) rfl ?_
        refine run_op (loc_fieldAddr rfl) rfl ?_
        refine run_op (loc_load1 rfl) rfl ?_
        refine run_op (loc_buildSlice rfl rfl (.one rfl (.nil)) rfl rfl) rfl ?_
        refine run_append1 rfl (.here) rfl (by rfl) (by rfl) (by first | omega | (unfold lenMax; omega) | assumption | (simp; omega) | (simp [lenMax]; omega)) (by first | omega | (unfold lenMax; omega) | assumption | (simp; omega) | (simp [lenMax]; omega)) rfl (fun v5 => ?_)
        refine run_op (loc_assign rfl) rfl ?_
        refine run_nil ?_
        refine run_inBlock ?_
        refine run_region ?_
        first | refine run_op (loc_add rfl rfl (by first | omega | assumption)) rfl ?_ | refine run_op (loc_addW rfl rfl) rfl ?_
        refine run_op (loc_move rfl) rfl ?_
        refine run_nil ?_
        exact run_againF ih3 ((v5, q.2 + 1)) (by simp only; omega) (by simp only; omega) (.cons rfl (by first | exact fun _ _ h => h | exact d_int (by omega) | exact d_int (by simp) | exact d_intN (by omega) | exact d_any) (.cons rfl (by first | exact fun _ _ h => h | exact d_int (by omega) | exact d_int (by simp) | exact d_intN (by omega) | exact d_any) .nil)) (.cons rfl (fun _ _ x => x) (.cons rfl (fun _ _ x => x) (.nil))) (by simp only [appR]; rw [List.replicate_succ'] )
      ·
        refine run_exit rfl ?_
        refine run_seq ?_
        refine run_freezeRow (s := 9) rfl (.here) ?_
        refine run_region ?_
        refine run_op (loc_move rfl) rfl ?_
        refine run_op (loc_assign rfl) rfl ?_
        refine run_op (loc_assign rfl) rfl ?_
        refine run_nil ?_
        refine run_ret2P Try.func71 rfl rfl rfl ?_
        exact d_tup2 (d_toInts (by unfold limsP; rw [if_pos hE, show (n * (s - 1)).toNat = q.2 by omega]) (fun _ _ h => h)) (d_int hE.symm)

theorem rlim17_spec (p s d n : Int) : SpecP Try.prog 72 [dAgg [dInt .i64 p], dAgg [dInt .i64 s, dInt .i64 d], dInt .i64 n] (dTup [dInts (limsC p s d n), dInt .i64 (planRE p s d n)]) := by
  refine specP_of_body Try.func72 rfl rfl (fun I M => ?_)
  refine run_seq ?_
  refine run_region ?_
  refine run_op (loc_boxN rfl) rfl ?_
  refine run_op (loc_boxN rfl) rfl ?_
  refine run_op (loc_assign rfl) rfl ?_
  refine run_op (loc_assign rfl) rfl ?_
  refine run_nil ?_
  refine run_seq ?_
  refine run_seq ?_
  refine run_region ?_
  refine run_op (loc_loadN rfl rfl) rfl ?_
  refine run_op (loc_loadN rfl rfl) rfl ?_
  refine run_op (loc_call (rplan_spec _ _ _) rfl) rfl ?_
  refine run_op (loc_assign rfl) rfl ?_
  refine run_nil ?_
  refine run_seq ?_
  refine run_region ?_
  refine run_op (loc_move rfl) rfl ?_
  refine run_op (loc_neq rfl rfl) rfl ?_
  refine run_nil ?_
  refine run_cond rfl (fun h1 => ?_) (fun h1 => ?_)
  ·
    have c1 := h1
    refine run_seq ?_
    refine run_region ?_
    refine run_op (loc_move rfl) rfl ?_
    refine run_op (loc_assign rfl) rfl ?_
    refine run_op (loc_assign rfl) rfl ?_
    refine run_nil ?_
    have hE : planRE p s d n = planE p s d := by unfold planRE; rw [if_neg (fun h => c1 h.1)]
    refine run_ret2P Try.func72 rfl rfl rfl ?_
    exact d_tup2 (d_toInts (by unfold limsC; rw [if_neg (by rw [hE]; exact c1)]) d_nil) (d_int (hE.trans rfl).symm)
  ·
    have c1 := Classical.not_not.1 h1
    refine run_skip ?_
    refine run_seq ?_
    refine run_seq ?_
    refine run_region ?_
    refine run_op (loc_move rfl) rfl ?_
    refine run_op (loc_lss rfl rfl) rfl ?_
    refine run_op (loc_move rfl) rfl ?_
    refine run_gfirst rfl rfl (by first | exact guard_true _ | exact guard_false _ | exact guard_if (guard_true _) | exact guard_if (guard_false _)) (fun hg => loc_move rfl) rfl ?_
    refine run_gop rfl rfl (by first | exact guard_true _ | exact guard_false _ | exact guard_if (guard_true _) | exact guard_if (guard_false _)) (fun hg => loc_gtr rfl rfl) rfl ?_
    refine run_gleave ?_
    refine run_op (loc_or rfl rfl) rfl ?_
    refine run_nil ?_
    refine run_cond rfl (fun h2 => ?_) (fun h2 => ?_)
    ·
      have c2 := h2
      refine run_seq ?_
      refine run_region ?_
      refine run_op (loc_assign rfl) rfl ?_
      refine run_op (loc_assign rfl) rfl ?_
      refine run_nil ?_
      have hE : planRE p s d n = 1 := by unfold planRE; rw [if_pos ⟨c1, by omega⟩]
      refine run_ret2P Try.func72 rfl rfl rfl ?_
      exact d_tup2 (d_toInts (by unfold limsC; rw [if_neg (by rw [hE]; omega)]) d_nil) (d_int hE.symm)
    ·
      have c2 := h2
      refine run_skip ?_
      refine run_seq ?_
      refine run_region ?_
      refine run_op (loc_assign rfl) rfl ?_
      refine run_nil ?_
      refine run_seq ?_
      refine run_seq ?_
      have hE : planRE p s d n = 0 := by unfold planRE; rw [if_neg (by omega)]; exact c1
      have hz := planRE_zero hE
      have hmb := mul_bd (a := n) (b := d) (A := 1024) (B := 10) (by omega) (by omega) (by omega) (by omega)
      refine run_region ?_
      refine run_op (loc_move rfl) rfl ?_
      refine run_op (loc_fieldAddr rfl) rfl ?_
      refine run_op (loc_load1 rfl) rfl ?_
      first | refine run_op (loc_mul rfl rfl (by first | omega | assumption)) rfl ?_ | refine run_op (loc_mulW rfl rfl) rfl ?_
      refine run_op (loc_move rfl) rfl ?_
      refine run_nil ?_
      refine run_block ?_
      refine run_rowNil 3 1 fI ?_
      refine run_loopF (σ := Value × Nat) (ks := [3, 25]) (.cons rfl (.cons rfl (.nil))) (fun q => [(9, dVal q.1), (26, dInt .i64 (q.2 : Nat))]) (fun q => [rRow q.1 3 1 fI (List.replicate q.2 p)]) (fun q => q.2 ≤ (n * d).toNat) (fun q => (n * d).toNat - q.2) ((.slice none 0 0, 0)) (Nat.zero_le _) (.cons rfl (by first | exact fun _ _ h => h | exact d_int (by omega) | exact d_int (by simp) | exact d_intN (by omega) | exact d_any) (.cons rfl (by first | exact fun _ _ h => h | exact d_int (by omega) | exact d_int (by simp) | exact d_intN (by omega) | exact d_any) .nil)) (rfl) ?_
      intro q hq ih3
      have hql : (List.replicate q.2 p).length = q.2 := List.length_replicate
      refine run_seq ?_
      refine run_region ?_
      refine run_op (loc_lss rfl rfl) rfl ?_
      refine run_nil ?_
      refine run_seq ?_
      refine run_cond rfl (fun h4 => ?_) (fun h4 => ?_)
      ·
        refine run_skip ?_
        refine run_seq ?_
        refine run_block ?_
        refine run_region ?_
        refine run_op (loc_move rfl) rfl ?_
        refine run_op (loc_fieldAddr rfl) rfl ?_
        refine run_op (loc_load1 rfl) rfl ?_
        refine run_op (loc_buildSlice rfl rfl (.one rfl (.nil)) rfl rfl) rfl ?_
        refine run_append1 rfl (.here) rfl (by rfl) (by rfl) (by first | omega | (unfold lenMax; omega) | assumption | (simp; omega) | (simp [lenMax]; omega)) (by first | omega | (unfold lenMax; omega) | assumption | (simp; omega) | (simp [lenMax]; omega)) rfl (fun v5 => ?_)
        refine run_op (loc_assign rfl) rfl ?_
        refine run_nil ?_
        refine run_inBlock ?_
        refine run_region ?_
        first | refine run_op (loc_add rfl rfl (by first | omega | assumption)) rfl ?_ | refine run_op (loc_addW rfl rfl) rfl ?_
        refine run_op (loc_move rfl) rfl ?_
        refine run_nil ?_
        exact run_againF ih3 ((v5, q.2 + 1)) (by simp only; omega) (by simp only; omega) (.cons rfl (by first | exact fun _ _ h => h | exact d_int (by omega) | exact d_int (by simp) | exact d_intN (by omega) | exact d_any) (.cons rfl (by first | exact fun _ _ h => h | exact d_int (by omega) | exact d_int (by simp) | exact d_intN (by omega) | exact d_any) .nil)) (.cons rfl (fun _ _ x => x) (.cons rfl (fun _ _ x => x) (.nil))) (by simp only [appR]; rw [List.replicate_succ'] )
      ·
        refine run_exit rfl ?_
        refine run_seq ?_
        refine run_freezeRow (s := 9) rfl (.here) ?_
        refine run_region ?_
        refine run_op (loc_move rfl) rfl ?_
        refine run_op (loc_assign rfl) rfl ?_
        refine run_op (loc_assign rfl) rfl ?_
        refine run_nil ?_
        refine run_ret2P Try.func72 rfl rfl rfl ?_
        exact d_tup2 (d_toInts (by unfold limsC; rw [if_pos hE, show (n * d).toNat = q.2 by omega]) (fun _ _ h => h)) (d_int hE.symm)

theorem rlim18_spec (p s d g n : Int) : SpecP Try.prog 74 [dAgg [dInt .i64 p], dAgg [dInt .i64 s, dInt .i64 d, dInt .i64 g], dInt .i64 n] (dTup [dInts (limsG p s d g n), dInt .i64 (codRE p s d g n)]) := by
  refine specP_of_body Try.func74 rfl rfl (fun I M => ?_)
  refine run_seq ?_
  refine run_region ?_
  refine run_op (loc_boxN rfl) rfl ?_
  refine run_op (loc_boxN rfl) rfl ?_
  refine run_op (loc_assign rfl) rfl ?_
  refine run_op (loc_assign rfl) rfl ?_
  refine run_nil ?_
  refine run_seq ?_
  refine run_seq ?_
  refine run_region ?_
  refine run_op (loc_loadN rfl rfl) rfl ?_
  refine run_op (loc_loadN rfl rfl) rfl ?_
  refine run_op (loc_call (rcod_spec _ _ _ _) rfl) rfl ?_
  refine run_op (loc_assign rfl) rfl ?_
  refine run_nil ?_
  refine run_seq ?_
  refine run_region ?_
  refine run_op (loc_move rfl) rfl ?_
  refine run_op (loc_neq rfl rfl) rfl ?_
  refine run_nil ?_
  refine run_cond rfl (fun h1 => ?_) (fun h1 => ?_)
  ·
    have c1 := h1
    refine run_seq ?_
    refine run_region ?_
    refine run_op (loc_move rfl) rfl ?_
    refine run_op (loc_assign rfl) rfl ?_
    refine run_op (loc_assign rfl) rfl ?_
    refine run_nil ?_
    have hE : codRE p s d g n = codE p s d g := by unfold codRE; rw [if_neg (fun h => c1 h.1)]
    refine run_ret2P Try.func74 rfl rfl rfl ?_
    exact d_tup2 (d_toInts (by unfold limsG; rw [if_neg (by rw [hE]; exact c1)]) d_nil) (d_int (hE.trans rfl).symm)
  ·
    have c1 := Classical.not_not.1 h1
    refine run_skip ?_
    refine run_seq ?_
    refine run_seq ?_
    refine run_region ?_
    refine run_op (loc_move rfl) rfl ?_
    refine run_op (loc_lss rfl rfl) rfl ?_
    refine run_op (loc_move rfl) rfl ?_
    refine run_gfirst rfl rfl (by first | exact guard_true _ | exact guard_false _ | exact guard_if (guard_true _) | exact guard_if (guard_false _)) (fun hg => loc_move rfl) rfl ?_
    refine run_gop rfl rfl (by first | exact guard_true _ | exact guard_false _ | exact guard_if (guard_true _) | exact guard_if (guard_false _)) (fun hg => loc_gtr rfl rfl) rfl ?_
    refine run_gleave ?_
    refine run_op (loc_or rfl rfl) rfl ?_
    refine run_nil ?_
    refine run_cond rfl (fun h2 => ?_) (fun h2 => ?_)
    ·
      have c2 := h2
      refine run_seq ?_
      refine run_region ?_
      refine run_op (loc_assign rfl) rfl ?_
      refine run_op (loc_assign rfl) rfl ?_
      refine run_nil ?_
      have hE : codRE p s d g n = 1 := by unfold codRE; rw [if_pos ⟨c1, by omega⟩]
      refine run_ret2P Try.func74 rfl rfl rfl ?_
      exact d_tup2 (d_toInts (by unfold limsG; rw [if_neg (by rw [hE]; omega)]) d_nil) (d_int hE.symm)
    ·
      have c2 := h2
      refine run_skip ?_
      refine run_seq ?_
      refine run_region ?_
      refine run_op (loc_assign rfl) rfl ?_
      refine run_nil ?_
      refine run_seq ?_
      refine run_seq ?_
      have hE : codRE p s d g n = 0 := by unfold codRE; rw [if_neg (by omega)]; exact c1
      have hz := codE_zero c1
      have hmb := mul_bd (a := n) (b := d) (A := 1024) (B := 10) (by omega) (by omega) (by omega) (by omega)
      refine run_region ?_
      refine run_op (loc_move rfl) rfl ?_
      refine run_op (loc_fieldAddr rfl) rfl ?_
      refine run_op (loc_load1 rfl) rfl ?_
      first | refine run_op (loc_mul rfl rfl (by first | omega | assumption)) rfl ?_ | refine run_op (loc_mulW rfl rfl) rfl ?_
      refine run_op (loc_move rfl) rfl ?_
      refine run_nil ?_
      refine run_block ?_
      refine run_rowNil 3 1 fI ?_
      refine run_loopF (σ := Value × Nat) (ks := [3, 25]) (.cons rfl (.cons rfl (.nil))) (fun q => [(9, dVal q.1), (26, dInt .i64 (q.2 : Nat))]) (fun q => [rRow q.1 3 1 fI (List.replicate q.2 p)]) (fun q => q.2 ≤ (n * d).toNat) (fun q => (n * d).toNat - q.2) ((.slice none 0 0, 0)) (Nat.zero_le _) (.cons rfl (by first | exact fun _ _ h => h | exact d_int (by omega) | exact d_int (by simp) | exact d_intN (by omega) | exact d_any) (.cons rfl (by first | exact fun _ _ h => h | exact d_int (by omega) | exact d_int (by simp) | exact d_intN (by omega) | exact d_any) .nil)) (rfl) ?_
      intro q hq ih3
      have hql : (List.replicate q.2 p).length = q.2 := List.length_replicate
      refine run_seq ?_
      refine run_region ?_
      refine run_op (loc_lss rfl rfl) rfl ?_
      refine run_nil ?_
      refine run_seq ?_
      refine run_cond rfl (fun h4 => ?_) (fun h4 => ?_)
      ·
        refine run_skip ?_
        refine run_seq ?_
        refine run_block ?_
        refine run_region ?_
        refine run_op (loc_move rfl) rfl ?_
        refine run_op (loc_fieldAddr rfl) rfl ?_
        refine run_op (loc_load1 rfl) rfl ?_
        refine run_op (loc_buildSlice rfl rfl (.one rfl (.nil)) rfl rfl) rfl ?_
        refine run_append1 rfl (.here) rfl (by rfl) (by rfl) (by first | omega | (unfold lenMax; omega) | assumption | (simp; omega) | (simp [lenMax]; omega)) (by first | omega | (unfold lenMax; omega) | assumption | (simp; omega) | (simp [lenMax]; omega)) rfl (fun v5 => ?_)
        refine run_op (loc_assign rfl) rfl ?_
        refine run_nil ?_
        refine run_inBlock ?_
        refine run_region ?_
        first | refine run_op (loc_add rfl rfl (by first | omega | assumption)) rfl ?_ | refine run_op (loc_addW rfl rfl) rfl ?_
        refine run_op (loc_move rfl) rfl ?_
        refine run_nil ?_
        exact run_againF ih3 ((v5, q.2 + 1)) (by simp only; omega) (by simp only; omega) (.cons rfl (by first | exact fun _ _ h => h | exact d_int (by omega) | exact d_int (by simp) | exact d_intN (by omega) | exact d_any) (.cons rfl (by first | exact fun _ _ h => h | exact d_int (by omega) | exact d_int (by simp) | exact d_intN (by omega) | exact d_any) .nil)) (.cons rfl (fun _ _ x => x) (.cons rfl (fun _ _ x => x) (.nil))) (by simp only [appR]; rw [List.replicate_succ'] )
      ·
        refine run_exit rfl ?_
        refine run_seq ?_
        refine run_freezeRow (s := 9) rfl (.here) ?_
        refine run_region ?_
        refine run_op (loc_move rfl) rfl ?_
        refine run_op (loc_assign rfl) rfl ?_
        refine run_op (loc_assign rfl) rfl ?_
        refine run_nil ?_
        refine run_ret2P Try.func74 rfl rfl rfl ?_
        exact d_tup2 (d_toInts (by unfold limsG; rw [if_pos hE, show (n * d).toNat = q.2 by omega]) (fun _ _ h => h)) (d_int hE.symm)

theorem plan23_spec (s : Schm) : SpecP Try.prog 73 [dSchm s] (dAgg [dInt .i64 s.servers, dInt .i64 s.degree]) := by
  refine specP_of_body Try.func73 rfl rfl (fun I M => ?_)
  refine run_seq ?_
  refine run_region ?_
  refine run_op (loc_boxN rfl) rfl ?_
  refine run_new (loc_allocOwn (by simp)) rfl (fun b1 _ => ?_)
  refine run_nil ?_
  refine run_seq ?_
  refine run_region ?_
  refine run_op (loc_fieldAddr rfl) rfl ?_
  refine run_op (loc_load1 rfl) rfl ?_
  refine run_op (loc_fieldAddr rfl) rfl ?_
  refine run_op (loc_load1 rfl) rfl ?_
  refine run_op (loc_build (.one rfl rfl rfl (.one rfl rfl rfl (.nil)))) rfl ?_
  refine run_storeN (ho := (by show OneAll [_, _]; infer_instance)) rfl rfl (.here) (by rfl) ?_
  refine run_nil ?_
  refine run_retGP Try.func73 rfl (.cellN rfl (by first | exact .here | exact .there .here | exact .there (.there .here) | exact .there (.there (.there .here)) | exact .there (.there (.there (.there .here))) | exact .there (.there (.there (.there (.there .here))))) (by rfl) (.nil)) ?_ (fun _ _ h => inv_tail (h))
  exact fun _ _ h => h

theorem sto23_spec (s : Schm) : SpecP Try.prog 75 [dSchm s] (dAgg [dInt .i64 s.servers, dInt .i64 s.degree, dInt .i64 s.group]) := by
  refine specP_of_body Try.func75 rfl rfl (fun I M => ?_)
  refine run_seq ?_
  refine run_region ?_
  refine run_op (loc_boxN rfl) rfl ?_
  refine run_new (loc_allocOwn (by simp)) rfl (fun b1 _ => ?_)
  refine run_nil ?_
  refine run_seq ?_
  refine run_region ?_
  refine run_op (loc_fieldAddr rfl) rfl ?_
  refine run_op (loc_load1 rfl) rfl ?_
  refine run_op (loc_fieldAddr rfl) rfl ?_
  refine run_op (loc_load1 rfl) rfl ?_
  refine run_op (loc_fieldAddr rfl) rfl ?_
  refine run_op (loc_load1 rfl) rfl ?_
  refine run_op (loc_build (.one rfl rfl rfl (.one rfl rfl rfl (.one rfl rfl rfl (.nil))))) rfl ?_
  refine run_storeN (ho := (by show OneAll [_, _, _]; infer_instance)) rfl rfl (.here) (by rfl) ?_
  refine run_nil ?_
  refine run_retGP Try.func75 rfl (.cellN rfl (by first | exact .here | exact .there .here | exact .there (.there .here) | exact .there (.there (.there .here)) | exact .there (.there (.there (.there .here))) | exact .there (.there (.there (.there (.there .here))))) (by rfl) (.nil)) ?_ (fun _ _ h => inv_tail (h))
  exact fun _ _ h => h

theorem rlim23_spec (s : Schm) (p n : Int) : SpecP Try.prog 54 [dSchm s, dAgg [dInt .i64 p], dInt .i64 n] (dTup [dInts (limL s p n), dInt .i64 (limE s p n)]) := by
  refine specP_of_body Try.func54 rfl rfl (fun I M => ?_)
  refine run_seq ?_
  refine run_region ?_
  refine run_op (loc_boxN rfl) rfl ?_
  refine run_op (loc_boxN rfl) rfl ?_
  refine run_op (loc_assign rfl) rfl ?_
  refine run_op (loc_assign rfl) rfl ?_
  refine run_nil ?_
  refine run_seq ?_
  refine run_seq ?_
  refine run_region ?_
  refine run_op (loc_loadN rfl rfl) rfl ?_
  refine run_op (loc_loadN rfl rfl) rfl ?_
  refine run_op (loc_call (rvalid_spec _ _) rfl) rfl ?_
  refine run_op (loc_not rfl) rfl ?_
  refine run_nil ?_
  refine run_cond rfl (fun h1 => ?_) (fun h1 => ?_)
  ·
    have c1 := h1
    have hlk : lookE s p n = 40 := by unfold lookE; rw [if_pos c1]
    refine run_seq ?_
    refine run_region ?_
    refine run_op (loc_assign rfl) rfl ?_
    refine run_op (loc_assign rfl) rfl ?_
    refine run_nil ?_
    refine run_ret2P Try.func54 rfl rfl rfl ?_
    exact d_tup2 (d_toInts (by unfold limL; rw [if_pos (by omega)]) d_nil) (d_int (by unfold limE; rw [if_pos (by omega), hlk]))
  ·
    have c1 := Classical.not_not.1 h1
    have hbd := shape_bd c1.1
    refine run_skip ?_
    refine run_seq ?_
    refine run_seq ?_
    refine run_region ?_
    refine run_op (loc_move rfl) rfl ?_
    refine run_op (loc_lss rfl rfl) rfl ?_
    refine run_op (loc_move rfl) rfl ?_
    refine run_gfirst rfl rfl (by first | exact guard_true _ | exact guard_false _ | exact guard_if (guard_true _) | exact guard_if (guard_false _)) (fun hg => loc_move rfl) rfl ?_
    refine run_gop rfl rfl (by first | exact guard_true _ | exact guard_false _ | exact guard_if (guard_true _) | exact guard_if (guard_false _)) (fun hg => loc_gtr rfl rfl) rfl ?_
    refine run_gleave ?_
    refine run_op (loc_or rfl rfl) rfl ?_
    refine run_nil ?_
    refine run_cond rfl (fun h2 => ?_) (fun h2 => ?_)
    ·
      have c2 := h2
      have hlk : lookE s p n = 1 := by unfold lookE; rw [if_neg (Classical.not_not.2 c1), if_pos (by omega)]
      refine run_seq ?_
      refine run_region ?_
      refine run_op (loc_assign rfl) rfl ?_
      refine run_op (loc_assign rfl) rfl ?_
      refine run_nil ?_
      refine run_ret2P Try.func54 rfl rfl rfl ?_
      exact d_tup2 (d_toInts (by unfold limL; rw [if_pos (by omega)]) d_nil) (d_int (by unfold limE; rw [if_pos (by omega), hlk]))
    ·
      have c2 := h2
      have hlk : lookE s p n = 0 := lookE_ok c1 (by omega)
      refine run_skip ?_
      refine run_seq ?_
      refine run_seq ?_
      refine run_region ?_
      refine run_op (loc_fieldAddr rfl) rfl ?_
      refine run_op (loc_load1 rfl) rfl ?_
      refine run_nil ?_
      refine run_block ?_
      refine run_seq ?_
      refine run_region ?_
      refine run_op (loc_eql rfl rfl) rfl ?_
      refine run_op (loc_assign rfl) rfl ?_
      refine run_nil ?_
      refine run_cond rfl (fun h3 => ?_) (fun h3 => ?_)
      ·
        have c3 := h3
        refine run_seq ?_
        refine run_region ?_
        refine run_op (loc_loadN rfl rfl) rfl ?_
        refine run_op (loc_move rfl) rfl ?_
        refine run_op (loc_fieldAddr rfl) rfl ?_
        refine run_op (loc_load1 rfl) rfl ?_
        refine run_op (loc_call (rlim16_spec _ _ _) rfl) rfl ?_
        refine run_op (loc_extract rfl rfl) rfl ?_
        refine run_op (loc_extract rfl rfl) rfl ?_
        refine run_op (loc_assign rfl) rfl ?_
        refine run_op (loc_assign rfl) rfl ?_
        refine run_nil ?_
        refine run_ret2P Try.func54 rfl rfl rfl ?_
        exact d_tup2 (d_toInts (by unfold limL; rw [if_neg (Classical.not_not.2 hlk), if_pos c3]) (fun _ _ h => h)) (d_int (by unfold limE; rw [if_neg (Classical.not_not.2 hlk), if_pos c3]))
      ·
        have c3 := h3
        refine run_seq ?_
        refine run_region ?_
        refine run_op (loc_eql rfl rfl) rfl ?_
        refine run_op (loc_assign rfl) rfl ?_
        refine run_nil ?_
        refine run_cond rfl (fun h4 => ?_) (fun h4 => ?_)
        ·
          have c4 := h4
          refine run_seq ?_
          refine dr_start _ (.none) [⟨[(4, none)], [], none⟩,
              ⟨[(3, none)], [], none⟩,
              ⟨[(32, some (1, false))], [1], none⟩,
              ⟨[(2, none)], [], none⟩,
              ⟨[(31, some (0, false)), (33, some (2, false)), (34, some (3, false))], [0, 1, 2, 3], none⟩,
              ⟨[(35, some (4, false))], [0, 1, 2, 3, 4], none⟩,
              ⟨[(35, some (4, false))], [0, 1, 2, 3, 4], none⟩,
              ⟨[(36, some (5, false))], [0, 1, 2, 3, 4, 5, 6], none⟩,
              ⟨[(37, some (6, false))], [0, 1, 2, 3, 4, 5, 6, 7], none⟩] [] _ rfl rfl ?_
          refine dq_pure rfl (fun s => .g rfl (.nil)) (fun s hs _ => loc_loadN rfl rfl) (by exact .nil) ?_
          refine dq_pure rfl (fun s => .g rfl (.nil)) (fun s hs _ => loc_loadN rfl rfl) (by exact .nil) ?_
          refine dq_pure rfl (fun s => .op rfl (.nil)) (fun s hs _ => loc_call (plan23_spec _) rfl) (by exact .nil) ?_
          refine dq_pure rfl (fun s => .g rfl (.nil)) (fun s hs _ => loc_move rfl) (by exact .nil) ?_
          refine dq_pure rfl (fun s => .op rfl (.op rfl (.op rfl (.nil)))) (fun s hs _ => loc_call (rlim17_spec _ _ _ _) rfl) (by exact .nil) ?_
          refine dq_pure rfl (fun s => .op rfl (.nil)) (fun s hs _ => loc_extract rfl rfl) (by exact .nil) ?_
          refine dq_pure rfl (fun s => .op rfl (.nil)) (fun s hs _ => loc_extract rfl rfl) (by exact .nil) ?_
          refine dq_pure rfl (fun s => .op rfl (.nil)) (fun s hs _ => loc_assign rfl) (by exact .nil) ?_
          refine dq_pure rfl (fun s => .op rfl (.nil)) (fun s hs _ => loc_assign rfl) (by exact .nil) ?_
          refine dq_end (rs := []) () rfl (fun _ => rfl) (.nil) rfl (fun _ _ => ?_)
          dsimp only [outG, outM, List.map, List.set, id]
          refine run_ret2P Try.func54 rfl rfl rfl ?_
          exact d_tup2 (d_toInts (by unfold limL; rw [if_neg (Classical.not_not.2 hlk), if_neg c3, if_pos c4]) (fun _ _ h => h)) (d_int (by unfold limE; rw [if_neg (Classical.not_not.2 hlk), if_neg c3, if_pos c4]))
        ·
          have c4 := h4
          refine run_skip ?_
          refine run_inBlock ?_
          refine run_seq ?_
          have hk3 := shape_kind c1.1
          have hun := units_ok (n := n) c1.1 (by omega)
          rw [if_pos (by omega)] at hun
          refine dr_start _ (.none) [⟨[(4, none)], [], none⟩,
              ⟨[(3, none)], [], none⟩,
              ⟨[(39, some (1, false))], [1], none⟩,
              ⟨[(3, none)], [], none⟩,
              ⟨[(2, none)], [], none⟩,
              ⟨[(41, some (3, false)), (42, some (4, false))], [1, 2, 3, 4], none⟩,
              ⟨[(38, some (0, false)), (40, some (2, false)), (43, some (5, false))], [0, 1, 2, 3, 4, 5], none⟩,
              ⟨[(44, some (6, false))], [0, 1, 2, 3, 4, 5, 6], none⟩,
              ⟨[(44, some (6, false))], [0, 1, 2, 3, 4, 5, 6], none⟩,
              ⟨[(45, some (7, false))], [0, 1, 2, 3, 4, 5, 6, 7, 8], none⟩,
              ⟨[(46, some (8, false))], [0, 1, 2, 3, 4, 5, 6, 7, 8, 9], none⟩] [] _ rfl rfl ?_
          refine dq_pure rfl (fun s => .g rfl (.nil)) (fun s hs _ => loc_loadN rfl rfl) (by exact .nil) ?_
          refine dq_pure rfl (fun s => .g rfl (.nil)) (fun s hs _ => loc_loadN rfl rfl) (by exact .nil) ?_
          refine dq_pure rfl (fun s => .op rfl (.nil)) (fun s hs _ => loc_call (sto23_spec _) rfl) (by exact .nil) ?_
          refine dq_pure rfl (fun s => .g rfl (.nil)) (fun s hs _ => loc_loadN rfl rfl) (by exact .nil) ?_
          refine dq_pure rfl (fun s => .g rfl (.nil)) (fun s hs _ => loc_move rfl) (by exact .nil) ?_
          refine dq_pure rfl (fun s => .op rfl (.op rfl (.nil))) (fun s hs _ => loc_call (runits_spec _ _) rfl) (by exact .nil) ?_
          refine dq_pure rfl (fun s => .op rfl (.op rfl (.op rfl (.nil)))) (fun s hs _ => loc_call (rlim18_spec _ _ _ _ _) rfl) (by exact .nil) ?_
          refine dq_pure rfl (fun s => .op rfl (.nil)) (fun s hs _ => loc_extract rfl rfl) (by exact .nil) ?_
          refine dq_pure rfl (fun s => .op rfl (.nil)) (fun s hs _ => loc_extract rfl rfl) (by exact .nil) ?_
          refine dq_pure rfl (fun s => .op rfl (.nil)) (fun s hs _ => loc_assign rfl) (by exact .nil) ?_
          refine dq_pure rfl (fun s => .op rfl (.nil)) (fun s hs _ => loc_assign rfl) (by exact .nil) ?_
          refine dq_end (rs := []) () rfl (fun _ => rfl) (.nil) rfl (fun _ _ => ?_)
          dsimp only [outG, outM, List.map, List.set, id]
          refine run_ret2P Try.func54 rfl rfl rfl ?_
          exact d_tup2 (d_toInts (by unfold limL; rw [if_neg (Classical.not_not.2 hlk), if_neg c3, if_neg c4, ← hun]) (fun _ _ h => h)) (d_int (by unfold limE; rw [if_neg (Classical.not_not.2 hlk), if_neg c3, if_neg c4, ← hun]))

theorem rwlim_spec (s : Schm) (p n k : Int) : SpecP Try.prog 31 [dSchm s, dAgg [dInt .i64 p], dInt .i64 n, dInt .i64 k] (dTup [dInts (wlimL s p n k), dInt .i64 (wlimE s p n k)]) := by
  refine specP_of_body Try.func31 rfl rfl (fun I M => ?_)
  refine run_seq ?_
  refine run_region ?_
  refine run_op (loc_boxN rfl) rfl ?_
  refine run_op (loc_boxN rfl) rfl ?_
  refine run_op (loc_assign rfl) rfl ?_
  refine run_op (loc_assign rfl) rfl ?_
  refine run_nil ?_
  refine run_seq ?_
  refine run_seq ?_
  refine run_region ?_
  refine run_op (loc_loadN rfl rfl) rfl ?_
  refine run_op (loc_loadN rfl rfl) rfl ?_
  refine run_op (loc_call (rvalid_spec _ _) rfl) rfl ?_
  refine run_op (loc_not rfl) rfl ?_
  refine run_nil ?_
  refine run_cond rfl (fun h1 => ?_) (fun h1 => ?_)
  ·
    have c1 := h1
    refine run_seq ?_
    refine run_region ?_
    refine run_op (loc_assign rfl) rfl ?_
    refine run_op (loc_assign rfl) rfl ?_
    refine run_nil ?_
    refine run_ret2P Try.func31 rfl rfl rfl ?_
    exact d_tup2 (d_toInts (by unfold wlimL wlimE; rw [if_pos c1, if_neg (by omega)]) d_nil) (d_int (by unfold wlimE; rw [if_pos c1]))
  ·
    have c1 := Classical.not_not.1 h1
    refine run_skip ?_
    refine run_seq ?_
    refine run_seq ?_
    refine run_region ?_
    refine run_op (loc_move rfl) rfl ?_
    refine run_op (loc_lss rfl rfl) rfl ?_
    refine run_op (loc_move rfl) rfl ?_
    refine run_gfirst rfl rfl (by first | exact guard_true _ | exact guard_false _ | exact guard_if (guard_true _) | exact guard_if (guard_false _)) (fun hg => loc_move rfl) rfl ?_
    refine run_gop rfl rfl (by first | exact guard_true _ | exact guard_false _ | exact guard_if (guard_true _) | exact guard_if (guard_false _)) (fun hg => loc_gtr rfl rfl) rfl ?_
    refine run_gleave ?_
    refine run_op (loc_or rfl rfl) rfl ?_
    refine run_op (loc_move rfl) rfl ?_
    refine run_gfirst rfl rfl (by first | exact guard_true _ | exact guard_false _ | exact guard_if (guard_true _) | exact guard_if (guard_false _)) (fun hg => loc_move rfl) rfl ?_
    refine run_gop rfl rfl (by first | exact guard_true _ | exact guard_false _ | exact guard_if (guard_true _) | exact guard_if (guard_false _)) (fun hg => loc_lss rfl rfl) rfl ?_
    refine run_gleave ?_
    refine run_op (loc_or rfl rfl) rfl ?_
    refine run_op (loc_move rfl) rfl ?_
    refine run_gfirst rfl rfl (by first | exact guard_true _ | exact guard_false _ | exact guard_if (guard_true _) | exact guard_if (guard_false _)) (fun hg => loc_move rfl) rfl ?_
    refine run_gop rfl rfl (by first | exact guard_true _ | exact guard_false _ | exact guard_if (guard_true _) | exact guard_if (guard_false _)) (fun hg => loc_gtr rfl rfl) rfl ?_
    refine run_gleave ?_
    refine run_op (loc_or rfl rfl) rfl ?_
    refine run_nil ?_
    refine run_cond rfl (fun h2 => ?_) (fun h2 => ?_)
    ·
      have c2 := h2
      refine run_seq ?_
      refine run_region ?_
      refine run_op (loc_assign rfl) rfl ?_
      refine run_op (loc_assign rfl) rfl ?_
      refine run_nil ?_
      refine run_ret2P Try.func31 rfl rfl rfl ?_
      exact d_tup2 (d_toInts (by unfold wlimL wlimE; rw [if_neg (Classical.not_not.2 c1), if_pos (show ¬ (1 ≤ k ∧ k ≤ 16) ∨ ¬ (1 ≤ n ∧ n ≤ 1024) by omega), if_neg (by omega)]) d_nil) (d_int (by unfold wlimE; rw [if_neg (Classical.not_not.2 c1), if_pos (show ¬ (1 ≤ k ∧ k ≤ 16) ∨ ¬ (1 ≤ n ∧ n ≤ 1024) by omega)]))
    ·
      have c2 := h2
      refine run_skip ?_
      refine run_seq ?_
      refine run_region ?_
      refine run_op (loc_assign rfl) rfl ?_
      refine run_nil ?_
      refine run_seq ?_
      refine run_seq ?_
      refine run_region ?_
      refine run_op (loc_assign rfl) rfl ?_
      refine run_nil ?_
      refine run_block ?_
      refine run_rowNil 3 1 fI ?_
      have hn : 1 ≤ n ∧ n ≤ 1024 := by omega
      have hwe : wlimE s p n k = 0 := by unfold wlimE; rw [if_neg (Classical.not_not.2 c1), if_neg (by omega)]
      have hlm := lim_ok c1 hn
      have hlb := limN_bd c1 hn
      have hll : (limL s p n).length ≤ 10240 := by rw [hlm.2, List.length_replicate]; omega
      refine run_loopF (σ := Value × Nat) (ks := [2, 3, 4, 5]) (.cons rfl (.cons rfl (.cons rfl (.cons rfl (.nil))))) (fun q => [(10, dVal q.1), (11, dInt .i64 (q.2 : Nat))]) (fun q => [rRow q.1 3 1 fI (reps q.2 (limL s p n))]) (fun q => q.2 ≤ k.toNat) (fun q => k.toNat - q.2) ((.slice none 0 0, 0)) (Nat.zero_le _) (.cons rfl (by first | exact fun _ _ h => h | exact d_int (by omega) | exact d_int (by simp) | exact d_intN (by omega) | exact d_any) (.cons rfl (by first | exact fun _ _ h => h | exact d_int (by omega) | exact d_int (by simp) | exact d_intN (by omega) | exact d_any) .nil)) (rfl) ?_
      intro q hq ih3
      have hrl := reps_len (limL s p n) q.2
      have hmm := Nat.mul_le_mul (show q.2 ≤ 16 by omega) hll
      refine run_seq ?_
      refine run_seq ?_
      refine run_region ?_
      refine run_op (loc_move rfl) rfl ?_
      refine run_op (loc_move rfl) rfl ?_
      refine run_op (loc_lss rfl rfl) rfl ?_
      refine run_nil ?_
      refine run_cond rfl (fun h4 => ?_) (fun h4 => ?_)
      ·
        refine run_skip ?_
        refine run_seq ?_
        refine run_block ?_
        refine run_seq ?_
        refine run_region ?_
        refine run_op (loc_loadN rfl rfl) rfl ?_
        refine run_op (loc_loadN rfl rfl) rfl ?_
        refine run_op (loc_move rfl) rfl ?_
        refine run_op (loc_call (rlim23_spec _ _ _) rfl) rfl ?_
        refine run_op (loc_move rfl) rfl ?_
        refine run_op (loc_extract rfl rfl) rfl ?_
        refine run_op (loc_extract rfl rfl) rfl ?_
        refine run_op (loc_assign rfl) rfl ?_
        refine run_op (loc_assign rfl) rfl ?_
        refine run_nil ?_
        refine run_seq ?_
        refine run_seq ?_
        refine run_region ?_
        refine run_op (loc_move rfl) rfl ?_
        refine run_op (loc_neq rfl rfl) rfl ?_
        refine run_nil ?_
        refine run_cond rfl (fun h5 => ?_) (fun h5 => ?_)
        · exfalso; exact h5 hlm.1
        ·
          refine run_skip ?_
          refine run_region ?_
          refine run_op (loc_move rfl) rfl ?_
          refine run_op (loc_move rfl) rfl ?_
          refine run_append rfl (.here) rfl (by rfl) (by first | omega | (unfold lenMax; omega) | assumption | (simp; omega) | (simp [lenMax]; omega)) (by first | omega | (unfold lenMax; omega) | assumption | (simp; omega) | (simp [lenMax]; omega)) rfl (fun v6 => ?_)
          refine run_op (loc_assign rfl) rfl ?_
          refine run_nil ?_
          refine run_inBlock ?_
          refine run_region ?_
          refine run_op (loc_move rfl) rfl ?_
          first | refine run_op (loc_add rfl rfl (by first | omega | assumption)) rfl ?_ | refine run_op (loc_addW rfl rfl) rfl ?_
          refine run_op (loc_assign rfl) rfl ?_
          refine run_nil ?_
          exact run_againF ih3 ((v6, q.2 + 1)) (by simp only; omega) (by simp only; omega) (.cons rfl (by first | exact fun _ _ h => h | exact d_int (by omega) | exact d_int (by simp) | exact d_intN (by omega) | exact d_any) (.cons rfl (by first | exact fun _ _ h => h | exact d_int (by omega) | exact d_int (by simp) | exact d_intN (by omega) | exact d_any) .nil)) (.cons rfl (fun _ _ x => x) (.cons rfl (fun _ _ x => x) (.cons rfl (fun _ _ x => x) (.cons rfl (fun _ _ x => x) (.nil))))) (by simp only [appR]; rw [reps_snoc])
      ·
        refine run_exit rfl ?_
        refine run_seq ?_
        refine run_freezeRow (s := 10) rfl (.here) ?_
        refine run_region ?_
        refine run_op (loc_move rfl) rfl ?_
        refine run_op (loc_assign rfl) rfl ?_
        refine run_op (loc_assign rfl) rfl ?_
        refine run_nil ?_
        refine run_ret2P Try.func31 rfl rfl rfl ?_
        exact d_tup2 (d_toInts (by unfold wlimL; rw [if_pos hwe, show k.toNat = q.2 by omega]) (fun _ _ h => h)) (d_int hwe.symm)

end Go.Q

namespace Go.Q
open Classical

structure Ans where
  known : Prop
  row : List Int
deriving Inhabited
structure Nte where
  kind : Int
  read : Int
  probe : Int
  server : Int
  version : Int
  query : List Int
  values : List Int
  mark : Int
deriving Inhabited
structure Rdr where
  read : Int
  scheme : Schm
  head : Hd
  rows : List Int
  queries : List (List (List Int))
  answers : List (List Ans)
  marks : List (List Int)
  ended : Prop
/-- What begins a read. -/
noncomputable def bgE (rd : Int) (s : Schm) (hd : Hd) (rows : List Int) (t : Tape) : Int := if rd < 0 then 1 else if ¬ validS s hd.p then 40 else if ¬ okW hd.count rows ∨ hd.width < 1 ∨ hd.width > 64 then 41 else wqE s hd.p hd.count rows t
def rdr0 : Rdr := ⟨0, ⟨0, 0, 0, 0⟩, ⟨0, 0, 0, 0, 0⟩, [], [], [], [], False⟩
noncomputable def bgR (rd : Int) (s : Schm) (hd : Hd) (rows : List Int) (t : Tape) : Rdr := if bgE rd s hd rows t = 0 then ⟨rd, s, hd, rows, wqL s hd.p hd.count rows t, List.replicate rows.length (List.replicate s.servers.toNat ⟨False, []⟩), List.replicate rows.length (List.replicate s.servers.toNat 0), False⟩ else rdr0
noncomputable def bgT (rd : Int) (s : Schm) (hd : Hd) (rows : List Int) (t : Tape) : Tape := if bgE rd s hd rows t = 0 then wqT s hd.p hd.count rows t else ⟨[], 0⟩
/-- The notes of the first k queries of a probe, and of the first k probes. -/
def probeN (rd ver : Int) (i : Nat) (p : List (List Int)) (k : Nat) : List Nte := (List.range k).map fun (j : Nat) => ⟨1, rd, i, (j : Int) + 1, ver, p[j]?.getD default, [], 0⟩
def notesN (rd ver : Int) (qs : List (List (List Int))) (k : Nat) : List Nte := (List.range k).flatMap fun (i : Nat) => probeN rd ver i (qs[i]?.getD default) (qs[i]?.getD default).length
theorem probeN_len (rd ver : Int) (i : Nat) (p : List (List Int)) (k : Nat) : (probeN rd ver i p k).length = k := by simp [probeN]
theorem probeN_snoc (rd ver : Int) (i : Nat) (p : List (List Int)) (k : Nat) : probeN rd ver i p (k + 1) = probeN rd ver i p k ++ [⟨1, rd, i, (k : Int) + 1, ver, p[k]?.getD default, [], 0⟩] := by
  unfold probeN; rw [List.range_succ, List.map_append]; rfl
theorem notesN_snoc (rd ver : Int) (qs : List (List (List Int))) (k : Nat) : notesN rd ver qs (k + 1) = notesN rd ver qs k ++ probeN rd ver k (qs[k]?.getD default) (qs[k]?.getD default).length := by
  unfold notesN; rw [List.range_succ, List.flatMap_append]; simp
theorem notesN_len {rd ver : Int} {qs : List (List (List Int))} {m : Nat} (hm : ∀ q ∈ qs, q.length = m) : ∀ {k : Nat}, k ≤ qs.length → (notesN rd ver qs k).length = k * m
  | 0, _ => by simp [notesN]
  | k + 1, h => by rw [notesN_snoc, List.length_append, notesN_len hm (by omega), probeN_len, hm _ (getD_mem (by omega)), Nat.add_mul, Nat.one_mul]
theorem notesN_get {rd ver : Int} {qs : List (List (List Int))} {m : Nat} (hm : ∀ q ∈ qs, q.length = m) (h0 : 0 < m) : ∀ {k i : Nat}, k ≤ qs.length → i < k * m → (notesN rd ver qs k)[i]?.getD default = ⟨1, rd, ((i / m : Nat) : Int), ((i % m : Nat) : Int) + 1, ver, (qs[i / m]?.getD default)[i % m]?.getD default, [], 0⟩
  | 0, i, _, h => by simp at h
  | k + 1, i, hk, h => by
    have hl := notesN_len (rd := rd) (ver := ver) hm (k := k) (by omega)
    have hq := hm _ (getD_mem (xs := qs) (k := k) (by omega))
    rw [notesN_snoc]
    by_cases hi : i < k * m
    · rw [List.getElem?_append_left (by omega)]
      exact notesN_get hm h0 (by omega) hi
    · rw [Nat.add_mul, Nat.one_mul] at h
      have e1 : i / m = k := by
        rw [Nat.div_eq_iff h0]; constructor
        · omega
        · omega
      have e2 : i % m = i - k * m := by
        have := Nat.div_add_mod i m
        rw [e1, Nat.mul_comm] at this; omega
      rw [List.getElem?_append_right (by omega), hl, hq, e1, e2]
      unfold probeN
      rw [List.getElem?_map, List.getElem?_range (by omega)]
      rfl
theorem notesN_le {rd ver : Int} {qs : List (List (List Int))} (hm : ∀ q ∈ qs, q.length ≤ 1000) : ∀ {k : Nat}, k ≤ qs.length → (notesN rd ver qs k).length ≤ k * 1000
  | 0, _ => by simp [notesN]
  | k + 1, h => by
    have h1 := notesN_le (rd := rd) (ver := ver) hm (k := k) (by omega)
    have h2 := hm _ (getD_mem (xs := qs) (k := k) (by omega))
    rw [notesN_snoc, List.length_append, probeN_len, Nat.add_mul]
    omega
/-- The servers whose answers have not come. -/
noncomputable def silN (l : List Ans) (k : Nat) : List Int := ((List.range k).filter fun (i : Nat) => decide (¬ (l[i]?.getD default).known)).map fun (i : Nat) => (i : Int) + 1
theorem silN_len (l : List Ans) (k : Nat) : (silN l k).length ≤ k := by
  unfold silN; rw [List.length_map]
  exact Nat.le_trans (List.length_filter_le _ _) (by simp)
theorem silN_snoc (l : List Ans) (k : Nat) : silN l (k + 1) = if (l[k]?.getD default).known then silN l k else silN l k ++ [(k : Int) + 1] := by
  unfold silN
  rw [List.range_succ, List.filter_append, List.map_append]
  split
  · rename_i h; simp [h]
  · rename_i h; simp [h]
noncomputable def silR (r : Rdr) (k : Int) : List Int := if k < 0 ∨ k ≥ r.answers.length then [] else silN (r.answers[k.toNat]?.getD default) (r.answers[k.toNat]?.getD default).length
end Go.Q

namespace Go.Q
variable {P : Program} {N : Nat} {g : G} {M : List Res}
variable {dst : Tmp} {ty : TypeId} {pos : String} {after : Array Edge} {gd : Option (Nat × Bool)} {x y : Operand}

/-- A new block that becomes a row that no longer changes. -/
theorem LocM.frzB {o : Oper} {T n : Nat} {α : Type} {f' : α → List D} {xs : List α} {Fv : Nat → Value} {r : Nat → Res} (h : LocM P o g N [] (fun _ : Nat => True) (fun b => dVal (Fv b)) (fun b => [r b]))
    (hr : ∀ b I F w, Inv I (r b :: F) w → Inv I (rRow (Fv b) T n f' xs :: F) w) : LocP P o g N M (dSl n f' xs) := by
  constructor
  intro I a w K Q hs hi hK
  refine h.go M I a w K Q hs hi fun v u w' J _ h1 h2 h3 => ?_
  obtain ⟨J', h4, h5, h6⟩ := row_freeze (hr _ _ _ _ h3)
  refine hK u w' J' (h1.trans h4) ?_ h6
  rw [show u = Fv v from h2]
  exact h5
theorem loc_makeFrz {t e : TypeId} [ht : TySl P t e] {bytes : Nat} {z : Value} [hz : TyZ P e bytes z] [hv : TyV P e false 1] {m : Int} (hx : opd g x = some (dInt .i64 m)) (hy : opd g y = some (dInt .i64 m)) (hm : 0 ≤ m ∧ m ≤ 17592186044416) (hb : m * bytes ≤ 281474976710656)
    {α : Type} (d : α → D) (e0 : α) (he : zeroDs z = [d e0]) (hzt : ∀ vs, z ≠ .tuple vs) : LocP P ⟨some dst, .makeSlice t x y, ty, pos, after, gd⟩ g N M (dSl 1 (fun e => [d e]) (List.replicate m.toNat e0)) :=
  (loc_makeSlice hx hy hm hb d e0 he hzt).frzB (fun b I F w h => h)
theorem inv_bufUp {b T n : Nat} {els els' : List (List D)} {I : Imm} {F : List Res} {w : World} (h2 : Inv I (rBuf b T n els :: F) w) (hl : ∀ e ∈ els', e.length = n) (hup : ∀ J vs, relL els.flatten J vs → relL els'.flatten J vs) : Inv I (rBuf b T n els' :: F) w := by
  refine ⟨h2.os, h2.tape, h2.output, h2.imm, fun r hr => ?_, h2.apart⟩
  rcases List.mem_cons.1 hr with rfl | hr
  · obtain ⟨hb, o, h3, cs, h4, h5, h6⟩ := h2.own _ (List.mem_cons_self ..)
    exact ⟨hb, o, h3, cs, h4, hl, hup _ _ h6⟩
  · exact h2.own r (List.mem_cons_of_mem _ hr)
theorem loc_makeFrzN {t e n : Nat} {ag : Bool} [ht : TySl P t e] {bytes : Nat} {z : Value} [hz : TyZ P e bytes z] [hv : TyV P e ag n] {k : Int} {m : Nat} (hx : opd g x = some (dInt .i64 k)) (hy : opd g y = some (dInt .i64 k)) (hk : k = (m : Nat)) (hm : 0 < m ∧ m ≤ 17592186044416) (hb : (m : Int) * bytes ≤ 281474976710656)
    (hl : Nat.beq (zeroDs z).length n = true) (h0 : 0 < n) (hzt : ∀ vs, z ≠ .tuple vs) {α : Type} (f' : α → List D) (e0 : α) (hup : ∀ J vs, relL (zeroDs z) J vs → relL (f' e0) J vs) (hfl : (f' e0).length = n) :
    LocP P ⟨some dst, .makeSlice t x y, ty, pos, after, gd⟩ g N M (dSl n f' (List.replicate m e0)) := by
  subst hk
  have hml : m ≤ maxLen ∧ m ≤ lenMax := by unfold maxLen lenMax; omega
  refine (loc_makeSliceN hx hy hm hb hl h0 hzt).frzB (T := e) (fun b I F w h => ?_)
  have h1 := inv_bufUp (els' := (List.replicate m e0).map f') h (fun q hq => by obtain ⟨_, hr, rfl⟩ := List.mem_map.1 hq; rw [List.eq_of_mem_replicate hr]; exact hfl) (by
    rw [List.map_replicate]
    exact fun J vs hv => relL_repUp hup (by rw [hfl]; exact Nat.eq_of_beq_eq_true hl) m J vs hv)
  exact inv_shut h1 (els' := []) (by simp) (by simp) (by simp) hml.1 (by simpa using hml.2)
/-- An element-wise weaker row. -/
theorem d_slUp {α β : Type} {n : Nat} {f : α → List D} {h : β → List D} {xs : List α} {ys : List β} (hl : xs.length = ys.length) (he : ∀ (i : Nat) (x : α) (y : β), xs[i]? = some x → ys[i]? = some y → (h y).length = n ∧ ∀ I vs, relL (f x) I vs → relL (h y) I vs) : ∀ I v, (dSl n f xs).rel I v → (dSl n h ys).rel I v := by
  rintro I v ⟨a, cap, e, h1, h2, h3, h4⟩
  refine ⟨a, cap, by rw [e, hl], by omega, h2, by omega, fun i y hy => ?_⟩
  have hi : i < ys.length := (List.getElem?_eq_some_iff.1 hy).1
  have hx : xs[i]? = some (xs[i]'(by omega)) := List.getElem?_eq_getElem (by omega)
  obtain ⟨h5, p, h6, h7, h8⟩ := h4 i _ hx
  obtain ⟨h9, h10⟩ := he i _ _ hx hy
  refine ⟨h9, p, h6, h7, ?_⟩
  obtain ⟨h11, cs, T, fz, h12, h13⟩ := h8
  exact ⟨h11, cs, T, fz, h12, by rw [show (h y).length = (f xs[i]).length from h9.trans h5.symm]; exact h10 _ _ h13⟩
end Go.Q
