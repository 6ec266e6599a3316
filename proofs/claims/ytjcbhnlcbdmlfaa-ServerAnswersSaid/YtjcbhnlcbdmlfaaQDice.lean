/- Contracts of schemes. -/
import Derived.Test.YtjcbhnlcbdmlfaaQMap
import Derived.Test.YtjcbhnlcbdmlfaaQLib
import Derived.Test.YtjcbhnlcbdmlfaaQBy
set_option linter.unusedVariables false
set_option linter.unusedSimpArgs false
namespace Go.Q
open Go.Proofs

open Classical
theorem within_spec (n lo hi : Int) : SpecP Try.prog 51 [dInt .i64 n, dInt .i64 lo, dInt .i64 hi] (dB (lo ≤ n ∧ n ≤ hi)) := by
  refine specP_of_body Try.func51 rfl rfl (fun I M => ?_)
  refine run_seq ?_
  refine run_region ?_
  refine run_op (loc_assign rfl) rfl ?_
  refine run_nil ?_
  refine run_seq ?_
  refine run_region ?_
  refine run_op (loc_move rfl) rfl ?_
  refine run_op (loc_move rfl) rfl ?_
  refine run_op (loc_geq rfl rfl) rfl ?_
  refine run_op (loc_move rfl) rfl ?_
  refine run_gfirst rfl rfl (by first | exact guard_true _ | exact guard_false _ | exact guard_if (guard_true _) | exact guard_if (guard_false _)) (fun hg => loc_move rfl) rfl ?_
  refine run_gop rfl rfl (by first | exact guard_true _ | exact guard_false _ | exact guard_if (guard_true _) | exact guard_if (guard_false _)) (fun hg => loc_move rfl) rfl ?_
  refine run_gop rfl rfl (by first | exact guard_true _ | exact guard_false _ | exact guard_if (guard_true _) | exact guard_if (guard_false _)) (fun hg => loc_leq rfl rfl) rfl ?_
  refine run_gleave ?_
  refine run_op (loc_and rfl rfl) rfl ?_
  refine run_op (loc_assign rfl) rfl ?_
  refine run_nil ?_
  refine run_retP Try.func51 rfl rfl ?_
  exact d_B (by constructor <;> (intro h; omega))

theorem shape_spec (s : Schm) : SpecP Try.prog 26 [dSchm s] (dB (shapeS s)) := by
  refine specP_of_body Try.func26 rfl rfl (fun I M => ?_)
  refine run_seq ?_
  refine run_region ?_
  refine run_op (loc_boxN rfl) rfl ?_
  refine run_op (loc_assign rfl) rfl ?_
  refine run_nil ?_
  refine run_seq ?_
  refine run_seq ?_
  refine run_region ?_
  refine run_op (loc_fieldAddr rfl) rfl ?_
  refine run_op (loc_load1 rfl) rfl ?_
  refine run_op (loc_call (within_spec _ _ _) rfl) rfl ?_
  refine run_op (loc_not rfl) rfl ?_
  refine run_nil ?_
  refine run_cond rfl (fun h1 => ?_) (fun h1 => ?_)
  ·
    have c1 := h1
    refine run_seq ?_
    refine run_region ?_
    refine run_op (loc_assign rfl) rfl ?_
    refine run_nil ?_
    refine run_retP Try.func26 rfl rfl ?_
    exact d_B ⟨False.elim, fun h => by have := shape_bd h; omega⟩
  ·
    have c1 := h1
    refine run_skip ?_
    refine run_seq ?_
    refine run_seq ?_
    refine run_region ?_
    refine run_op (loc_fieldAddr rfl) rfl ?_
    refine run_op (loc_load1 rfl) rfl ?_
    refine run_nil ?_
    refine run_block ?_
    refine run_seq ?_
    refine run_region ?_
    refine run_op (loc_eql rfl rfl) rfl ?_
    refine run_op (loc_assign rfl) rfl ?_
    refine run_nil ?_
    refine run_cond rfl (fun h2 => ?_) (fun h2 => ?_)
    ·
      refine run_seq ?_
      refine run_region ?_
      refine run_op (loc_fieldAddr rfl) rfl ?_
      refine run_op (loc_load1 rfl) rfl ?_
      refine run_op (loc_eql rfl rfl) rfl ?_
      refine run_op (loc_move rfl) rfl ?_
      refine run_gfirst rfl rfl (by first | exact guard_true _ | exact guard_false _ | exact guard_if (guard_true _) | exact guard_if (guard_false _)) (fun hg => loc_fieldAddr rfl) rfl ?_
      refine run_gop rfl rfl (by first | exact guard_true _ | exact guard_false _ | exact guard_if (guard_true _) | exact guard_if (guard_false _)) (fun hg => loc_load1 rfl) rfl ?_
      refine run_gop rfl rfl (by first | exact guard_true _ | exact guard_false _ | exact guard_if (guard_true _) | exact guard_if (guard_false _)) (fun hg => loc_eql rfl rfl) rfl ?_
      refine run_gleave ?_
      refine run_op (loc_and rfl rfl) rfl ?_
      refine run_op (loc_assign rfl) rfl ?_
      refine run_nil ?_
      refine run_retP Try.func26 rfl rfl ?_
      exact d_B (by unfold shapeS; constructor <;> (intro h; omega))
    ·
      refine run_seq ?_
      refine run_region ?_
      refine run_op (loc_eql rfl rfl) rfl ?_
      refine run_op (loc_assign rfl) rfl ?_
      refine run_nil ?_
      refine run_cond rfl (fun h3 => ?_) (fun h3 => ?_)
      ·
        refine run_seq ?_
        refine run_region ?_
        refine run_op (loc_fieldAddr rfl) rfl ?_
        refine run_op (loc_load1 rfl) rfl ?_
        refine run_op (loc_fieldAddr rfl) rfl ?_
        refine run_op (loc_load1 rfl) rfl ?_
        first | refine run_op (loc_sub rfl rfl (by first | omega | assumption)) rfl ?_ | refine run_op (loc_subW rfl rfl) rfl ?_
        refine run_op (loc_call (within_spec _ _ _) rfl) rfl ?_
        refine run_op (loc_move rfl) rfl ?_
        refine run_gfirst rfl rfl (by first | exact guard_true _ | exact guard_false _ | exact guard_if (guard_true _) | exact guard_if (guard_false _)) (fun hg => loc_fieldAddr rfl) rfl ?_
        refine run_gop rfl rfl (by first | exact guard_true _ | exact guard_false _ | exact guard_if (guard_true _) | exact guard_if (guard_false _)) (fun hg => loc_load1 rfl) rfl ?_
        refine run_gop rfl rfl (by first | exact guard_true _ | exact guard_false _ | exact guard_if (guard_true _) | exact guard_if (guard_false _)) (fun hg => loc_eql rfl rfl) rfl ?_
        refine run_gleave ?_
        refine run_op (loc_and rfl rfl) rfl ?_
        refine run_op (loc_assign rfl) rfl ?_
        refine run_nil ?_
        refine run_retP Try.func26 rfl rfl ?_
        exact d_B (by unfold shapeS; constructor <;> (intro h; omega))
      ·
        refine run_seq ?_
        refine run_region ?_
        refine run_op (loc_eql rfl rfl) rfl ?_
        refine run_op (loc_assign rfl) rfl ?_
        refine run_nil ?_
        refine run_cond rfl (fun h4 => ?_) (fun h4 => ?_)
        ·
          refine run_seq ?_
          have hbd : (2 ≤ s.servers ∧ s.servers ≤ 10) := by omega
          refine run_region ?_
          refine run_op (loc_fieldAddr rfl) rfl ?_
          refine run_op (loc_load1 rfl) rfl ?_
          refine run_op (loc_fieldAddr rfl) rfl ?_
          refine run_op (loc_load1 rfl) rfl ?_
          refine run_op (loc_call (within_spec _ _ _) rfl) rfl ?_
          refine run_op (loc_move rfl) rfl ?_
          refine run_gfirst rfl rfl (by first | exact guard_true _ | exact guard_false _ | exact guard_if (guard_true _) | exact guard_if (guard_false _)) (fun hg => loc_fieldAddr rfl) rfl ?_
          refine run_gop rfl rfl (by first | exact guard_true _ | exact guard_false _ | exact guard_if (guard_true _) | exact guard_if (guard_false _)) (fun hg => loc_load1 rfl) rfl ?_
          refine run_gop rfl rfl (by first | exact guard_true _ | exact guard_false _ | exact guard_if (guard_true _) | exact guard_if (guard_false _)) (fun hg => loc_fieldAddr rfl) rfl ?_
          refine run_gop rfl rfl (by first | exact guard_true _ | exact guard_false _ | exact guard_if (guard_true _) | exact guard_if (guard_false _)) (fun hg => loc_load1 rfl) rfl ?_
          refine run_gop rfl rfl (by first | exact guard_true _ | exact guard_false _ | exact guard_if (guard_true _) | exact guard_if (guard_false _)) (fun hg => loc_call (within_spec _ _ _) rfl) rfl ?_
          refine run_gleave ?_
          refine run_op (loc_and rfl rfl) rfl ?_
          refine run_op (loc_move rfl) rfl ?_
          refine run_gfirst rfl rfl (by first | exact guard_true _ | exact guard_false _ | exact guard_if (guard_true _) | exact guard_if (guard_false _)) (fun hg => loc_fieldAddr rfl) rfl ?_
          refine run_gop rfl rfl (by first | exact guard_true _ | exact guard_false _ | exact guard_if (guard_true _) | exact guard_if (guard_false _)) (fun hg => loc_load1 rfl) rfl ?_
          first | refine run_gop rfl rfl (by first | exact guard_true _ | exact guard_false _ | exact guard_if (guard_true _) | exact guard_if (guard_false _)) (fun hg => loc_mul rfl rfl (by first | omega | assumption)) rfl ?_ | refine run_gop rfl rfl (by first | exact guard_true _ | exact guard_false _ | exact guard_if (guard_true _) | exact guard_if (guard_false _)) (fun hg => loc_mulW rfl rfl) rfl ?_
          refine run_gop rfl rfl (by first | exact guard_true _ | exact guard_false _ | exact guard_if (guard_true _) | exact guard_if (guard_false _)) (fun hg => loc_fieldAddr rfl) rfl ?_
          refine run_gop rfl rfl (by first | exact guard_true _ | exact guard_false _ | exact guard_if (guard_true _) | exact guard_if (guard_false _)) (fun hg => loc_load1 rfl) rfl ?_
          first | refine run_gop rfl rfl (by first | exact guard_true _ | exact guard_false _ | exact guard_if (guard_true _) | exact guard_if (guard_false _)) (fun hg => loc_add rfl rfl (by first | omega | assumption)) rfl ?_ | refine run_gop rfl rfl (by first | exact guard_true _ | exact guard_false _ | exact guard_if (guard_true _) | exact guard_if (guard_false _)) (fun hg => loc_addW rfl rfl) rfl ?_
          first | refine run_gop rfl rfl (by first | exact guard_true _ | exact guard_false _ | exact guard_if (guard_true _) | exact guard_if (guard_false _)) (fun hg => loc_sub rfl rfl (by first | omega | assumption)) rfl ?_ | refine run_gop rfl rfl (by first | exact guard_true _ | exact guard_false _ | exact guard_if (guard_true _) | exact guard_if (guard_false _)) (fun hg => loc_subW rfl rfl) rfl ?_
          refine run_gop rfl rfl (by first | exact guard_true _ | exact guard_false _ | exact guard_if (guard_true _) | exact guard_if (guard_false _)) (fun hg => loc_fieldAddr rfl) rfl ?_
          refine run_gop rfl rfl (by first | exact guard_true _ | exact guard_false _ | exact guard_if (guard_true _) | exact guard_if (guard_false _)) (fun hg => loc_load1 rfl) rfl ?_
          refine run_gop rfl rfl (by first | exact guard_true _ | exact guard_false _ | exact guard_if (guard_true _) | exact guard_if (guard_false _)) (fun hg => loc_leq rfl rfl) rfl ?_
          refine run_gleave ?_
          refine run_op (loc_and rfl rfl) rfl ?_
          refine run_op (loc_assign rfl) rfl ?_
          refine run_nil ?_
          refine run_retP Try.func26 rfl rfl ?_
          exact d_B (by unfold shapeS; constructor <;> (intro h; omega))
        ·
          refine run_skip ?_
          refine run_inBlock ?_
          refine run_seq ?_
          refine run_region ?_
          refine run_op (loc_assign rfl) rfl ?_
          refine run_nil ?_
          refine run_retP Try.func26 rfl rfl ?_
          exact d_B ⟨False.elim, fun h => by have := shape_kind h; omega⟩

theorem rshape_spec (s : Schm) : SpecP Try.prog 73 [dSchm s] (dB (shapeS s)) := by
  refine specP_of_body Try.func73 rfl rfl (fun I M => ?_)
  refine run_seq ?_
  refine run_region ?_
  refine run_op (loc_boxN rfl) rfl ?_
  refine run_op (loc_assign rfl) rfl ?_
  refine run_nil ?_
  refine run_seq ?_
  refine run_seq ?_
  refine run_region ?_
  refine run_op (loc_fieldAddr rfl) rfl ?_
  refine run_op (loc_load1 rfl) rfl ?_
  refine run_op (loc_lss rfl rfl) rfl ?_
  refine run_op (loc_move rfl) rfl ?_
  refine run_gfirst rfl rfl (by first | exact guard_true _ | exact guard_false _ | exact guard_if (guard_true _) | exact guard_if (guard_false _)) (fun hg => loc_fieldAddr rfl) rfl ?_
  refine run_gop rfl rfl (by first | exact guard_true _ | exact guard_false _ | exact guard_if (guard_true _) | exact guard_if (guard_false _)) (fun hg => loc_load1 rfl) rfl ?_
  refine run_gop rfl rfl (by first | exact guard_true _ | exact guard_false _ | exact guard_if (guard_true _) | exact guard_if (guard_false _)) (fun hg => loc_gtr rfl rfl) rfl ?_
  refine run_gleave ?_
  refine run_op (loc_or rfl rfl) rfl ?_
  refine run_nil ?_
  refine run_cond rfl (fun h1 => ?_) (fun h1 => ?_)
  ·
    have c1 := h1
    refine run_seq ?_
    refine run_region ?_
    refine run_op (loc_assign rfl) rfl ?_
    refine run_nil ?_
    refine run_retP Try.func73 rfl rfl ?_
    exact d_B ⟨False.elim, fun h => by have := shape_bd h; omega⟩
  ·
    have c1 := h1
    refine run_skip ?_
    refine run_seq ?_
    refine run_seq ?_
    refine run_region ?_
    refine run_op (loc_fieldAddr rfl) rfl ?_
    refine run_op (loc_load1 rfl) rfl ?_
    refine run_nil ?_
    refine run_block ?_
    refine run_seq ?_
    refine run_region ?_
    refine run_op (loc_eql rfl rfl) rfl ?_
    refine run_op (loc_assign rfl) rfl ?_
    refine run_nil ?_
    refine run_cond rfl (fun h2 => ?_) (fun h2 => ?_)
    ·
      refine run_seq ?_
      refine run_region ?_
      refine run_op (loc_fieldAddr rfl) rfl ?_
      refine run_op (loc_load1 rfl) rfl ?_
      refine run_op (loc_eql rfl rfl) rfl ?_
      refine run_op (loc_move rfl) rfl ?_
      refine run_gfirst rfl rfl (by first | exact guard_true _ | exact guard_false _ | exact guard_if (guard_true _) | exact guard_if (guard_false _)) (fun hg => loc_fieldAddr rfl) rfl ?_
      refine run_gop rfl rfl (by first | exact guard_true _ | exact guard_false _ | exact guard_if (guard_true _) | exact guard_if (guard_false _)) (fun hg => loc_load1 rfl) rfl ?_
      refine run_gop rfl rfl (by first | exact guard_true _ | exact guard_false _ | exact guard_if (guard_true _) | exact guard_if (guard_false _)) (fun hg => loc_eql rfl rfl) rfl ?_
      refine run_gleave ?_
      refine run_op (loc_and rfl rfl) rfl ?_
      refine run_op (loc_assign rfl) rfl ?_
      refine run_nil ?_
      refine run_retP Try.func73 rfl rfl ?_
      exact d_B (by unfold shapeS; constructor <;> (intro h; omega))
    ·
      refine run_seq ?_
      refine run_region ?_
      refine run_op (loc_eql rfl rfl) rfl ?_
      refine run_op (loc_assign rfl) rfl ?_
      refine run_nil ?_
      refine run_cond rfl (fun h3 => ?_) (fun h3 => ?_)
      ·
        refine run_seq ?_
        refine run_region ?_
        refine run_op (loc_fieldAddr rfl) rfl ?_
        refine run_op (loc_load1 rfl) rfl ?_
        refine run_op (loc_geq rfl rfl) rfl ?_
        refine run_op (loc_move rfl) rfl ?_
        refine run_gfirst rfl rfl (by first | exact guard_true _ | exact guard_false _ | exact guard_if (guard_true _) | exact guard_if (guard_false _)) (fun hg => loc_fieldAddr rfl) rfl ?_
        refine run_gop rfl rfl (by first | exact guard_true _ | exact guard_false _ | exact guard_if (guard_true _) | exact guard_if (guard_false _)) (fun hg => loc_load1 rfl) rfl ?_
        refine run_gop rfl rfl (by first | exact guard_true _ | exact guard_false _ | exact guard_if (guard_true _) | exact guard_if (guard_false _)) (fun hg => loc_fieldAddr rfl) rfl ?_
        refine run_gop rfl rfl (by first | exact guard_true _ | exact guard_false _ | exact guard_if (guard_true _) | exact guard_if (guard_false _)) (fun hg => loc_load1 rfl) rfl ?_
        first | refine run_gop rfl rfl (by first | exact guard_true _ | exact guard_false _ | exact guard_if (guard_true _) | exact guard_if (guard_false _)) (fun hg => loc_sub rfl rfl (by first | omega | assumption)) rfl ?_ | refine run_gop rfl rfl (by first | exact guard_true _ | exact guard_false _ | exact guard_if (guard_true _) | exact guard_if (guard_false _)) (fun hg => loc_subW rfl rfl) rfl ?_
        refine run_gop rfl rfl (by first | exact guard_true _ | exact guard_false _ | exact guard_if (guard_true _) | exact guard_if (guard_false _)) (fun hg => loc_leq rfl rfl) rfl ?_
        refine run_gleave ?_
        refine run_op (loc_and rfl rfl) rfl ?_
        refine run_op (loc_move rfl) rfl ?_
        refine run_gfirst rfl rfl (by first | exact guard_true _ | exact guard_false _ | exact guard_if (guard_true _) | exact guard_if (guard_false _)) (fun hg => loc_fieldAddr rfl) rfl ?_
        refine run_gop rfl rfl (by first | exact guard_true _ | exact guard_false _ | exact guard_if (guard_true _) | exact guard_if (guard_false _)) (fun hg => loc_load1 rfl) rfl ?_
        refine run_gop rfl rfl (by first | exact guard_true _ | exact guard_false _ | exact guard_if (guard_true _) | exact guard_if (guard_false _)) (fun hg => loc_eql rfl rfl) rfl ?_
        refine run_gleave ?_
        refine run_op (loc_and rfl rfl) rfl ?_
        refine run_op (loc_assign rfl) rfl ?_
        refine run_nil ?_
        refine run_retP Try.func73 rfl rfl ?_
        exact d_B (by unfold shapeS; constructor <;> (intro h; omega))
      ·
        refine run_seq ?_
        refine run_region ?_
        refine run_op (loc_eql rfl rfl) rfl ?_
        refine run_op (loc_assign rfl) rfl ?_
        refine run_nil ?_
        refine run_cond rfl (fun h4 => ?_) (fun h4 => ?_)
        ·
          refine run_seq ?_
          refine run_region ?_
          refine run_op (loc_fieldAddr rfl) rfl ?_
          refine run_op (loc_load1 rfl) rfl ?_
          refine run_op (loc_geq rfl rfl) rfl ?_
          refine run_op (loc_move rfl) rfl ?_
          refine run_gfirst rfl rfl (by first | exact guard_true _ | exact guard_false _ | exact guard_if (guard_true _) | exact guard_if (guard_false _)) (fun hg => loc_fieldAddr rfl) rfl ?_
          refine run_gop rfl rfl (by first | exact guard_true _ | exact guard_false _ | exact guard_if (guard_true _) | exact guard_if (guard_false _)) (fun hg => loc_load1 rfl) rfl ?_
          refine run_gop rfl rfl (by first | exact guard_true _ | exact guard_false _ | exact guard_if (guard_true _) | exact guard_if (guard_false _)) (fun hg => loc_geq rfl rfl) rfl ?_
          refine run_gleave ?_
          refine run_op (loc_and rfl rfl) rfl ?_
          refine run_op (loc_move rfl) rfl ?_
          refine run_gfirst rfl rfl (by first | exact guard_true _ | exact guard_false _ | exact guard_if (guard_true _) | exact guard_if (guard_false _)) (fun hg => loc_fieldAddr rfl) rfl ?_
          refine run_gop rfl rfl (by first | exact guard_true _ | exact guard_false _ | exact guard_if (guard_true _) | exact guard_if (guard_false _)) (fun hg => loc_load1 rfl) rfl ?_
          refine run_gop rfl rfl (by first | exact guard_true _ | exact guard_false _ | exact guard_if (guard_true _) | exact guard_if (guard_false _)) (fun hg => loc_leq rfl rfl) rfl ?_
          refine run_gleave ?_
          refine run_op (loc_and rfl rfl) rfl ?_
          refine run_op (loc_move rfl) rfl ?_
          refine run_gfirst rfl rfl (by first | exact guard_true _ | exact guard_false _ | exact guard_if (guard_true _) | exact guard_if (guard_false _)) (fun hg => loc_fieldAddr rfl) rfl ?_
          refine run_gop rfl rfl (by first | exact guard_true _ | exact guard_false _ | exact guard_if (guard_true _) | exact guard_if (guard_false _)) (fun hg => loc_load1 rfl) rfl ?_
          refine run_gop rfl rfl (by first | exact guard_true _ | exact guard_false _ | exact guard_if (guard_true _) | exact guard_if (guard_false _)) (fun hg => loc_leq rfl rfl) rfl ?_
          refine run_gleave ?_
          refine run_op (loc_and rfl rfl) rfl ?_
          refine run_op (loc_move rfl) rfl ?_
          refine run_gfirst rfl rfl (by first | exact guard_true _ | exact guard_false _ | exact guard_if (guard_true _) | exact guard_if (guard_false _)) (fun hg => loc_fieldAddr rfl) rfl ?_
          refine run_gop rfl rfl (by first | exact guard_true _ | exact guard_false _ | exact guard_if (guard_true _) | exact guard_if (guard_false _)) (fun hg => loc_load1 rfl) rfl ?_
          first | refine run_gop rfl rfl (by first | exact guard_true _ | exact guard_false _ | exact guard_if (guard_true _) | exact guard_if (guard_false _)) (fun hg => loc_mul rfl rfl (by first | omega | assumption)) rfl ?_ | refine run_gop rfl rfl (by first | exact guard_true _ | exact guard_false _ | exact guard_if (guard_true _) | exact guard_if (guard_false _)) (fun hg => loc_mulW rfl rfl) rfl ?_
          refine run_gop rfl rfl (by first | exact guard_true _ | exact guard_false _ | exact guard_if (guard_true _) | exact guard_if (guard_false _)) (fun hg => loc_fieldAddr rfl) rfl ?_
          refine run_gop rfl rfl (by first | exact guard_true _ | exact guard_false _ | exact guard_if (guard_true _) | exact guard_if (guard_false _)) (fun hg => loc_load1 rfl) rfl ?_
          first | refine run_gop rfl rfl (by first | exact guard_true _ | exact guard_false _ | exact guard_if (guard_true _) | exact guard_if (guard_false _)) (fun hg => loc_add rfl rfl (by first | omega | assumption)) rfl ?_ | refine run_gop rfl rfl (by first | exact guard_true _ | exact guard_false _ | exact guard_if (guard_true _) | exact guard_if (guard_false _)) (fun hg => loc_addW rfl rfl) rfl ?_
          first | refine run_gop rfl rfl (by first | exact guard_true _ | exact guard_false _ | exact guard_if (guard_true _) | exact guard_if (guard_false _)) (fun hg => loc_sub rfl rfl (by first | omega | assumption)) rfl ?_ | refine run_gop rfl rfl (by first | exact guard_true _ | exact guard_false _ | exact guard_if (guard_true _) | exact guard_if (guard_false _)) (fun hg => loc_subW rfl rfl) rfl ?_
          refine run_gop rfl rfl (by first | exact guard_true _ | exact guard_false _ | exact guard_if (guard_true _) | exact guard_if (guard_false _)) (fun hg => loc_fieldAddr rfl) rfl ?_
          refine run_gop rfl rfl (by first | exact guard_true _ | exact guard_false _ | exact guard_if (guard_true _) | exact guard_if (guard_false _)) (fun hg => loc_load1 rfl) rfl ?_
          refine run_gop rfl rfl (by first | exact guard_true _ | exact guard_false _ | exact guard_if (guard_true _) | exact guard_if (guard_false _)) (fun hg => loc_leq rfl rfl) rfl ?_
          refine run_gleave ?_
          refine run_op (loc_and rfl rfl) rfl ?_
          refine run_op (loc_assign rfl) rfl ?_
          refine run_nil ?_
          refine run_retP Try.func73 rfl rfl ?_
          exact d_B (by unfold shapeS; constructor <;> (intro h; omega))
        ·
          refine run_skip ?_
          refine run_inBlock ?_
          refine run_seq ?_
          refine run_region ?_
          refine run_op (loc_assign rfl) rfl ?_
          refine run_nil ?_
          refine run_retP Try.func73 rfl rfl ?_
          exact d_B ⟨False.elim, fun h => by have := shape_kind h; omega⟩

theorem valid_spec (s : Schm) (p : Int) : SpecP Try.prog 30 [dSchm s, dAgg [dInt .i64 p]] (dB (validS s p)) := by
  refine specP_of_body Try.func30 rfl rfl (fun I M => ?_)
  refine run_seq ?_
  refine run_region ?_
  refine run_op (loc_boxN rfl) rfl ?_
  refine run_op (loc_boxN rfl) rfl ?_
  refine run_op (loc_assign rfl) rfl ?_
  refine run_nil ?_
  refine run_seq ?_
  refine run_region ?_
  refine run_op (loc_loadN rfl rfl) rfl ?_
  refine run_op (loc_call (shape_spec _) rfl) rfl ?_
  refine run_op (loc_move rfl) rfl ?_
  refine run_gfirst rfl rfl (by first | exact guard_true _ | exact guard_false _ | exact guard_if (guard_true _) | exact guard_if (guard_false _)) (fun hg => loc_loadN rfl rfl) rfl ?_
  refine run_gop rfl rfl (by first | exact guard_true _ | exact guard_false _ | exact guard_if (guard_true _) | exact guard_if (guard_false _)) (fun hg => loc_call (fcheck_spec _) rfl) rfl ?_
  refine run_gop rfl rfl (by first | exact guard_true _ | exact guard_false _ | exact guard_if (guard_true _) | exact guard_if (guard_false _)) (fun hg => loc_eql rfl rfl) rfl ?_
  refine run_gleave ?_
  refine run_op (loc_and rfl rfl) rfl ?_
  refine run_op (loc_move rfl) rfl ?_
  refine run_gfirst rfl rfl (by first | exact guard_true _ | exact guard_false _ | exact guard_if (guard_true _) | exact guard_if (guard_false _)) (fun hg => loc_fieldAddr rfl) rfl ?_
  refine run_gop rfl rfl (by first | exact guard_true _ | exact guard_false _ | exact guard_if (guard_true _) | exact guard_if (guard_false _)) (fun hg => loc_load1 rfl) rfl ?_
  refine run_gop rfl rfl (by first | exact guard_true _ | exact guard_false _ | exact guard_if (guard_true _) | exact guard_if (guard_false _)) (fun hg => loc_eql rfl rfl) rfl ?_
  refine run_gop rfl rfl (by first | exact guard_true _ | exact guard_false _ | exact guard_if (guard_true _) | exact guard_if (guard_false _)) (fun hg => loc_move rfl) rfl ?_
  refine run_gleave ?_
  refine run_gfirst rfl rfl (by first | exact guard_true _ | exact guard_false _ | exact guard_if (guard_true _) | exact guard_if (guard_false _)) (fun hg => loc_fieldAddr rfl) rfl ?_
  refine run_gop rfl rfl (by first | exact guard_true _ | exact guard_false _ | exact guard_if (guard_true _) | exact guard_if (guard_false _)) (fun hg => loc_load1 rfl) rfl ?_
  refine run_gop rfl rfl (by first | exact guard_true _ | exact guard_false _ | exact guard_if (guard_true _) | exact guard_if (guard_false _)) (fun hg => loc_fieldAddr rfl) rfl ?_
  refine run_gop rfl rfl (by first | exact guard_true _ | exact guard_false _ | exact guard_if (guard_true _) | exact guard_if (guard_false _)) (fun hg => loc_load1 rfl) rfl ?_
  refine run_gop rfl rfl (by first | exact guard_true _ | exact guard_false _ | exact guard_if (guard_true _) | exact guard_if (guard_false _)) (fun hg => loc_lss rfl rfl) rfl ?_
  refine run_gleave ?_
  first | refine run_gfirst rfl rfl (by first | exact guard_true _ | exact guard_false _ | exact guard_if (guard_true _) | exact guard_if (guard_false _)) (fun hg => loc_or rfl rfl) rfl ?_ | refine run_gfirst rfl rfl (by first | exact guard_true _ | exact guard_false _ | exact guard_if (guard_true _) | exact guard_if (guard_false _)) (fun hg => loc_orG hg rfl rfl) rfl ?_ | refine run_gfirst rfl rfl (by first | exact guard_true _ | exact guard_false _ | exact guard_if (guard_true _) | exact guard_if (guard_false _)) (fun hg => loc_orH hg rfl rfl) rfl ?_
  refine run_gleave ?_
  refine run_op (loc_and rfl rfl) rfl ?_
  refine run_op (loc_assign rfl) rfl ?_
  refine run_nil ?_
  refine run_retP Try.func30 rfl rfl ?_
  exact d_B (by unfold validS; rw [errP_zero]; constructor; (· rintro ⟨⟨a, b⟩, c⟩; exact ⟨a, b, c⟩); (· rintro ⟨a, b, c⟩; exact ⟨⟨a, b⟩, c⟩))

theorem rvalid_spec (s : Schm) (p : Int) : SpecP Try.prog 41 [dSchm s, dAgg [dInt .i64 p]] (dB (validS s p)) := by
  refine specP_of_body Try.func41 rfl rfl (fun I M => ?_)
  refine run_seq ?_
  refine run_region ?_
  refine run_op (loc_boxN rfl) rfl ?_
  refine run_op (loc_boxN rfl) rfl ?_
  refine run_op (loc_assign rfl) rfl ?_
  refine run_nil ?_
  refine run_seq ?_
  refine run_region ?_
  refine run_op (loc_loadN rfl rfl) rfl ?_
  refine run_op (loc_call (rshape_spec _) rfl) rfl ?_
  refine run_op (loc_move rfl) rfl ?_
  refine run_gfirst rfl rfl (by first | exact guard_true _ | exact guard_false _ | exact guard_if (guard_true _) | exact guard_if (guard_false _)) (fun hg => loc_loadN rfl rfl) rfl ?_
  refine run_gop rfl rfl (by first | exact guard_true _ | exact guard_false _ | exact guard_if (guard_true _) | exact guard_if (guard_false _)) (fun hg => loc_call (rcheck3_spec _) rfl) rfl ?_
  refine run_gop rfl rfl (by first | exact guard_true _ | exact guard_false _ | exact guard_if (guard_true _) | exact guard_if (guard_false _)) (fun hg => loc_eql rfl rfl) rfl ?_
  refine run_gleave ?_
  refine run_op (loc_and rfl rfl) rfl ?_
  refine run_op (loc_move rfl) rfl ?_
  refine run_gfirst rfl rfl (by first | exact guard_true _ | exact guard_false _ | exact guard_if (guard_true _) | exact guard_if (guard_false _)) (fun hg => loc_fieldAddr rfl) rfl ?_
  refine run_gop rfl rfl (by first | exact guard_true _ | exact guard_false _ | exact guard_if (guard_true _) | exact guard_if (guard_false _)) (fun hg => loc_load1 rfl) rfl ?_
  refine run_gop rfl rfl (by first | exact guard_true _ | exact guard_false _ | exact guard_if (guard_true _) | exact guard_if (guard_false _)) (fun hg => loc_eql rfl rfl) rfl ?_
  refine run_gop rfl rfl (by first | exact guard_true _ | exact guard_false _ | exact guard_if (guard_true _) | exact guard_if (guard_false _)) (fun hg => loc_move rfl) rfl ?_
  refine run_gleave ?_
  refine run_gfirst rfl rfl (by first | exact guard_true _ | exact guard_false _ | exact guard_if (guard_true _) | exact guard_if (guard_false _)) (fun hg => loc_fieldAddr rfl) rfl ?_
  refine run_gop rfl rfl (by first | exact guard_true _ | exact guard_false _ | exact guard_if (guard_true _) | exact guard_if (guard_false _)) (fun hg => loc_load1 rfl) rfl ?_
  refine run_gop rfl rfl (by first | exact guard_true _ | exact guard_false _ | exact guard_if (guard_true _) | exact guard_if (guard_false _)) (fun hg => loc_fieldAddr rfl) rfl ?_
  refine run_gop rfl rfl (by first | exact guard_true _ | exact guard_false _ | exact guard_if (guard_true _) | exact guard_if (guard_false _)) (fun hg => loc_load1 rfl) rfl ?_
  refine run_gop rfl rfl (by first | exact guard_true _ | exact guard_false _ | exact guard_if (guard_true _) | exact guard_if (guard_false _)) (fun hg => loc_lss rfl rfl) rfl ?_
  refine run_gleave ?_
  first | refine run_gfirst rfl rfl (by first | exact guard_true _ | exact guard_false _ | exact guard_if (guard_true _) | exact guard_if (guard_false _)) (fun hg => loc_or rfl rfl) rfl ?_ | refine run_gfirst rfl rfl (by first | exact guard_true _ | exact guard_false _ | exact guard_if (guard_true _) | exact guard_if (guard_false _)) (fun hg => loc_orG hg rfl rfl) rfl ?_ | refine run_gfirst rfl rfl (by first | exact guard_true _ | exact guard_false _ | exact guard_if (guard_true _) | exact guard_if (guard_false _)) (fun hg => loc_orH hg rfl rfl) rfl ?_
  refine run_gleave ?_
  refine run_op (loc_and rfl rfl) rfl ?_
  refine run_op (loc_assign rfl) rfl ?_
  refine run_nil ?_
  refine run_retP Try.func41 rfl rfl ?_
  exact d_B (by unfold validS; rw [errP_zero]; constructor; (· rintro ⟨⟨a, b⟩, c⟩; exact ⟨a, b, c⟩); (· rintro ⟨a, b, c⟩; exact ⟨⟨a, b⟩, c⟩))

theorem storage_spec (s : Schm) : SpecP Try.prog 63 [dSchm s] (dAgg [dInt .i64 s.servers, dInt .i64 s.degree, dInt .i64 s.group]) := by
  refine specP_of_body Try.func63 rfl rfl (fun I M => ?_)
  refine run_seq ?_
  refine run_region ?_
  refine run_op (loc_boxN rfl) rfl ?_
  refine run_new (loc_allocOwn (by simp)) rfl (fun b1 _ => ?_)
  refine run_nil ?_
  refine run_seq ?_
  refine run_region ?_
  refine run_op (loc_fieldAddr rfl) rfl ?_
  refine run_op (loc_load1 rfl) rfl ?_
  refine run_op (loc_fieldAddr rfl) rfl ?_
  refine run_op (loc_load1 rfl) rfl ?_
  refine run_op (loc_fieldAddr rfl) rfl ?_
  refine run_op (loc_load1 rfl) rfl ?_
  refine run_op (loc_build (.one rfl rfl rfl (.one rfl rfl rfl (.one rfl rfl rfl (.nil))))) rfl ?_
  refine run_storeN (ho := (by show OneAll [_, _, _]; infer_instance)) rfl rfl (.here) (by rfl) ?_
  refine run_nil ?_
  refine run_retGP Try.func63 rfl (.cellN rfl (by first | exact .here | exact .there .here | exact .there (.there .here) | exact .there (.there (.there .here)) | exact .there (.there (.there (.there .here))) | exact .there (.there (.there (.there (.there .here))))) (by rfl) (.nil)) ?_ (fun _ _ h => inv_tail (h))
  exact fun _ _ h => h

theorem shold_spec (s : Schm) (t : Tab) (j : Int) : SpecP Try.prog 31 [dSchm s, dTab t, dInt .i64 j] (dTup [dRows (hldL s t j), dInt .i64 (hldE s t j)]) := by
  refine specP_of_body Try.func31 rfl rfl (fun I M => ?_)
  refine run_seq ?_
  refine run_region ?_
  refine run_op (loc_boxN rfl) rfl ?_
  refine run_op (loc_boxN rfl) rfl ?_
  refine run_op (loc_assign rfl) rfl ?_
  refine run_op (loc_assign rfl) rfl ?_
  refine run_nil ?_
  refine run_seq ?_
  refine run_seq ?_
  refine run_region ?_
  refine run_op (loc_loadN rfl rfl) rfl ?_
  refine run_op (loc_call (tcheck_spec _) rfl) rfl ?_
  refine run_op (loc_assign rfl) rfl ?_
  refine run_nil ?_
  refine run_seq ?_
  refine run_region ?_
  refine run_op (loc_move rfl) rfl ?_
  refine run_op (loc_neq rfl rfl) rfl ?_
  refine run_nil ?_
  refine run_cond rfl (fun h1 => ?_) (fun h1 => ?_)
  ·
    have c1 := h1
    refine run_seq ?_
    refine run_region ?_
    refine run_op (loc_move rfl) rfl ?_
    refine run_op (loc_assign rfl) rfl ?_
    refine run_op (loc_assign rfl) rfl ?_
    refine run_nil ?_
    refine run_ret2P Try.func31 rfl rfl rfl ?_
    exact d_tup2 (d_toRows (by unfold hldL; rw [if_pos (.inl c1)]) d_nil) (d_int (by unfold hldE; rw [if_pos c1]))
  ·
    have c1 := Classical.not_not.1 h1
    refine run_skip ?_
    refine run_seq ?_
    refine run_block ?_
    refine run_seq ?_
    refine run_region ?_
    refine run_op (loc_loadN rfl rfl) rfl ?_
    refine run_op (loc_fieldAddr rfl) rfl ?_
    refine run_op (loc_loadN rfl rfl) rfl ?_
    refine run_op (loc_call (valid_spec _ _) rfl) rfl ?_
    refine run_op (loc_not rfl) rfl ?_
    refine run_op (loc_assign rfl) rfl ?_
    refine run_nil ?_
    refine run_cond rfl (fun h2 => ?_) (fun h2 => ?_)
    ·
      have c2 := h2
      refine run_seq ?_
      refine run_region ?_
      refine run_op (loc_assign rfl) rfl ?_
      refine run_op (loc_assign rfl) rfl ?_
      refine run_nil ?_
      refine run_ret2P Try.func31 rfl rfl rfl ?_
      exact d_tup2 (d_toRows (by unfold hldL; rw [if_pos (.inr (.inl c2))]) d_nil) (d_int (by unfold hldE; rw [if_neg (Classical.not_not.2 c1), if_pos c2]))
    ·
      have c2 := Classical.not_not.1 h2
      refine run_seq ?_
      refine run_region ?_
      refine run_op (loc_move rfl) rfl ?_
      refine run_op (loc_fieldAddr rfl) rfl ?_
      refine run_op (loc_load1 rfl) rfl ?_
      refine run_op (loc_call (within_spec _ _ _) rfl) rfl ?_
      refine run_op (loc_not rfl) rfl ?_
      refine run_op (loc_assign rfl) rfl ?_
      refine run_nil ?_
      refine run_cond rfl (fun h3 => ?_) (fun h3 => ?_)
      ·
        have c3 := h3
        refine run_seq ?_
        refine run_region ?_
        refine run_op (loc_assign rfl) rfl ?_
        refine run_op (loc_assign rfl) rfl ?_
        refine run_nil ?_
        refine run_ret2P Try.func31 rfl rfl rfl ?_
        exact d_tup2 (d_toRows (by unfold hldL; rw [if_pos (.inr (.inr c3))]) d_nil) (d_int (by unfold hldE; rw [if_neg (Classical.not_not.2 c1), if_neg (Classical.not_not.2 c2), if_pos c3]))
      ·
        have c3 := Classical.not_not.1 h3
        refine run_seq ?_
        refine run_region ?_
        refine run_op (loc_fieldAddr rfl) rfl ?_
        refine run_op (loc_load1 rfl) rfl ?_
        refine run_op (loc_eql rfl rfl) rfl ?_
        refine run_op (loc_assign rfl) rfl ?_
        refine run_nil ?_
        refine run_cond rfl (fun h4 => ?_) (fun h4 => ?_)
        ·
          have c4 := h4
          refine run_seq ?_
          refine dr_start _ (.none) [⟨[(4, none)], [], none⟩,
              ⟨[(33, some (0, false))], [0], none⟩,
              ⟨[(3, none)], [], none⟩,
              ⟨[(35, some (2, false))], [2], none⟩,
              ⟨[(4, none)], [], none⟩,
              ⟨[(37, some (4, false))], [4], none⟩,
              ⟨[(4, none)], [], none⟩,
              ⟨[(39, some (6, false))], [6], none⟩,
              ⟨[(2, none)], [], none⟩,
              ⟨[(34, some (1, false)), (36, some (3, false)), (38, some (5, false)), (40, some (7, false)), (41, some (8, false))], [0, 1, 2, 3, 4, 5, 6, 7, 8], none⟩,
              ⟨[(42, some (9, false))], [0, 1, 2, 3, 4, 5, 6, 7, 8, 9], none⟩,
              ⟨[(42, some (9, false))], [0, 1, 2, 3, 4, 5, 6, 7, 8, 9], none⟩,
              ⟨[(43, some (10, false))], [0, 1, 2, 3, 4, 5, 6, 7, 8, 9, 10, 11], none⟩,
              ⟨[(44, some (11, false))], [0, 1, 2, 3, 4, 5, 6, 7, 8, 9, 10, 11, 12], none⟩] [] _ rfl rfl ?_
          refine dq_pure rfl (fun s => .g rfl (.nil)) (fun s hs _ => loc_fieldAddr rfl) (by exact .nil) ?_
          refine dq_pure rfl (fun s => .op rfl (.nil)) (fun s hs _ => loc_loadN rfl rfl) (by exact .nil) ?_
          refine dq_pure rfl (fun s => .g rfl (.nil)) (fun s hs _ => loc_loadN rfl rfl) (by exact .nil) ?_
          refine dq_pure rfl (fun s => .op rfl (.nil)) (fun s hs _ => loc_call (storage_spec _) rfl) (by exact .nil) ?_
          refine dq_pure rfl (fun s => .g rfl (.nil)) (fun s hs _ => loc_fieldAddr rfl) (by exact .nil) ?_
          refine dq_pure rfl (fun s => .op rfl (.nil)) (fun s hs _ => loc_load1 rfl) (by exact .nil) ?_
          refine dq_pure rfl (fun s => .g rfl (.nil)) (fun s hs _ => loc_fieldAddr rfl) (by exact .nil) ?_
          refine dq_pure rfl (fun s => .op rfl (.nil)) (fun s hs _ => loc_load1 rfl) (by exact .nil) ?_
          refine dq_pure rfl (fun s => .g rfl (.nil)) (fun s hs _ => loc_move rfl) (by exact .nil) ?_
          refine dq_pure rfl (fun s => .op rfl (.op rfl (.op rfl (.op rfl (.op rfl (.nil)))))) (fun s hs _ => loc_call (hold_spec _ _ _ _ _ _ _) rfl) (by exact .nil) ?_
          refine dq_pure rfl (fun s => .op rfl (.nil)) (fun s hs _ => loc_extract rfl rfl) (by exact .nil) ?_
          refine dq_pure rfl (fun s => .op rfl (.nil)) (fun s hs _ => loc_extract rfl rfl) (by exact .nil) ?_
          refine dq_pure rfl (fun s => .op rfl (.nil)) (fun s hs _ => loc_assign rfl) (by exact .nil) ?_
          refine dq_pure rfl (fun s => .op rfl (.nil)) (fun s hs _ => loc_assign rfl) (by exact .nil) ?_
          refine dq_end (rs := []) () rfl (fun _ => rfl) (.nil) rfl (fun _ _ => ?_)
          dsimp only [outG, outM, List.map, List.set, id]
          refine run_ret2P Try.func31 rfl rfl rfl ?_
          exact d_tup2 (d_toRows (by unfold hldL; rw [if_neg (hld_no c1 c2 c3), if_pos c4]) (fun _ _ h => h)) (d_int (by unfold hldE; rw [if_neg (Classical.not_not.2 c1), if_neg (Classical.not_not.2 c2), if_neg (Classical.not_not.2 c3), if_pos c4]))
        ·
          have c4 := h4
          refine run_skip ?_
          refine run_inBlock ?_
          refine run_seq ?_
          refine run_region ?_
          refine run_op (loc_assign rfl) rfl ?_
          refine run_nil ?_
          refine run_seq ?_
          refine run_seq ?_
          refine run_region ?_
          refine run_op (loc_fieldAddr rfl) rfl ?_
          refine run_op (loc_load1 rfl) rfl ?_
          first | refine runL_fact (s := 46) rfl (fun _ _ h => dSl_len h) (fun hlen5 => ?_) | skip
          refine run_op (loc_len rfl) rfl ?_
          refine run_op (loc_move rfl) rfl ?_
          refine run_nil ?_
          refine run_block ?_
          have hct := checkT_ok c1
          refine run_rowNil 35 1 fR ?_
          refine run_loopF (σ := Value × Nat) (ks := [46, 47]) (.cons rfl (.cons rfl (.nil))) (fun q => [(9, dVal q.1), (48, dInt .i64 (q.2 : Nat))]) (fun q => [rRow q.1 35 1 fR (t.rows.take q.2)]) (fun q => q.2 ≤ t.rows.length) (fun q => t.rows.length - q.2) ((.slice none 0 0, 0)) (Nat.zero_le _) (.cons rfl (by first | exact fun _ _ h => h | exact d_int (by omega) | exact d_int (by simp) | exact d_intN (by omega) | exact d_any) (.cons rfl (by first | exact fun _ _ h => h | exact d_int (by omega) | exact d_int (by simp) | exact d_intN (by omega) | exact d_any) .nil)) (rfl) ?_
          intro q hq ih6
          have hql : (t.rows.take q.2).length = q.2 := by rw [List.length_take]; omega
          refine run_seq ?_
          refine run_region ?_
          refine run_op (loc_lss rfl rfl) rfl ?_
          refine run_nil ?_
          refine run_seq ?_
          refine run_cond rfl (fun h7 => ?_) (fun h7 => ?_)
          ·
            have hrl := (hct.2.2.2.2 _ (getD_mem (xs := t.rows) (k := q.2) (by omega))).1
            refine run_skip ?_
            refine run_seq ?_
            refine run_block ?_
            refine run_seq ?_
            refine run_region ?_
            first | refine run_op (loc_index rfl rfl (by first | omega | assumption)) rfl ?_ | refine run_op (loc_indexI rfl rfl (by first | omega | assumption)) rfl ?_
            refine run_op (loc_load1 rfl) rfl ?_
            refine run_op (loc_assign rfl) rfl ?_
            refine run_nil ?_
            refine run_region ?_
            refine run_op (loc_move rfl) rfl ?_
            refine run_op (loc_move rfl) rfl ?_
            refine run_op (loc_call (cloneI_spec _ (by omega)) rfl) rfl ?_
            refine run_op (loc_buildSlice rfl rfl (.one rfl (.nil)) rfl rfl) rfl ?_
            refine run_append1 rfl (.here) rfl (by rfl) (by rfl) (by first | omega | (unfold lenMax; omega) | assumption | (simp; omega) | (simp [lenMax]; omega)) (by first | omega | (unfold lenMax; omega) | assumption | (simp; omega) | (simp [lenMax]; omega)) rfl (fun v8 => ?_)
            refine run_op (loc_assign rfl) rfl ?_
            refine run_nil ?_
            refine run_inBlock ?_
            refine run_region ?_
            first | refine run_op (loc_add rfl rfl (by first | omega | assumption)) rfl ?_ | refine run_op (loc_addW rfl rfl) rfl ?_
            refine run_op (loc_move rfl) rfl ?_
            refine run_nil ?_
            exact run_againF ih6 ((v8, q.2 + 1)) (by simp only; omega) (by simp only; omega) (.cons rfl (by first | exact fun _ _ h => h | exact d_int (by omega) | exact d_int (by simp) | exact d_intN (by omega) | exact d_any) (.cons rfl (by first | exact fun _ _ h => h | exact d_int (by omega) | exact d_int (by simp) | exact d_intN (by omega) | exact d_any) .nil)) (.cons rfl (fun _ _ x => x) (.cons rfl (fun _ _ x => x) (.nil))) (by simp only [appR]; rw [take_snocR (by omega)])
          ·
            refine run_exit rfl ?_
            refine run_seq ?_
            refine run_freezeRow (s := 9) rfl (.here) ?_
            refine run_region ?_
            refine run_op (loc_move rfl) rfl ?_
            refine run_op (loc_assign rfl) rfl ?_
            refine run_op (loc_assign rfl) rfl ?_
            refine run_nil ?_
            refine run_ret2P Try.func31 rfl rfl rfl ?_
            exact d_tup2 (d_eq (by unfold hldL; rw [if_neg (hld_no c1 c2 c3), if_neg c4, List.take_of_length_le (by omega)])) (d_int (by unfold hldE; rw [if_neg (Classical.not_not.2 c1), if_neg (Classical.not_not.2 c2), if_neg (Classical.not_not.2 c3), if_neg c4]))

end Go.Q

namespace Go.Q
open Classical

def keptOk (l : List Int) (j : Nat) : Prop := 1 ≤ l[j]?.getD default ∧ l[j]?.getD default ≤ 2147483646 ∧ (0 < j → l[j - 1]?.getD default < l[j]?.getD default)
def rowOk (kept : List Int) (l : List Pn) (j : Nat) : Prop := 0 ≤ (l[j]?.getD default).session ∧ (0 < j → (l[j - 1]?.getD default).session < (l[j]?.getD default).session) ∧ (l[j]?.getD default).version ∈ kept
structure okPins (p : Pins) : Prop where
  one : 1 ≤ p.kept.length
  most : p.kept.length ≤ 16
  reads : p.rows.length ≤ 64
  kept : ∀ j, j < p.kept.length → keptOk p.kept j
  rows : ∀ j, j < p.rows.length → rowOk p.kept p.rows j
def lastK (l : List Int) (k : Nat) : Int := if k = 0 then 0 else l[k - 1]?.getD default
def lastS (l : List Pn) (k : Nat) : Int := if k = 0 then -1 else (l[k - 1]?.getD default).session
def newestP (p : Pins) : Int := p.kept[p.kept.length - 1]?.getD default
noncomputable def namedP (p : Pins) (v : Int) : Nat := cntP (fun r : Pn => r.version = v) p.rows
def newE (v : Int) : Int := if v < 1 ∨ 2147483647 ≤ v then 1 else 0
def newP (v : Int) : Pins := if v < 1 ∨ 2147483647 ≤ v then ⟨[], []⟩ else ⟨[], [v]⟩

noncomputable def pubE (p : Pins) (v : Int) : Int := if ¬ okPins p then 2 else if v ≤ newestP p ∨ 2147483647 ≤ v then 46 else if 16 ≤ p.kept.length then 4 else 0
noncomputable def pubP (p : Pins) (v : Int) : Pins := if pubE p v = 0 then ⟨p.rows, p.kept ++ [v]⟩ else p

def thereP (p : Pins) (s : Int) : Prop := ∃ r ∈ p.rows, r.session = s
noncomputable def atP (p : Pins) (s : Int) : Nat := lead (fun r : Pn => r.session < s) p.rows
noncomputable def openE (p : Pins) (s : Int) : Int := if ¬ okPins p then 2 else if s < 0 then 1 else if thereP p s then 7 else if 64 ≤ p.rows.length then 4 else 0
noncomputable def openP (p : Pins) (s : Int) : Pins := if openE p s = 0 then ⟨p.rows.take (atP p s) ++ [⟨s, newestP p⟩] ++ p.rows.drop (atP p s), p.kept⟩ else p
noncomputable def openV (p : Pins) (s : Int) : Int := if openE p s = 0 then newestP p else 0
noncomputable def closeE (p : Pins) (s : Int) : Int := if ¬ okPins p then 2 else if thereP p s then 0 else 6
noncomputable def closeP (p : Pins) (s : Int) : Pins := if closeE p s = 0 then ⟨p.rows.take (atP p s) ++ p.rows.drop (atP p s + 1), p.kept⟩ else p
def goesP (p : Pins) (v : Int) : Prop := v ≠ newestP p ∧ namedP p v = 0
noncomputable def collP (p : Pins) : Pins := ⟨p.rows, flt (fun v => ¬ goesP p v) p.kept⟩
noncomputable def goneP (p : Pins) : List Int := flt (goesP p) p.kept

/-- Rows in order. -/
theorem rows_lt {kept : List Int} {l : List Pn} (h : ∀ j, j < l.length → rowOk kept l j) : ∀ b, b < l.length → ∀ a, a < b → (l[a]?.getD default).session < (l[b]?.getD default).session := by
  intro b
  induction b with
  | zero => intro _ a ha; omega
  | succ b ih =>
    intro hb a ha
    have h1 := (h (b + 1) hb).2.1 (by omega)
    rw [Nat.add_sub_cancel] at h1
    by_cases e : a = b
    · subst e; exact h1
    · have := ih (by omega) a (by omega); omega

theorem kept_lt {l : List Int} (h : ∀ j, j < l.length → keptOk l j) : ∀ b, b < l.length → ∀ a, a < b → l[a]?.getD default < l[b]?.getD default := by
  intro b
  induction b with
  | zero => intro _ a ha; omega
  | succ b ih =>
    intro hb a ha
    have h1 := (h (b + 1) hb).2.2 (by omega)
    rw [Nat.add_sub_cancel] at h1
    by_cases e : a = b
    · subst e; exact h1
    · have := ih (by omega) a (by omega); omega

theorem cmpI_neg {x y : Int} : cmpI x y < 0 ↔ x < y := by unfold cmpI; split <;> (try split) <;> omega
theorem cmpI_zero {x y : Int} : cmpI x y = 0 ↔ x = y := by unfold cmpI; split <;> (try split) <;> omega

/-- In a row in ascending order, a number is found where it belongs. -/
theorem find_sorted {α : Type} [Inhabited α] {key : α → Int} {l : List α} (h : ∀ b, b < l.length → ∀ a, a < b → key (l[a]?.getD default) < key (l[b]?.getD default)) (s : Int) :
    bsGo (fun h => cmpI (key (l[h]?.getD default)) s < 0) 0 l.length = lead (fun r => key r < s) l ∧
    ((lead (fun r => key r < s) l < l.length ∧ cmpI (key (l[lead (fun r => key r < s) l]?.getD default)) s = 0) ↔ ∃ r ∈ l, key r = s) := by
  have hle := lead_le (fun r => key r < s) l
  constructor
  · refine bsGo_at (Nat.zero_le _) (Nat.zero_le _) hle (fun a ha => ?_) (fun a ha hb => ?_)
    · rw [cmpI_neg]; exact lead_lt (q := fun r => key r < s) a ha
    · rw [cmpI_neg]
      have h1 := lead_end (q := fun r => key r < s) (xs := l) (by omega)
      by_cases e : lead (fun r => key r < s) l = a
      · rwa [e] at h1
      · have := h a hb _ (show lead (fun r => key r < s) l < a by omega)
        intro hc
        exact h1 (by omega)
  · rw [cmpI_zero]
    constructor
    · rintro ⟨h1, h2⟩
      refine ⟨l[lead (fun r => key r < s) l]?.getD default, ?_, h2⟩
      rw [List.getElem?_eq_getElem h1]
      exact List.getElem_mem ..
    · rintro ⟨r, hr, rfl⟩
      obtain ⟨i, hi⟩ := List.getElem?_of_mem hr
      have hil := (List.getElem?_eq_some_iff.1 hi).1
      have hg : l[i]?.getD default = r := by rw [hi]; rfl
      have : lead (fun x => key x < key r) l = i := by
        refine lead_at (by omega) (fun j hj => ?_) (.inr ?_)
        · rw [← hg]; exact h i hil j hj
        · rw [hg]; exact Int.lt_irrefl _
      rw [this, hg]
      exact ⟨hil, rfl⟩

theorem find_pins {p : Pins} (h : okPins p) (s : Int) : bsGo (fun h => cmpI (p.rows[h]?.getD default).session s < 0) 0 p.rows.length = atP p s ∧ ((atP p s < p.rows.length ∧ cmpI (p.rows[atP p s]?.getD default).session s = 0) ↔ thereP p s) :=
  find_sorted (key := Pn.session) (rows_lt h.rows) s

theorem atP_le (p : Pins) (s : Int) : atP p s ≤ p.rows.length := lead_le _ _

theorem there_at {p : Pins} (h : okPins p) {s : Int} (ht : thereP p s) : atP p s < p.rows.length ∧ (p.rows[atP p s]?.getD default).session = s := by
  have := (find_pins h s).2.2 ht
  exact ⟨this.1, cmpI_zero.1 this.2⟩

/-- The place of a session, found by going through. -/
theorem atP_of {p : Pins} (h : okPins p) {s : Int} {i : Nat} (hi : i < p.rows.length) (hs : (p.rows[i]?.getD default).session = s) : atP p s = i ∧ thereP p s := by
  subst hs
  refine ⟨lead_at (by omega) (fun j hj => rows_lt h.rows i hi j hj) (.inr (Int.lt_irrefl _)), p.rows[i]?.getD default, ?_, rfl⟩
  rw [List.getElem?_eq_getElem hi]
  exact List.getElem_mem ..

theorem newest_eq {p : Pins} (h : okPins p) {j : Nat} (hj : j < p.kept.length) : p.kept[j]?.getD default = newestP p ↔ j + 1 = p.kept.length := by
  unfold newestP
  constructor
  · intro e
    by_cases c : j + 1 = p.kept.length
    · exact c
    · have := kept_lt h.kept (p.kept.length - 1) (by omega) j (by omega)
      omega
  · intro e
    rw [show p.kept.length - 1 = j by omega]

end Go.Q

namespace Go.Q
open Classical

structure Dc where
  xs : List Int
  k : Nat
deriving Inhabited
def Dc.val (d : Dc) (n : Int) : Int := if d.k < d.xs.length then d.xs[d.k]?.getD default % n else 0
def Dc.next (d : Dc) : Dc := ⟨d.xs, if d.k < d.xs.length then d.k + 1 else d.k⟩
structure okDc (d : Dc) : Prop where
  byte : ∀ x ∈ d.xs, 0 ≤ x ∧ x ≤ 255
  len : d.xs.length ≤ 300
theorem Dc.val_nonneg {d : Dc} {n : Int} (hn : 1 ≤ n) : 0 ≤ d.val n := by
  unfold Dc.val
  split
  · exact Int.emod_nonneg _ (by omega)
  · omega
theorem Dc.val_lt {d : Dc} {n : Int} (hn : 1 ≤ n) : d.val n < n := by
  unfold Dc.val
  split
  · exact Int.emod_lt_of_pos _ (by omega)
  · omega
theorem Dc.next_ok {d : Dc} (h : okDc d) : okDc d.next := ⟨h.byte, h.len⟩

theorem newest_mem {p : Pins} (h : okPins p) : newestP p ∈ p.kept := by
  unfold newestP
  have := h.one
  rw [List.getElem?_eq_getElem (by omega)]
  exact List.getElem_mem ..

theorem newest_bd {p : Pins} (h : okPins p) : 1 ≤ newestP p ∧ newestP p ≤ 2147483646 := by
  have h1 := h.one
  have := h.kept (p.kept.length - 1) (by omega)
  exact ⟨this.1, this.2.1⟩

theorem new_ok {v : Int} (h : newE v = 0) : okPins (newP v) := by
  unfold newE at h
  by_cases c : v < 1 ∨ 2147483647 ≤ v
  · rw [if_pos c] at h; omega
  · unfold newP
    rw [if_neg c]
    refine ⟨by simp, by simp, by simp, fun j hj => ?_, fun j hj => by simp at hj⟩
    have : j = 0 := by simpa using hj
    subst this
    exact ⟨by simp; omega, by simp; omega, fun h => by omega⟩

theorem getD_app_left {α : Type} [Inhabited α] {xs ys : List α} {j : Nat} (h : j < xs.length) : (xs ++ ys)[j]?.getD default = xs[j]?.getD default := by rw [List.getElem?_append_left h]
theorem getD_app_right {α : Type} [Inhabited α] {xs ys : List α} {j : Nat} (h : xs.length ≤ j) : (xs ++ ys)[j]?.getD default = ys[j - xs.length]?.getD default := by rw [List.getElem?_append_right h]

theorem pub_ok {p : Pins} {v : Int} (h : okPins p) : okPins (pubP p v) := by
  unfold pubP
  split
  · rename_i he
    unfold pubE at he
    rw [if_neg (Classical.not_not.2 h)] at he
    split at he
    · omega
    · rename_i hv
      split at he
      · omega
      · have h1 := h.one
        have hb := newest_bd h
        refine ⟨by simp, by simp; omega, h.reads, fun j hj => ?_, fun j hj => ?_⟩
        · simp at hj
          by_cases c : j < p.kept.length
          · have := h.kept j c
            unfold keptOk at this ⊢
            rw [getD_app_left c]
            refine ⟨this.1, this.2.1, fun h0 => ?_⟩
            rw [getD_app_left (by omega)]
            exact this.2.2 h0
          · have hj' : j = p.kept.length := by omega
            subst hj'
            unfold keptOk
            rw [getD_app_right (Nat.le_refl _), Nat.sub_self]
            simp only [List.getElem?_cons_zero, Option.getD_some]
            refine ⟨by omega, by omega, fun h0 => ?_⟩
            rw [getD_app_left (by omega)]
            unfold newestP at hv
            omega
        · have := h.rows j hj
          exact ⟨this.1, this.2.1, List.mem_append_left _ this.2.2⟩
  · exact h

/-- Rows in order, told by pairs. -/
structure rowsP (kept : List Int) (l : List Pn) : Prop where
  nonneg : ∀ r ∈ l, 0 ≤ r.session
  mem : ∀ r ∈ l, r.version ∈ kept
  asc : l.Pairwise fun a b => a.session < b.session

theorem rowsP_iff {kept : List Int} {l : List Pn} : (∀ j, j < l.length → rowOk kept l j) ↔ rowsP kept l := by
  constructor
  · intro h
    refine ⟨forall_getD fun j hj => (h j hj).1, forall_getD fun j hj => (h j hj).2.2, ?_⟩
    rw [List.pairwise_iff_getElem]
    intro a b ha hb hab
    have := rows_lt h b hb a hab
    simpa [ha, hb] using this
  · intro h j hj
    have hm : l[j]?.getD default ∈ l := by rw [List.getElem?_eq_getElem hj]; exact List.getElem_mem ..
    refine ⟨h.nonneg _ hm, fun h0 => ?_, h.mem _ hm⟩
    have h1 := List.pairwise_iff_getElem.1 h.asc (j - 1) j (by omega) hj (by omega)
    rw [List.getElem?_eq_getElem hj, List.getElem?_eq_getElem (by omega)]
    exact h1

/-- Versions in order, told by pairs. -/
structure keptP (l : List Int) : Prop where
  bd : ∀ v ∈ l, 1 ≤ v ∧ v ≤ 2147483646
  asc : l.Pairwise fun a b => a < b

theorem keptP_iff {l : List Int} : (∀ j, j < l.length → keptOk l j) ↔ keptP l := by
  constructor
  · intro h
    refine ⟨forall_getD fun j hj => ⟨(h j hj).1, (h j hj).2.1⟩, ?_⟩
    rw [List.pairwise_iff_getElem]
    intro a b ha hb hab
    have := kept_lt h b hb a hab
    simpa [ha, hb] using this
  · intro h j hj
    have hm : l[j]?.getD default ∈ l := by rw [List.getElem?_eq_getElem hj]; exact List.getElem_mem ..
    refine ⟨(h.bd _ hm).1, (h.bd _ hm).2, fun h0 => ?_⟩
    have h1 := List.pairwise_iff_getElem.1 h.asc (j - 1) j (by omega) hj (by omega)
    rw [List.getElem?_eq_getElem hj, List.getElem?_eq_getElem (by omega)]
    exact h1

theorem lead_take {α : Type} {q : α → Prop} : ∀ {xs : List α}, ∀ x ∈ xs.take (lead q xs), q x
  | [], x, h => by simp at h
  | y :: ys, x, h => by
    simp only [lead] at h
    split at h
    · rename_i hq
      rw [List.take_succ_cons, List.mem_cons] at h
      rcases h with rfl | h
      · exact hq
      · exact lead_take x h
    · simp at h

/-- In ascending rows all that stands behind the place of a session is at least asL great. -/
theorem lead_drop {l : List Pn} {s : Int} (h : l.Pairwise fun a b => a.session < b.session) : ∀ x ∈ l.drop (lead (fun r : Pn => r.session < s) l), s ≤ x.session := by
  induction l with
  | nil => intro x hx; simp at hx
  | cons y ys ih =>
    intro x hx
    rw [List.pairwise_cons] at h
    simp only [lead] at hx
    split at hx
    · rw [List.drop_succ_cons] at hx
      exact ih h.2 x hx
    · rename_i hq
      rw [List.drop_zero, List.mem_cons] at hx
      rcases hx with rfl | hx
      · omega
      · have := h.1 x hx; omega

theorem open_ok {p : Pins} {u : Int} (h : okPins p) : okPins (openP p u) := by
  unfold openP
  split
  · rename_i he
    unfold openE at he
    rw [if_neg (Classical.not_not.2 h)] at he
    split at he
    · omega
    · split at he
      · omega
      · rename_i hu ht
        split at he
        · omega
        · have hr := rowsP_iff.1 h.rows
          have hle := atP_le p u
          refine ⟨h.one, h.most, by simp; omega, h.kept, rowsP_iff.2 ⟨fun r hm => ?_, fun r hm => ?_, ?_⟩⟩
          · simp only [List.mem_append, List.mem_singleton] at hm
            rcases hm with (hm | rfl) | hm
            · exact hr.nonneg r (List.mem_of_mem_take hm)
            · simp only; omega
            · exact hr.nonneg r (List.mem_of_mem_drop hm)
          · simp only [List.mem_append, List.mem_singleton] at hm
            rcases hm with (hm | rfl) | hm
            · exact hr.mem r (List.mem_of_mem_take hm)
            · show newestP p ∈ p.kept
              exact newest_mem h
            · exact hr.mem r (List.mem_of_mem_drop hm)
          · have hgt : ∀ x ∈ p.rows.drop (atP p u), u < x.session := fun x hx => by
              have h1 := lead_drop (s := u) hr.asc x hx
              have h2 : x.session ≠ u := fun e => ht ⟨x, List.mem_of_mem_drop hx, e⟩
              omega
            rw [List.append_assoc, List.pairwise_append, List.singleton_append, List.pairwise_cons]
            refine ⟨hr.asc.sublist (List.take_sublist ..), ⟨hgt, hr.asc.sublist (List.drop_sublist ..)⟩, fun a ha b hb => ?_⟩
            have h1 : a.session < u := lead_take (q := fun r : Pn => r.session < u) a ha
            rcases List.mem_cons.1 hb with rfl | hb
            · exact h1
            · have := hgt b hb; omega
  · exact h

theorem close_ok {p : Pins} {u : Int} (h : okPins p) : okPins (closeP p u) := by
  unfold closeP
  split
  · have hr := rowsP_iff.1 h.rows
    have hsub : (p.rows.take (atP p u) ++ p.rows.drop (atP p u + 1)).Sublist p.rows := by
      conv => rhs; rw [← List.take_append_drop (atP p u) p.rows]
      refine List.Sublist.append (List.Sublist.refl _) ?_
      rw [← List.drop_drop]
      exact List.drop_sublist ..
    refine ⟨h.one, h.most, Nat.le_trans hsub.length_le h.reads, h.kept, rowsP_iff.2 ⟨fun r hm => hr.nonneg r (hsub.subset hm), fun r hm => hr.mem r (hsub.subset hm), hr.asc.sublist hsub⟩⟩
  · exact h

theorem flt_sub {α : Type} (q : α → Prop) : ∀ l : List α, (flt q l).Sublist l
  | [] => .slnil
  | x :: l => by
    simp only [flt]
    split
    · exact (flt_sub q l).cons_cons x
    · exact (flt_sub q l).cons x

theorem coll_ok {p : Pins} (h : okPins p) : okPins (collP p) := by
  have hk := keptP_iff.1 h.kept
  have hr := rowsP_iff.1 h.rows
  have hsub := flt_sub (fun v => ¬ goesP p v) p.kept
  have hnew : newestP p ∈ flt (fun v => ¬ goesP p v) p.kept := mem_flt.2 ⟨newest_mem h, fun hc => hc.1 rfl⟩
  refine ⟨List.length_pos_of_mem hnew, Nat.le_trans hsub.length_le h.most, h.reads, keptP_iff.2 ⟨fun v hv => hk.bd v (hsub.subset hv), hk.asc.sublist hsub⟩, rowsP_iff.2 ⟨hr.nonneg, fun r hm => mem_flt.2 ⟨hr.mem r hm, fun hc => ?_⟩, hr.asc⟩⟩
  have h0 := hc.2
  unfold namedP at h0
  exact cntP_zero.1 h0 r hm rfl

theorem getLast_eq {l : List Int} : l[l.length - 1]?.getD default = l.getLastD default := by
  rw [List.getLastD_eq_getLast?, List.getLast?_eq_getElem?]

/-- The newest version stays. -/
theorem coll_newest {p : Pins} (h : okPins p) : newestP (collP p) = newestP p := by
  have hk := keptP_iff.1 h.kept
  have hsub := flt_sub (fun v => ¬ goesP p v) p.kept
  have hok := coll_ok h
  have hnew : newestP p ∈ (collP p).kept := mem_flt.2 ⟨newest_mem h, fun hc => hc.1 rfl⟩
  have hm : newestP (collP p) ∈ p.kept := hsub.subset (newest_mem hok)
  -- the newest is the greatest
  have hmax : ∀ {q : Pins}, okPins q → ∀ v ∈ q.kept, v ≤ newestP q := by
    intro q hq v hv
    obtain ⟨i, hi⟩ := List.getElem?_of_mem hv
    have hil := (List.getElem?_eq_some_iff.1 hi).1
    unfold newestP
    by_cases e : i = q.kept.length - 1
    · subst e; rw [hi]; exact Int.le_refl _
    · have := kept_lt hq.kept (q.kept.length - 1) (by omega) i (by omega)
      rw [hi] at this
      simp only [Option.getD_some] at this
      omega
  have h1 := hmax h _ hm
  have h2 := hmax hok _ hnew
  omega

end Go.Q

namespace Go.Q
open Classical

theorem okP_7 : okP 7 := by
  refine ⟨by omega, by omega, fun d h1 h2 h3 => ?_⟩
  have hd : d ≤ 2 := by by_cases h : d ≤ 2; (· exact h); (· exfalso; have := mul_bd (a := 3) (A := d) (b := 3) (B := d) (by omega) (by omega) (by omega) (by omega); omega)
  have : d = 2 := by omega
  subst this; omega
theorem okP_11 : okP 11 := by
  refine ⟨by omega, by omega, fun d h1 h2 h3 => ?_⟩
  have hd : d ≤ 3 := by by_cases h : d ≤ 3; (· exact h); (· exfalso; have := mul_bd (a := 4) (A := d) (b := 4) (B := d) (by omega) (by omega) (by omega) (by omega); omega)
  have : d = 2 ∨ d = 3 := by omega
  rcases this with rfl | rfl <;> omega
theorem okP_13 : okP 13 := by
  refine ⟨by omega, by omega, fun d h1 h2 h3 => ?_⟩
  have hd : d ≤ 3 := by by_cases h : d ≤ 3; (· exact h); (· exfalso; have := mul_bd (a := 4) (A := d) (b := 4) (B := d) (by omega) (by omega) (by omega) (by omega); omega)
  have : d = 2 ∨ d = 3 := by omega
  rcases this with rfl | rfl <;> omega
theorem okP_257 : okP 257 := by
  refine ⟨by omega, by omega, fun d h1 h2 h3 => ?_⟩
  have hd : d ≤ 16 := by by_cases h : d ≤ 16; (· exact h); (· exfalso; have := mul_bd (a := 17) (A := d) (b := 17) (B := d) (by omega) (by omega) (by omega) (by omega); omega)
  have : d = 2 ∨ d = 3 ∨ d = 4 ∨ d = 5 ∨ d = 6 ∨ d = 7 ∨ d = 8 ∨ d = 9 ∨ d = 10 ∨ d = 11 ∨ d = 12 ∨ d = 13 ∨ d = 14 ∨ d = 15 ∨ d = 16 := by omega
  rcases this with rfl | rfl | rfl | rfl | rfl | rfl | rfl | rfl | rfl | rfl | rfl | rfl | rfl | rfl | rfl <;> omega

/-- The primes that dice make. -/
def dieP (p : Int) : Prop := p = 7 ∨ p = 11 ∨ p = 13 ∨ p = 257
theorem dieP_ok {p : Int} (h : dieP p) : okP p ∧ 7 ≤ p ∧ p ≤ 257 := by
  rcases h with rfl | rfl | rfl | rfl
  · exact ⟨okP_7, by omega, by omega⟩
  · exact ⟨okP_11, by omega, by omega⟩
  · exact ⟨okP_13, by omega, by omega⟩
  · exact ⟨okP_257, by omega, by omega⟩
/-- The schemes that dice make. -/
def dieS (s : Schm) : Prop := shapeS s ∧ 3 ≤ s.servers ∧ s.servers ≤ 6
theorem die_valid {s : Schm} {p : Int} (hs : dieS s) (hp : dieP p) : validS s p := by
  obtain ⟨h1, h2, h3⟩ := dieP_ok hp
  exact ⟨hs.1, h1, .inr (by have := hs.2; omega)⟩
/-- The tables that dice make. -/
def dieT (p : Int) (t : Tab) : Prop := checkT t = 0 ∧ t.p = p ∧ (1 ≤ t.rows.length ∧ t.rows.length ≤ 5) ∧ (1 ≤ t.number ∧ t.number ≤ 3) ∧ (1 ≤ t.width ∧ t.width ≤ 3)
/-- The tapes that dice make. -/
def dieTp (ls : List Int) (t : Tape) : Prop := t.at' = 0 ∧ t.numbers.length = ls.length ∧ ∀ j, j < ls.length → 0 ≤ t.numbers[j]?.getD default ∧ t.numbers[j]?.getD default < ls[j]?.getD default
def dieW (n : Int) (l : List Int) : Prop := (1 ≤ l.length ∧ l.length ≤ 3) ∧ ∀ x ∈ l, -1 ≤ x ∧ x < n

theorem dieT_of {p n w c : Int} {rows : List (List Int)} (hp : dieP p) (hn : 1 ≤ n ∧ n ≤ 3) (hw : 1 ≤ w ∧ w ≤ 3) (hc : 1 ≤ c ∧ c ≤ 5) (h : rows.length = c.toNat ∧ ∀ r ∈ rows, r.length = w.toNat ∧ ∀ x ∈ r, hasP p x) : dieT p ⟨n, p, w, rows⟩ := by
  refine ⟨?_, rfl, ⟨by simp only; omega, by simp only; omega⟩, hn, hw⟩
  unfold checkT
  rw [if_neg (by simp only; omega), if_neg (Classical.not_not.2 (dieP_ok hp).1), if_neg (by simp only; omega), if_neg (by simp only; omega)]
  refine firstErr_none fun r hr => ?_
  obtain ⟨h1, h2⟩ := h.2 r hr
  unfold rowErr
  rw [if_neg (by simp only; omega), if_neg (Classical.not_not.2 (show allP p r from h2))]
theorem snoc_all {xs ls : List Int} {x : Int} (h : ∀ j, j < xs.length → 0 ≤ xs[j]?.getD default ∧ xs[j]?.getD default < ls[j]?.getD default) (hx : 0 ≤ x ∧ x < ls[xs.length]?.getD default) : ∀ j, j < (xs ++ [x]).length → 0 ≤ (xs ++ [x])[j]?.getD default ∧ (xs ++ [x])[j]?.getD default < ls[j]?.getD default := by
  intro j hj
  rw [List.length_append, List.length_singleton] at hj
  by_cases e : j = xs.length
  · subst e; simpa using hx
  · rw [List.getElem?_append_left (by omega)]; exact h j (by omega)
theorem die_get {k : Int} (h : 0 ≤ k ∧ k < 4) : dieP (([7, 11, 13, 257] : List Int)[k.toNat]?.getD default) := by
  have : k.toNat = 0 ∨ k.toNat = 1 ∨ k.toNat = 2 ∨ k.toNat = 3 := by omega
  unfold dieP
  rcases this with e | e | e | e <;> rw [e] <;> simp
theorem die1 {n : Int} (h : 3 ≤ n ∧ n ≤ 6) : dieS ⟨1, n, 0, 0⟩ := ⟨⟨⟨by simp only; omega, by simp only; omega⟩, .inl ⟨rfl, rfl, rfl⟩⟩, h⟩
theorem die2 {n d : Int} (h : 3 ≤ n ∧ n ≤ 6) (hd : 1 ≤ d ∧ d ≤ 2) : dieS ⟨2, n, d, 0⟩ := ⟨⟨⟨by simp only; omega, by simp only; omega⟩, .inr (.inl ⟨rfl, hd.1, by simp only; omega, rfl⟩)⟩, h⟩
theorem die3 {n d : Int} (h : 3 ≤ n ∧ n ≤ 6) (hd : 1 ≤ d ∧ d ≤ 2) : dieS ⟨3, n, d, 1⟩ := ⟨⟨⟨by simp only; omega, by simp only; omega⟩, .inr (.inr ⟨rfl, hd.1, by simp only; omega, by simp only; omega, by simp only; omega, by simp only; omega⟩)⟩, h⟩
theorem die4 {n : Int} (h : 4 ≤ n ∧ n ≤ 6) : dieS ⟨3, n, 1, 2⟩ := ⟨⟨⟨by simp only; omega, by simp only; omega⟩, .inr (.inr ⟨rfl, by simp only; omega, by simp only; omega, by simp only; omega, by simp only; omega, by simp only; omega⟩)⟩, by simp only; omega, h.2⟩

/-- The scheme that dice make, and the dice behind it. -/
noncomputable def schI (d : Dc) : Dc := @ite _ (¬ 3 + d.val 4 < 4) (Classical.propDecidable _) d.next.next.next d.next.next
noncomputable def schV (d : Dc) : Schm := if d.next.val 3 = 0 then ⟨1, 3 + d.val 4, 0, 0⟩ else if d.next.val 3 = 1 then ⟨2, 3 + d.val 4, 1 + d.next.next.val 2, 0⟩ else if 3 + d.val 4 < 4 ∨ d.next.next.val 2 = 0 then ⟨3, 3 + d.val 4, 1 + (schI d).val 2, 1⟩ else ⟨3, 3 + d.val 4, 1, 2⟩
noncomputable def schD (d : Dc) : Dc := if d.next.val 3 = 0 then d.next.next else if d.next.val 3 = 1 then d.next.next.next else if 3 + d.val 4 < 4 ∨ d.next.next.val 2 = 0 then (schI d).next else schI d
theorem schI_ok {d : Dc} (h : okDc d) : okDc (schI d) := by
  have h1 := Dc.next_ok h
  have h2 := Dc.next_ok h1
  have h3 := Dc.next_ok h2
  unfold schI
  split <;> assumption
theorem schD_ok {d : Dc} (h : okDc d) : okDc (schD d) := by
  have h1 := Dc.next_ok h
  have h2 := Dc.next_ok h1
  have h3 := Dc.next_ok h2
  have h4 := schI_ok h
  have h5 := Dc.next_ok h4
  unfold schD
  split
  · assumption
  · split
    · assumption
    · split <;> assumption
theorem schV_die (d : Dc) : dieS (schV d) := by
  have v0 := Dc.val_lt (d := d) (n := 4) (by omega)
  have w0 := Dc.val_nonneg (d := d) (n := 4) (by omega)
  have v1 := Dc.val_lt (d := d.next.next) (n := 2) (by omega)
  have w1 := Dc.val_nonneg (d := d.next.next) (n := 2) (by omega)
  have v2 := Dc.val_lt (d := schI d) (n := 2) (by omega)
  have w2 := Dc.val_nonneg (d := schI d) (n := 2) (by omega)
  unfold schV
  split
  · exact die1 (by omega)
  · split
    · exact die2 (by omega) (by omega)
    · split
      · exact die3 (by omega) (by omega)
      · exact die4 (by omega)
noncomputable def oddV (d : Dc) : Schm :=
  let s := schV d; let e := schD d
  if e.val 6 = 0 then ⟨e.next.val 6, s.servers, s.degree, s.group⟩ else if e.val 6 = 1 then ⟨s.kind, ([0, 1, 2, 10, 11, -1] : List Int)[(e.next.val 6).toNat]?.getD default, s.degree, s.group⟩
  else if e.val 6 = 2 then ⟨s.kind, s.servers, ([0, -1, s.servers - 1, s.servers] : List Int)[(e.next.val 4).toNat]?.getD default, s.group⟩ else if e.val 6 = 3 then ⟨s.kind, s.servers, s.degree, ([0, 1, 3, -1] : List Int)[(e.next.val 4).toNat]?.getD default⟩ else s
noncomputable def oddD (d : Dc) : Dc := if (schD d).val 6 = 0 ∨ (schD d).val 6 = 1 ∨ (schD d).val 6 = 2 ∨ (schD d).val 6 = 3 then (schD d).next.next else (schD d).next
theorem oddD_ok {d : Dc} (h : okDc d) : okDc (oddD d) := by
  have h1 := schD_ok h
  have h2 := Dc.next_ok h1
  have h3 := Dc.next_ok h2
  unfold oddD
  split <;> assumption

/-! ### Queries of valid schemes -/

noncomputable def limN (s : Schm) (n : Int) : Int := if s.kind = 1 then n * (s.servers - 1) else if s.kind = 2 then n * s.degree else (n + s.group - 1) / s.group * s.degree
theorem grp_bd {n g : Int} (hn : 1 ≤ n ∧ n ≤ 1024) (hg : 1 ≤ g ∧ g ≤ 10) : 1 ≤ (n + g - 1) / g ∧ (n + g - 1) / g ≤ 1024 := by
  constructor
  · exact (Int.le_ediv_iff_mul_le (by omega)).2 (by omega)
  · have h1 : (n + g - 1) / g * g ≤ n + g - 1 := Int.ediv_mul_le _ (by omega)
    by_cases h : (n + g - 1) / g ≤ 1024
    · exact h
    · exfalso
      have h2 : 1025 * g ≤ (n + g - 1) / g * g := Int.mul_le_mul_of_nonneg_right (by omega) (by omega)
      have : n ≤ 1024 := hn.2
      omega
theorem idx_bd {n g i : Int} (hg : 1 ≤ g) (hi : 0 ≤ i ∧ i < n) : 0 ≤ i / g ∧ i / g < (n + g - 1) / g := by
  refine ⟨Int.ediv_nonneg hi.1 (by omega), ?_⟩
  have h1 : i / g + 1 ≤ (n + g - 1) / g := by
    refine (Int.le_ediv_iff_mul_le (by omega)).2 ?_
    have : i / g * g ≤ i := Int.ediv_mul_le _ (by omega)
    rw [Int.add_mul, Int.one_mul]
    omega
  omega
theorem limN_bd {s : Schm} {p n : Int} (hv : validS s p) (hn : 1 ≤ n ∧ n ≤ 1024) : 0 ≤ limN s n ∧ limN s n ≤ 10240 := by
  have hb := shape_bd hv.1
  have hs := hv.1
  unfold shapeS at hs
  unfold limN
  split
  · have := mul_bd (a := n) (b := s.servers - 1) (A := 1024) (B := 10) (by omega) (by omega) (by omega) (by omega); omega
  · split
    · have := mul_bd (a := n) (b := s.degree) (A := 1024) (B := 10) (by omega) (by omega) (by omega) (by omega); omega
    · have h3 : s.kind = 3 := by have := shape_kind hv.1; omega
      have hg := grp_bd hn (g := s.group) (by omega)
      have := mul_bd (a := (n + s.group - 1) / s.group) (b := s.degree) (A := 1024) (B := 10) (by omega) (by omega) (by omega) (by omega); omega
theorem lim_ok {s : Schm} {p n : Int} (hv : validS s p) (hn : 1 ≤ n ∧ n ≤ 1024) : limE s p n = 0 ∧ limL s p n = List.replicate (limN s n).toNat p := by
  have hl := lookE_ok hv hn
  have hs := hv.1
  unfold shapeS at hs
  unfold limE limL limN
  rw [if_neg (Classical.not_not.2 hl), if_neg (Classical.not_not.2 hl)]
  by_cases h1 : s.kind = 1
  · have e := parE_ok (p := p) (rows := n) (s := s.servers) hv.2.1 (by omega) hn
    simp only [if_pos h1]
    exact ⟨e, by unfold limsP; rw [if_pos e]⟩
  · have hp : s.servers < p := hv.2.2.resolve_left h1
    simp only [if_neg h1]
    by_cases h2 : s.kind = 2
    · have e := planRE_ok (p := p) (s := s.servers) (d := s.degree) (rows := n) hv.2.1 (by omega) (by omega) hp hn
      simp only [if_pos h2]
      exact ⟨e, by unfold limsC; rw [if_pos e]⟩
    · have h3 : s.kind = 3 := by have := shape_kind hv.1; omega
      have e := codRE_ok (codE_ok (p := p) (s := s.servers) (d := s.degree) (g := s.group) hv.2.1 (by omega) hp (by omega) (by omega) (by omega)) (grp_bd hn (g := s.group) (by omega))
      simp only [if_neg h2]
      exact ⟨e, by unfold limsG; rw [if_pos e]⟩
theorem units_ok {s : Schm} {n : Int} (hs : shapeS s) (hn : 1 ≤ n ∧ n ≤ 1024) : unitsS s n = if s.kind = 3 then (n + s.group - 1) / s.group else n := by
  unfold unitsS
  rw [if_neg (by rintro (h | h); (· exact h hs); (· exact h hn))]
theorem qry_ok {s : Schm} {p n i : Int} {t : Tape} (hv : validS s p) (hn : 1 ≤ n ∧ n ≤ 1024) (hi : 0 ≤ i ∧ i < n) :
    qryE s p n i t = drawE t p (limN s n) ∧ (drawE t p (limN s n) = 0 → qryT s p n i t = drawT t p (limN s n) ∧ ((qryL s p n i t).length : Int) = s.servers ∧ ∀ q ∈ qryL s p n i t, (q.length : Int) = unitsS s n) := by
  have hl := lookE_ok hv hn
  have hs := hv.1
  have hsh := hv.1
  unfold shapeS at hs
  rw [units_ok hsh hn]
  have e1 : qryL s p n i t = if s.kind = 1 then pqL p n s.servers i t else if s.kind = 2 then cqL p s.servers s.degree n i t else gqL p s.servers s.degree s.group ((n + s.group - 1) / s.group) (i / s.group) t := by unfold qryL; rw [if_neg (by omega)]
  have e2 : qryE s p n i t = if s.kind = 1 then pqE p n s.servers i t else if s.kind = 2 then cqE p s.servers s.degree n i t else gqE p s.servers s.degree s.group ((n + s.group - 1) / s.group) (i / s.group) t := by unfold qryE; rw [if_neg (Classical.not_not.2 hl), if_neg (by omega)]
  have e3 : qryT s p n i t = if s.kind = 1 then pqT p n s.servers i t else if s.kind = 2 then cqT p s.servers s.degree n i t else gqT p s.servers s.degree s.group ((n + s.group - 1) / s.group) (i / s.group) t := by unfold qryT; rw [if_neg (by omega)]
  rw [e1, e2, e3]
  unfold limN
  by_cases h1 : s.kind = 1
  · have e := parE_ok (p := p) (rows := n) (s := s.servers) hv.2.1 (by omega) hn
    simp only [if_pos h1, if_neg (show ¬ s.kind = 3 by omega)]
    have eE : pqE p n s.servers i t = drawE t p (n * (s.servers - 1)) := by unfold pqE; rw [if_neg (Classical.not_not.2 e), if_neg (by omega)]
    refine ⟨eE, fun h0 => ?_⟩
    have eL : pqL p n s.servers i t = pQs (pBase t) n.toNat (s.servers - 1).toNat ++ [pLast p i n (pQs (pBase t) n.toNat (s.servers - 1).toNat)] := by unfold pqL; rw [if_pos (eE.trans h0)]
    refine ⟨by unfold pqT; rw [if_pos (eE.trans h0)], ?_, fun q hq => ?_⟩
    · rw [eL, List.length_append, pQs_len]; simp; omega
    · rw [eL] at hq
      rcases List.mem_append.1 hq with hq | hq
      · have := (pQs_all (t := t) (p := p) (rows := n) (k := (s.servers - 1).toNat) hn.1 (by rw [show (((s.servers - 1).toNat : Nat) : Int) = s.servers - 1 by omega]; exact h0) q hq).1
        omega
      · rw [List.mem_singleton.1 hq]
        unfold pLast
        rw [addT_len, unitL_len]; omega
  · have hp : s.servers < p := hv.2.2.resolve_left h1
    simp only [if_neg h1]
    by_cases h2 : s.kind = 2
    · have e := planRE_ok (p := p) (s := s.servers) (d := s.degree) (rows := n) hv.2.1 (by omega) (by omega) hp hn
      simp only [if_pos h2, if_neg (show ¬ s.kind = 3 by omega)]
      have eE : cqE p s.servers s.degree n i t = drawE t p (n * s.degree) := by unfold cqE; rw [if_neg (Classical.not_not.2 e), if_neg (by omega)]
      refine ⟨eE, fun h0 => ⟨by unfold cqT; rw [if_pos (eE.trans h0)], ?_, fun q hq => ?_⟩⟩
      · unfold cqL; rw [if_pos (eE.trans h0)]; unfold cqQ; simp; omega
      · unfold cqL at hq; rw [if_pos (eE.trans h0)] at hq
        unfold cqQ at hq
        obtain ⟨k, _, rfl⟩ := List.mem_map.1 hq
        simp; omega
    · have h3 : s.kind = 3 := by have := shape_kind hsh; omega
      have hg := grp_bd hn (g := s.group) (by omega)
      have hig := idx_bd (n := n) (g := s.group) (by omega) hi
      have e := codRE_ok (codE_ok (p := p) (s := s.servers) (d := s.degree) (g := s.group) hv.2.1 (by omega) hp (by omega) (by omega) (by omega)) hg
      simp only [if_neg h2, if_pos h3]
      have eE : gqE p s.servers s.degree s.group ((n + s.group - 1) / s.group) (i / s.group) t = drawE t p ((n + s.group - 1) / s.group * s.degree) := by unfold gqE; rw [if_neg (Classical.not_not.2 e), if_neg (by omega)]
      refine ⟨eE, fun h0 => ⟨by unfold gqT; rw [if_pos (eE.trans h0)], ?_, fun q hq => ?_⟩⟩
      · unfold gqL; rw [if_pos (eE.trans h0)]; unfold gQs; simp; omega
      · unfold gqL at hq; rw [if_pos (eE.trans h0)] at hq
        unfold gQs at hq
        obtain ⟨k, _, rfl⟩ := List.mem_map.1 hq
        simp [gRow]; omega
theorem hld_ok {s : Schm} {t : Tab} {j : Int} (hv : validS s t.p) (ht : checkT t = 0) (hn : 1 ≤ t.rows.length) (hj : 1 ≤ j ∧ j ≤ s.servers) : hldE s t j = 0 ∧ ((hldL s t j).length : Int) = unitsS s t.rows.length := by
  have hct := checkT_ok ht
  have hs := hv.1
  have hsh := hv.1
  unfold shapeS at hs
  have hn2 : 1 ≤ (t.rows.length : Int) ∧ (t.rows.length : Int) ≤ 1024 := by have := hct.2.2.2.1; omega
  rw [units_ok hsh hn2]
  unfold hldE hldL
  rw [if_neg (Classical.not_not.2 ht), if_neg (Classical.not_not.2 hv), if_neg (Classical.not_not.2 hj), if_neg (hld_no ht hv hj)]
  by_cases h3 : s.kind = 3
  · simp only [if_pos h3]
    have hp : s.servers < t.p := hv.2.2.resolve_left (by omega)
    have e := codE_ok (p := t.p) (s := s.servers) (d := s.degree) (g := s.group) hv.2.1 (by omega) hp (by omega) (by omega) (by omega)
    have eE : holdE t.p s.servers s.degree s.group t.width t.rows j = 0 := by
      unfold holdE
      rw [if_neg (Classical.not_not.2 e), if_neg (by omega), if_neg (by have := hct.2.2.1; omega)]
      refine firstErr_none fun r hr => ?_
      obtain ⟨h5, h6⟩ := hct.2.2.2.2 r hr
      unfold rowErr
      rw [if_neg (by omega), if_neg (Classical.not_not.2 h6)]
    refine ⟨eE, ?_⟩
    unfold holdG
    rw [if_pos eE, List.length_map, grpL_len]
    unfold grpN
    rw [Int.natCast_ediv]
    congr 1 <;> omega
  · simp only [if_neg h3]
    exact ⟨trivial, trivial⟩
/-- A tape that dice make is long enough. -/
theorem die_draw {p : Int} {m : Nat} {t : Tape} (hp : okP p) (hm : m ≤ 16384) (h : dieTp (List.replicate m p) t) : okTape t ∧ drawE t p m = 0 := by
  obtain ⟨h1, h2, h3⟩ := h
  rw [List.length_replicate] at h2 h3
  have hok : okTape t := ⟨by omega, by omega, by omega⟩
  refine ⟨hok, ?_⟩
  have := hp.1
  have := hp.2.1
  unfold drawE
  rw [if_neg (Classical.not_not.2 hok), if_neg (by omega), h1]
  refine stepE_ok (by simp; omega) (fun j hj => ?_)
  have hj' : j < m := by omega
  have := h3 j hj'
  simp only [Int.toNat_zero, List.drop_zero]
  rw [List.getElem?_replicate, if_pos hj'] at this
  exact this
end Go.Q

namespace Go.Q
open Go.Proofs

open Classical
/-- Dice at a place of the heap. -/
def rDc (b : Nat) (d : Dc) : Res := rCells b 89 [dSl 1 fU8 d.xs, dInt .i64 (d.k : Nat)]
theorem dnew_spec (xs : List Int) : Spec Try.prog 11 [dBy xs] [] (σ := Nat) (fun _ => True) (fun b => dVal (ptr b 0)) (fun b => [rDc b ⟨xs.take 300, 0⟩]) := by
  refine spec_of_body Try.func11 rfl rfl (fun I F => ?_)
  refine run_seq ?_
  refine run_region ?_
  refine run_op (loc_assign rfl) rfl ?_
  refine run_nil ?_
  refine run_seq ?_
  refine run_seq ?_
  refine run_region ?_
  refine run_op (loc_move rfl) rfl ?_
  refine run_op (loc_lenBy rfl) rfl ?_
  refine run_op (loc_gtr rfl rfl) rfl ?_
  refine run_nil ?_
  refine run_cond rfl (fun h1 => ?_) (fun h1 => ?_)
  ·
    refine run_region ?_
    refine run_op (loc_move rfl) rfl ?_
    refine run_op (loc_sliceToBy rfl rfl (by omega)) rfl ?_
    refine run_op (loc_assign rfl) rfl ?_
    refine run_nil ?_
    refine run_seq ?_
    refine run_region ?_
    refine run_op (loc_move rfl) rfl ?_
    refine run_op (loc_build (.one rfl rfl rfl (.nil))) rfl ?_
    refine run_new (loc_boxOwnN rfl) rfl (fun b2 _ => ?_)
    refine run_op (loc_assign rfl) rfl ?_
    refine run_nil ?_
    refine run_ret (b2) Try.func11 rfl rfl ?_ (trivial) (fun _ _ h => h)
    exact fun _ _ h => h
  ·
    refine run_recast (s := 0) rfl (dBy_sl (by omega)) ?_
    refine run_skip ?_
    refine run_seq ?_
    refine run_region ?_
    refine run_op (loc_move rfl) rfl ?_
    refine run_op (loc_build (.one rfl rfl rfl (.nil))) rfl ?_
    refine run_new (loc_boxOwnN rfl) rfl (fun b3 _ => ?_)
    refine run_op (loc_assign rfl) rfl ?_
    refine run_nil ?_
    refine run_ret (b3) Try.func11 rfl rfl ?_ (trivial) (fun _ _ h => by rw [show xs.take 300 = xs from List.take_of_length_le (by omega)]; exact h)
    exact fun _ _ h => h

theorem pick_spec (b : Nat) (d : Dc) (n : Int) (h : okDc d) (hn : 1 ≤ n) : Spec Try.prog 16 [dVal (ptr b 0), dInt .i64 n] [rDc b d] (σ := Unit) (fun _ => True) (fun _ => dInt .i64 (d.val n)) (fun _ => [rDc b d.next]) := by
  refine spec_of_body Try.func16 rfl rfl (fun I F => ?_)
  show Run _ _ _ _ _ _ (rCells b 89 [dSl 1 fU8 d.xs, dInt .i64 (d.k : Nat)] :: F) _
  refine run_seq ?_
  have hlen := h.len
  refine run_region ?_
  refine run_op (loc_assign rfl) rfl ?_
  refine run_nil ?_
  refine run_seq ?_
  refine run_seq ?_
  refine dr_start _ (.none) [⟨[(0, none)], [], none⟩,
      ⟨[(5, some (0, false))], [0], none⟩,
      ⟨[(6, some (1, false))], [0, 1], none⟩,
      ⟨[(7, some (2, false))], [0, 1, 2], some (0, 0, false)⟩,
      ⟨[(0, none)], [], none⟩,
      ⟨[(9, some (4, false))], [4], none⟩,
      ⟨[(10, some (5, false))], [4, 5], none⟩,
      ⟨[(11, some (6, false))], [4, 5, 6], some (0, 0, false)⟩,
      ⟨[(12, some (7, false))], [4, 5, 6, 7], none⟩,
      ⟨[(8, some (3, false)), (13, some (8, false))], [0, 1, 2, 3, 4, 5, 6, 7, 8], none⟩] [_] _ rfl rfl ?_
  refine dq_pure rfl (fun s => .g rfl (.nil)) (fun s hs _ => loc_move rfl) (by exact .nil) ?_
  refine dq_pure rfl (fun s => .op rfl (.nil)) (fun s hs _ => loc_nilCheckOwn rfl) (by exact .nil) ?_
  refine dq_pure rfl (fun s => .op rfl (.nil)) (fun s hs _ => loc_fieldAddrOwn rfl) (by exact .nil) ?_
  refine dq_read rfl (fun s => .op rfl (.nil)) rfl rfl (fun s hs _ hm => loc_loadOwn1 rfl hm (by rfl)) (by exact .nil) ?_
  refine dq_pure rfl (fun s => .g rfl (.nil)) (fun s hs _ => loc_move rfl) (by exact .nil) ?_
  refine dq_pure rfl (fun s => .op rfl (.nil)) (fun s hs _ => loc_nilCheckOwn rfl) (by exact .nil) ?_
  refine dq_pure rfl (fun s => .op rfl (.nil)) (fun s hs _ => loc_fieldAddrOwn rfl) (by exact .nil) ?_
  refine dq_read rfl (fun s => .op rfl (.nil)) rfl rfl (fun s hs _ hm => loc_loadOwn1 rfl hm (by rfl)) (by exact .nil) ?_
  refine dq_pure rfl (fun s => .op rfl (.nil)) (fun s hs _ => loc_len rfl) (by exact .nil) ?_
  refine dq_pure rfl (fun s => .op rfl (.op rfl (.nil))) (fun s hs _ => loc_geq rfl rfl) (by exact .nil) ?_
  refine dq_end (rs := [_]) () rfl (fun _ => rfl) (.nil) rfl (fun _ _ => ?_)
  dsimp only [outG, outM, List.map, List.set, id]
  refine run_cond rfl (fun h1 => ?_) (fun h1 => ?_)
  ·
    refine run_seq ?_
    refine run_region ?_
    refine run_op (loc_assign rfl) rfl ?_
    refine run_nil ?_
    refine run_ret (()) Try.func16 rfl rfl ?_ (trivial) (fun _ _ h => by unfold Dc.next rDc; rw [if_neg (by omega)]; exact h)
    exact d_int (by unfold Dc.val; rw [if_neg (by omega)])
  ·
    refine run_skip ?_
    refine run_seq ?_
    refine run_region ?_
    refine run_op (loc_move rfl) rfl ?_
    refine run_op (loc_nilCheckOwn rfl) rfl ?_
    refine run_op (loc_fieldAddrOwn rfl) rfl ?_
    refine run_op (loc_loadOwn1 rfl (.here) (by rfl)) rfl ?_
    first | refine run_op (loc_add rfl rfl (by first | omega | assumption)) rfl ?_ | refine run_op (loc_addW rfl rfl) rfl ?_
    refine run_op (loc_nilCheckOwn rfl) rfl ?_
    refine run_op (loc_fieldAddrOwn rfl) rfl ?_
    refine run_store1 rfl rfl (.here) (by rfl) ?_
    refine run_nil ?_
    refine run_seq ?_
    have hx := h.byte (d.xs[((d.k : Int) + 1 - 1).toNat]?.getD default) (getD_mem (by omega))
    refine dr_start _ (.none) [⟨[(0, none)], [], none⟩,
        ⟨[(22, some (0, false))], [0], none⟩,
        ⟨[(23, some (1, false))], [0, 1], none⟩,
        ⟨[(24, some (2, false))], [0, 1, 2], some (0, 0, false)⟩,
        ⟨[(0, none)], [], none⟩,
        ⟨[(26, some (4, false))], [4], none⟩,
        ⟨[(27, some (5, false))], [4, 5], none⟩,
        ⟨[(28, some (6, false))], [4, 5, 6], some (0, 0, false)⟩,
        ⟨[(29, some (7, false))], [4, 5, 6, 7], none⟩,
        ⟨[(25, some (3, false)), (30, some (8, false))], [0, 1, 2, 3, 4, 5, 6, 7, 8], none⟩,
        ⟨[(31, some (9, false))], [0, 1, 2, 3, 4, 5, 6, 7, 8, 9], none⟩,
        ⟨[(32, some (10, false))], [0, 1, 2, 3, 4, 5, 6, 7, 8, 9, 10], none⟩,
        ⟨[(1, none)], [], none⟩,
        ⟨[(33, some (11, false)), (34, some (12, false))], [0, 1, 2, 3, 4, 5, 6, 7, 8, 9, 10, 11, 12], none⟩,
        ⟨[(35, some (13, false))], [0, 1, 2, 3, 4, 5, 6, 7, 8, 9, 10, 11, 12, 13], none⟩] [_] _ rfl rfl ?_
    refine dq_pure rfl (fun s => .g rfl (.nil)) (fun s hs _ => loc_move rfl) (by exact .nil) ?_
    refine dq_pure rfl (fun s => .op rfl (.nil)) (fun s hs _ => loc_nilCheckOwn rfl) (by exact .nil) ?_
    refine dq_pure rfl (fun s => .op rfl (.nil)) (fun s hs _ => loc_fieldAddrOwn rfl) (by exact .nil) ?_
    refine dq_read rfl (fun s => .op rfl (.nil)) rfl rfl (fun s hs _ hm => loc_loadOwn1 rfl hm (by rfl)) (by exact .nil) ?_
    refine dq_pure rfl (fun s => .g rfl (.nil)) (fun s hs _ => loc_move rfl) (by exact .nil) ?_
    refine dq_pure rfl (fun s => .op rfl (.nil)) (fun s hs _ => loc_nilCheckOwn rfl) (by exact .nil) ?_
    refine dq_pure rfl (fun s => .op rfl (.nil)) (fun s hs _ => loc_fieldAddrOwn rfl) (by exact .nil) ?_
    refine dq_read rfl (fun s => .op rfl (.nil)) rfl rfl (fun s hs _ hm => loc_loadOwn1 rfl hm (by rfl)) (by exact .nil) ?_
    first | refine dq_pure rfl (fun s => .op rfl (.nil)) (fun s hs _ => loc_sub rfl rfl (by first | omega | assumption)) (by exact .nil) ?_ | refine dq_pure rfl (fun s => .op rfl (.nil)) (fun s hs _ => loc_subW rfl rfl) (by exact .nil) ?_
    first | refine dq_pure rfl (fun s => .op rfl (.op rfl (.nil))) (fun s hs _ => loc_index rfl rfl (by first | omega | assumption)) (by exact .nil) ?_ | refine dq_pure rfl (fun s => .op rfl (.op rfl (.nil))) (fun s hs _ => loc_indexI rfl rfl (by first | omega | assumption)) (by exact .nil) ?_
    refine dq_pure rfl (fun s => .op rfl (.nil)) (fun s hs _ => loc_load1 rfl) (by exact .nil) ?_
    first | refine dq_pure rfl (fun s => .op rfl (.nil)) (fun s hs _ => loc_conv rfl (by first | omega | assumption)) (by exact .nil) ?_ | refine dq_pure rfl (fun s => .op rfl (.nil)) (fun s hs _ => loc_convW rfl) (by exact .nil) ?_
    refine dq_pure rfl (fun s => .g rfl (.nil)) (fun s hs _ => loc_move rfl) (by exact .nil) ?_
    first | refine dq_pure rfl (fun s => .op rfl (.op rfl (.nil))) (fun s hs _ => loc_rem rfl rfl (by first | omega | assumption)) (by exact .nil) ?_ | refine dq_pure rfl (fun s => .op rfl (.op rfl (.nil))) (fun s hs _ => loc_remW rfl rfl (by first | omega | assumption)) (by exact .nil) ?_
    refine dq_pure rfl (fun s => .op rfl (.nil)) (fun s hs _ => loc_assign rfl) (by exact .nil) ?_
    refine dq_end (rs := [_]) () rfl (fun _ => rfl) (.nil) rfl (fun _ _ => ?_)
    dsimp only [outG, outM, List.map, List.set, id]
    refine run_ret (()) Try.func16 rfl rfl ?_ (trivial) (fun _ _ h => by unfold Dc.next rDc; rw [if_pos (by omega)]; exact h)
    exact d_int (by unfold Dc.val; rw [if_pos (by omega)]; congr 3; omega)

end Go.Q
