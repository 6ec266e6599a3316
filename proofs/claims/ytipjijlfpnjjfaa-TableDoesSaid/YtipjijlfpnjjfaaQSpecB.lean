/- Contracts of digests and roots. -/
import Derived.Test.YtipjijlfpnjjfaaQSpecA
set_option linter.unusedVariables false
set_option linter.unusedSimpArgs false
namespace Go.Q
open Go.Proofs

open Classical
theorem mod_spec (x : Int) : SpecP Try.prog 58 [dInt .i64 x] (dInt .i64 (modD x)) := by
  have hb := tmod_bd x 2147483647 (by omega)
  refine specP_of_body Try.func58 rfl rfl (fun I M => ?_)
  refine run_seq ?_
  refine run_region ?_
  refine run_op (loc_assign rfl) rfl ?_
  refine run_nil ?_
  refine run_seq ?_
  refine run_region ?_
  refine run_op (loc_move rfl) rfl ?_
  first | refine run_op (loc_rem rfl rfl (by first | omega | assumption)) rfl ?_ | refine run_op (loc_remW rfl rfl (by first | omega | assumption)) rfl ?_
  refine run_op (loc_assign rfl) rfl ?_
  refine run_nil ?_
  refine run_seq ?_
  refine run_seq ?_
  refine run_region ?_
  refine run_op (loc_move rfl) rfl ?_
  refine run_op (loc_lss rfl rfl) rfl ?_
  refine run_nil ?_
  refine run_cond rfl (fun h1 => ?_) (fun h1 => ?_)
  ·
    refine run_region ?_
    refine run_op (loc_move rfl) rfl ?_
    first | refine run_op (loc_add rfl rfl (by first | omega | assumption)) rfl ?_ | refine run_op (loc_addW rfl rfl) rfl ?_
    refine run_op (loc_assign rfl) rfl ?_
    refine run_nil ?_
    refine run_seq ?_
    refine run_region ?_
    refine run_op (loc_move rfl) rfl ?_
    refine run_op (loc_assign rfl) rfl ?_
    refine run_nil ?_
    refine run_retP Try.func58 rfl rfl ?_
    exact d_int (by rw [← modD_t, if_pos (by assumption)])
  ·
    refine run_skip ?_
    refine run_seq ?_
    refine run_region ?_
    refine run_op (loc_move rfl) rfl ?_
    refine run_op (loc_assign rfl) rfl ?_
    refine run_nil ?_
    refine run_retP Try.func58 rfl rfl ?_
    exact d_int (by rw [← modD_t, if_neg (by assumption)])

theorem rmod_spec (x : Int) : SpecP Try.prog 50 [dInt .i64 x] (dInt .i64 (modD x)) := by
  have hb := tmod_bd x 2147483647 (by omega)
  refine specP_of_body Try.func50 rfl rfl (fun I M => ?_)
  refine run_seq ?_
  refine run_region ?_
  refine run_op (loc_assign rfl) rfl ?_
  refine run_nil ?_
  refine run_seq ?_
  refine run_region ?_
  refine run_op (loc_move rfl) rfl ?_
  first | refine run_op (loc_rem rfl rfl (by first | omega | assumption)) rfl ?_ | refine run_op (loc_remW rfl rfl (by first | omega | assumption)) rfl ?_
  first | refine run_op (loc_add rfl rfl (by first | omega | assumption)) rfl ?_ | refine run_op (loc_addW rfl rfl) rfl ?_
  first | refine run_op (loc_rem rfl rfl (by first | omega | assumption)) rfl ?_ | refine run_op (loc_remW rfl rfl (by first | omega | assumption)) rfl ?_
  refine run_op (loc_assign rfl) rfl ?_
  refine run_nil ?_
  refine run_retP Try.func50 rfl rfl ?_
  exact d_int (mod_twice x 2147483647 (by omega))

theorem row_spec (xs : List Int) : SpecP Try.prog 43 [dInts xs] (dInt .i64 (rowD xs)) := by
  refine specP_of_body Try.func43 rfl rfl (fun I M => ?_)
  refine run_seq ?_
  refine run_fact (s := 0) rfl (fun _ _ h => dSl_len h) (fun hlen => ?_)
  refine run_region ?_
  refine run_op (loc_assign rfl) rfl ?_
  refine run_nil ?_
  refine run_seq ?_
  refine run_region ?_
  refine run_op (loc_assign rfl) rfl ?_
  refine run_nil ?_
  refine run_seq ?_
  refine run_seq ?_
  refine run_region ?_
  refine run_op (loc_move rfl) rfl ?_
  refine run_op (loc_len rfl) rfl ?_
  refine run_op (loc_move rfl) rfl ?_
  refine run_nil ?_
  refine run_block ?_
  refine run_loop' (σ := Nat) (fun k => [(6, dInts xs), (7, dInt .i64 xs.length), (8, dInt .i64 (k : Nat)), (3, dInt .i64 (rowD (xs.take k)))]) (fun k => M) (fun k => k ≤ xs.length) (fun k => xs.length - k) (0) (Nat.zero_le _) (.cons rfl (by first | exact fun _ _ h => h | exact d_int (by omega) | exact d_int (by simp) | exact d_intN (by omega) | exact d_any) (.cons rfl (by first | exact fun _ _ h => h | exact d_int (by omega) | exact d_int (by simp) | exact d_intN (by omega) | exact d_any) (.cons rfl (by first | exact fun _ _ h => h | exact d_int (by omega) | exact d_int (by simp) | exact d_intN (by omega) | exact d_any) (.cons rfl (by first | exact fun _ _ h => h | exact d_int (by omega) | exact d_int (by simp) | exact d_intN (by omega) | exact d_any) .nil)))) rfl ?_
  intro k hk ih1
  refine run_seq ?_
  refine run_region ?_
  refine run_op (loc_lss rfl rfl) rfl ?_
  refine run_nil ?_
  refine run_seq ?_
  refine run_cond rfl (fun h2 => ?_) (fun h2 => ?_)
  ·
    refine run_skip ?_
    refine run_seq ?_
    refine run_block ?_
    refine run_seq ?_
    refine run_region ?_
    first | refine run_op (loc_index rfl rfl (by first | omega | assumption)) rfl ?_ | refine run_op (loc_indexI rfl rfl (by first | omega | assumption)) rfl ?_
    refine run_op (loc_load1 rfl) rfl ?_
    refine run_op (loc_assign rfl) rfl ?_
    refine run_nil ?_
    have hb := rowD_bd (xs.take k)
    have hm := modD_bd (xs[k]?.getD default)
    refine run_region ?_
    refine run_op (loc_move rfl) rfl ?_
    first | refine run_op (loc_mul rfl rfl (by first | omega | assumption)) rfl ?_ | refine run_op (loc_mulW rfl rfl) rfl ?_
    refine run_op (loc_move rfl) rfl ?_
    refine run_op (loc_call (mod_spec _) rfl) rfl ?_
    first | refine run_op (loc_add rfl rfl (by first | omega | assumption)) rfl ?_ | refine run_op (loc_addW rfl rfl) rfl ?_
    first | refine run_op (loc_add rfl rfl (by first | omega | assumption)) rfl ?_ | refine run_op (loc_addW rfl rfl) rfl ?_
    first | refine run_op (loc_rem rfl rfl (by first | omega | assumption)) rfl ?_ | refine run_op (loc_remW rfl rfl (by first | omega | assumption)) rfl ?_
    refine run_op (loc_assign rfl) rfl ?_
    refine run_nil ?_
    refine run_inBlock ?_
    refine run_region ?_
    first | refine run_op (loc_add rfl rfl (by first | omega | assumption)) rfl ?_ | refine run_op (loc_addW rfl rfl) rfl ?_
    refine run_op (loc_move rfl) rfl ?_
    refine run_nil ?_
    exact run_again ih1 (k + 1) (by omega) (by omega) (.cons rfl (by first | exact fun _ _ h => h | exact d_int (by omega) | exact d_int (by simp) | exact d_intN (by omega) | exact d_any) (.cons rfl (by first | exact fun _ _ h => h | exact d_int (by omega) | exact d_int (by simp) | exact d_intN (by omega) | exact d_any) (.cons rfl (by first | exact fun _ _ h => h | exact d_int (by omega) | exact d_int (by simp) | exact d_intN (by omega) | exact d_any) (.cons rfl (d_int (by unfold rowD; rw [foldl_take _ _ _ _ (by omega)]; rfl)) .nil)))) (rfl)
  ·
    refine run_exit rfl ?_
    refine run_seq ?_
    refine run_region ?_
    refine run_op (loc_move rfl) rfl ?_
    refine run_op (loc_assign rfl) rfl ?_
    refine run_nil ?_
    refine run_retP Try.func43 rfl rfl ?_
    exact d_int (by rw [List.take_of_length_le (by omega)])

theorem rrow_spec (xs : List Int) : SpecP Try.prog 37 [dInts xs] (dInt .i64 (rowD xs)) := by
  refine specP_of_body Try.func37 rfl rfl (fun I M => ?_)
  refine run_seq ?_
  refine run_fact (s := 0) rfl (fun _ _ h => dSl_len h) (fun hlen => ?_)
  refine run_region ?_
  refine run_op (loc_assign rfl) rfl ?_
  refine run_nil ?_
  refine run_seq ?_
  refine run_region ?_
  refine run_op (loc_assign rfl) rfl ?_
  refine run_nil ?_
  refine run_seq ?_
  refine run_seq ?_
  refine run_region ?_
  refine run_op (loc_move rfl) rfl ?_
  refine run_op (loc_len rfl) rfl ?_
  refine run_op (loc_move rfl) rfl ?_
  refine run_nil ?_
  refine run_block ?_
  refine run_loop' (σ := Nat) (fun k => [(6, dInts xs), (7, dInt .i64 xs.length), (8, dInt .i64 (k : Nat)), (3, dInt .i64 (rowD (xs.take k)))]) (fun k => M) (fun k => k ≤ xs.length) (fun k => xs.length - k) (0) (Nat.zero_le _) (.cons rfl (by first | exact fun _ _ h => h | exact d_int (by omega) | exact d_int (by simp) | exact d_intN (by omega) | exact d_any) (.cons rfl (by first | exact fun _ _ h => h | exact d_int (by omega) | exact d_int (by simp) | exact d_intN (by omega) | exact d_any) (.cons rfl (by first | exact fun _ _ h => h | exact d_int (by omega) | exact d_int (by simp) | exact d_intN (by omega) | exact d_any) (.cons rfl (by first | exact fun _ _ h => h | exact d_int (by omega) | exact d_int (by simp) | exact d_intN (by omega) | exact d_any) .nil)))) rfl ?_
  intro k hk ih1
  refine run_seq ?_
  refine run_region ?_
  refine run_op (loc_lss rfl rfl) rfl ?_
  refine run_nil ?_
  refine run_seq ?_
  refine run_cond rfl (fun h2 => ?_) (fun h2 => ?_)
  ·
    refine run_skip ?_
    refine run_seq ?_
    refine run_block ?_
    refine run_seq ?_
    refine run_region ?_
    first | refine run_op (loc_index rfl rfl (by first | omega | assumption)) rfl ?_ | refine run_op (loc_indexI rfl rfl (by first | omega | assumption)) rfl ?_
    refine run_op (loc_load1 rfl) rfl ?_
    refine run_op (loc_assign rfl) rfl ?_
    refine run_nil ?_
    have hb := rowD_bd (xs.take k)
    have hm := modD_bd (xs[k]?.getD default)
    refine run_region ?_
    refine run_op (loc_move rfl) rfl ?_
    first | refine run_op (loc_mul rfl rfl (by first | omega | assumption)) rfl ?_ | refine run_op (loc_mulW rfl rfl) rfl ?_
    refine run_op (loc_move rfl) rfl ?_
    refine run_op (loc_call (rmod_spec _) rfl) rfl ?_
    first | refine run_op (loc_add rfl rfl (by first | omega | assumption)) rfl ?_ | refine run_op (loc_addW rfl rfl) rfl ?_
    first | refine run_op (loc_add rfl rfl (by first | omega | assumption)) rfl ?_ | refine run_op (loc_addW rfl rfl) rfl ?_
    first | refine run_op (loc_rem rfl rfl (by first | omega | assumption)) rfl ?_ | refine run_op (loc_remW rfl rfl (by first | omega | assumption)) rfl ?_
    refine run_op (loc_assign rfl) rfl ?_
    refine run_nil ?_
    refine run_inBlock ?_
    refine run_region ?_
    first | refine run_op (loc_add rfl rfl (by first | omega | assumption)) rfl ?_ | refine run_op (loc_addW rfl rfl) rfl ?_
    refine run_op (loc_move rfl) rfl ?_
    refine run_nil ?_
    exact run_again ih1 (k + 1) (by omega) (by omega) (.cons rfl (by first | exact fun _ _ h => h | exact d_int (by omega) | exact d_int (by simp) | exact d_intN (by omega) | exact d_any) (.cons rfl (by first | exact fun _ _ h => h | exact d_int (by omega) | exact d_int (by simp) | exact d_intN (by omega) | exact d_any) (.cons rfl (by first | exact fun _ _ h => h | exact d_int (by omega) | exact d_int (by simp) | exact d_intN (by omega) | exact d_any) (.cons rfl (d_int (by unfold rowD; rw [foldl_take _ _ _ _ (by omega)]; rfl)) .nil)))) (rfl)
  ·
    refine run_exit rfl ?_
    refine run_seq ?_
    refine run_region ?_
    refine run_op (loc_move rfl) rfl ?_
    refine run_op (loc_assign rfl) rfl ?_
    refine run_nil ?_
    refine run_retP Try.func37 rfl rfl ?_
    exact d_int (by rw [List.take_of_length_le (by omega)])

theorem node_spec (a b : Int) : SpecP Try.prog 60 [dInt .i64 a, dInt .i64 b] (dInt .i64 (nodeD a b)) := by
  have h1 := modD_bd a
  have h2 := modD_bd b
  refine specP_of_body Try.func60 rfl rfl (fun I M => ?_)
  refine run_seq ?_
  refine run_region ?_
  refine run_op (loc_assign rfl) rfl ?_
  refine run_nil ?_
  refine run_seq ?_
  refine run_region ?_
  refine run_op (loc_move rfl) rfl ?_
  refine run_op (loc_call (mod_spec _) rfl) rfl ?_
  first | refine run_op (loc_mul rfl rfl (by first | omega | assumption)) rfl ?_ | refine run_op (loc_mulW rfl rfl) rfl ?_
  refine run_op (loc_move rfl) rfl ?_
  refine run_op (loc_call (mod_spec _) rfl) rfl ?_
  first | refine run_op (loc_add rfl rfl (by first | omega | assumption)) rfl ?_ | refine run_op (loc_addW rfl rfl) rfl ?_
  first | refine run_op (loc_add rfl rfl (by first | omega | assumption)) rfl ?_ | refine run_op (loc_addW rfl rfl) rfl ?_
  first | refine run_op (loc_rem rfl rfl (by first | omega | assumption)) rfl ?_ | refine run_op (loc_remW rfl rfl (by first | omega | assumption)) rfl ?_
  refine run_op (loc_assign rfl) rfl ?_
  refine run_nil ?_
  refine run_retP Try.func60 rfl rfl ?_
  exact fun _ _ h => h

theorem rnode_spec (a b : Int) : SpecP Try.prog 51 [dInt .i64 a, dInt .i64 b] (dInt .i64 (nodeD a b)) := by
  have h1 := modD_bd a
  have h2 := modD_bd b
  refine specP_of_body Try.func51 rfl rfl (fun I M => ?_)
  refine run_seq ?_
  refine run_region ?_
  refine run_op (loc_assign rfl) rfl ?_
  refine run_nil ?_
  refine run_seq ?_
  refine run_region ?_
  refine run_op (loc_move rfl) rfl ?_
  refine run_op (loc_call (rmod_spec _) rfl) rfl ?_
  first | refine run_op (loc_mul rfl rfl (by first | omega | assumption)) rfl ?_ | refine run_op (loc_mulW rfl rfl) rfl ?_
  refine run_op (loc_move rfl) rfl ?_
  refine run_op (loc_call (rmod_spec _) rfl) rfl ?_
  first | refine run_op (loc_add rfl rfl (by first | omega | assumption)) rfl ?_ | refine run_op (loc_addW rfl rfl) rfl ?_
  first | refine run_op (loc_add rfl rfl (by first | omega | assumption)) rfl ?_ | refine run_op (loc_addW rfl rfl) rfl ?_
  first | refine run_op (loc_rem rfl rfl (by first | omega | assumption)) rfl ?_ | refine run_op (loc_remW rfl rfl (by first | omega | assumption)) rfl ?_
  refine run_op (loc_assign rfl) rfl ?_
  refine run_nil ?_
  refine run_retP Try.func51 rfl rfl ?_
  exact fun _ _ h => h

theorem proper_spec (x : Int) : SpecP Try.prog 59 [dInt .i64 x] (dB (goodD x)) := by
  refine specP_of_body Try.func59 rfl rfl (fun I M => ?_)
  refine run_seq ?_
  refine run_region ?_
  refine run_op (loc_assign rfl) rfl ?_
  refine run_nil ?_
  refine run_seq ?_
  refine run_region ?_
  refine run_op (loc_move rfl) rfl ?_
  refine run_op (loc_geq rfl rfl) rfl ?_
  refine run_op (loc_move rfl) rfl ?_
  refine run_gfirst rfl rfl (by first | exact guard_true _ | exact guard_false _ | exact guard_if (guard_true _) | exact guard_if (guard_false _)) (fun hg => loc_move rfl) rfl ?_
  refine run_gop rfl rfl (by first | exact guard_true _ | exact guard_false _ | exact guard_if (guard_true _) | exact guard_if (guard_false _)) (fun hg => loc_lss rfl rfl) rfl ?_
  refine run_gleave ?_
  refine run_op (loc_and rfl rfl) rfl ?_
  refine run_op (loc_assign rfl) rfl ?_
  refine run_nil ?_
  refine run_retP Try.func59 rfl rfl ?_
  exact fun _ _ h => h

theorem check_spec (xs : List Int) : SpecP Try.prog 52 [dInts xs] (dInt .i64 (listErr xs)) := by
  refine specP_of_body Try.func52 rfl rfl (fun I M => ?_)
  refine run_seq ?_
  refine run_region ?_
  refine run_op (loc_assign rfl) rfl ?_
  refine run_nil ?_
  refine run_seq ?_
  refine run_seq ?_
  refine run_region ?_
  refine run_op (loc_move rfl) rfl ?_
  refine run_op (loc_len rfl) rfl ?_
  refine run_op (loc_gtr rfl rfl) rfl ?_
  refine run_nil ?_
  refine run_cond rfl (fun h1 => ?_) (fun h1 => ?_)
  ·
    refine run_seq ?_
    refine run_region ?_
    refine run_op (loc_assign rfl) rfl ?_
    refine run_nil ?_
    refine run_retP Try.func52 rfl rfl ?_
    exact d_int (by unfold listErr; rw [if_pos (by omega)])
  ·
    refine run_skip ?_
    refine run_seq ?_
    refine run_seq ?_
    refine run_region ?_
    refine run_op (loc_move rfl) rfl ?_
    refine run_op (loc_len rfl) rfl ?_
    refine run_op (loc_move rfl) rfl ?_
    refine run_nil ?_
    refine run_block ?_
    refine run_loop' (σ := Nat) (fun k => [(8, dInts xs), (9, dInt .i64 xs.length), (10, dInt .i64 (k : Nat))]) (fun k => M) (fun k => k ≤ xs.length ∧ ∀ j, j < k → goodD (xs[j]?.getD default)) (fun k => xs.length - k) (0) (⟨Nat.zero_le _, fun j hj => by omega⟩) (.cons rfl (by first | exact fun _ _ h => h | exact d_int (by omega) | exact d_int (by simp) | exact d_intN (by omega) | exact d_any) (.cons rfl (by first | exact fun _ _ h => h | exact d_int (by omega) | exact d_int (by simp) | exact d_intN (by omega) | exact d_any) (.cons rfl (by first | exact fun _ _ h => h | exact d_int (by omega) | exact d_int (by simp) | exact d_intN (by omega) | exact d_any) .nil))) rfl ?_
    rintro k ⟨hk, hb⟩ ih2
    refine run_seq ?_
    refine run_region ?_
    refine run_op (loc_lss rfl rfl) rfl ?_
    refine run_nil ?_
    refine run_seq ?_
    refine run_cond rfl (fun h3 => ?_) (fun h3 => ?_)
    ·
      refine run_skip ?_
      refine run_seq ?_
      refine run_block ?_
      refine run_seq ?_
      refine run_region ?_
      first | refine run_op (loc_index rfl rfl (by first | omega | assumption)) rfl ?_ | refine run_op (loc_indexI rfl rfl (by first | omega | assumption)) rfl ?_
      refine run_op (loc_load1 rfl) rfl ?_
      refine run_op (loc_assign rfl) rfl ?_
      refine run_nil ?_
      refine run_seq ?_
      refine run_region ?_
      refine run_op (loc_move rfl) rfl ?_
      refine run_op (loc_call (proper_spec _) rfl) rfl ?_
      refine run_op (loc_not rfl) rfl ?_
      refine run_nil ?_
      refine run_cond rfl (fun h4 => ?_) (fun h4 => ?_)
      ·
        have hg : ¬ goodD (xs[k]?.getD default) := h4
        refine run_seq ?_
        refine run_region ?_
        refine run_op (loc_assign rfl) rfl ?_
        refine run_nil ?_
        refine run_retP Try.func52 rfl rfl ?_
        exact d_int (by unfold listErr; rw [if_neg (by omega), firstErr_at (i := k) (by omega) (fun j hj => if_pos (hb j hj)) (by rw [if_neg hg]; omega), if_neg hg])
      ·
        have hg : goodD (xs[k]?.getD default) := Classical.not_not.1 h4
        refine run_skip ?_
        refine run_inBlock ?_
        refine run_region ?_
        first | refine run_op (loc_add rfl rfl (by first | omega | assumption)) rfl ?_ | refine run_op (loc_addW rfl rfl) rfl ?_
        refine run_op (loc_move rfl) rfl ?_
        refine run_nil ?_
        exact run_again ih2 (k + 1) (⟨by omega, fun j hj => by by_cases e : j = k; (· subst e; exact hg); (· exact hb j (by omega))⟩) (by omega) (.cons rfl (by first | exact fun _ _ h => h | exact d_int (by omega) | exact d_int (by simp) | exact d_intN (by omega) | exact d_any) (.cons rfl (by first | exact fun _ _ h => h | exact d_int (by omega) | exact d_int (by simp) | exact d_intN (by omega) | exact d_any) (.cons rfl (by first | exact fun _ _ h => h | exact d_int (by omega) | exact d_int (by simp) | exact d_intN (by omega) | exact d_any) .nil))) (rfl)
    ·
      refine run_exit rfl ?_
      refine run_seq ?_
      refine run_region ?_
      refine run_op (loc_assign rfl) rfl ?_
      refine run_nil ?_
      refine run_retP Try.func52 rfl rfl ?_
      exact d_int (by unfold listErr; rw [if_neg (by omega), firstErr_none' (fun j hj => if_pos (hb j (by omega)))])

theorem list_spec (xs : List Int) : SpecP Try.prog 38 [dInts xs] (dInt .i64 (listErr xs)) := by
  refine specP_of_body Try.func38 rfl rfl (fun I M => ?_)
  refine run_seq ?_
  refine run_region ?_
  refine run_op (loc_assign rfl) rfl ?_
  refine run_nil ?_
  refine run_seq ?_
  refine run_seq ?_
  refine run_region ?_
  refine run_op (loc_move rfl) rfl ?_
  refine run_op (loc_len rfl) rfl ?_
  refine run_op (loc_gtr rfl rfl) rfl ?_
  refine run_nil ?_
  refine run_cond rfl (fun h1 => ?_) (fun h1 => ?_)
  ·
    refine run_seq ?_
    refine run_region ?_
    refine run_op (loc_assign rfl) rfl ?_
    refine run_nil ?_
    refine run_retP Try.func38 rfl rfl ?_
    exact d_int (by unfold listErr; rw [if_pos (by omega)])
  ·
    refine run_skip ?_
    refine run_seq ?_
    refine run_seq ?_
    refine run_region ?_
    refine run_op (loc_move rfl) rfl ?_
    refine run_op (loc_len rfl) rfl ?_
    refine run_op (loc_move rfl) rfl ?_
    refine run_nil ?_
    refine run_block ?_
    refine run_loop' (σ := Nat) (fun k => [(8, dInts xs), (9, dInt .i64 xs.length), (10, dInt .i64 (k : Nat))]) (fun k => M) (fun k => k ≤ xs.length ∧ ∀ j, j < k → goodD (xs[j]?.getD default)) (fun k => xs.length - k) (0) (⟨Nat.zero_le _, fun j hj => by omega⟩) (.cons rfl (by first | exact fun _ _ h => h | exact d_int (by omega) | exact d_int (by simp) | exact d_intN (by omega) | exact d_any) (.cons rfl (by first | exact fun _ _ h => h | exact d_int (by omega) | exact d_int (by simp) | exact d_intN (by omega) | exact d_any) (.cons rfl (by first | exact fun _ _ h => h | exact d_int (by omega) | exact d_int (by simp) | exact d_intN (by omega) | exact d_any) .nil))) rfl ?_
    rintro k ⟨hk, hb⟩ ih2
    refine run_seq ?_
    refine run_region ?_
    refine run_op (loc_lss rfl rfl) rfl ?_
    refine run_nil ?_
    refine run_seq ?_
    refine run_cond rfl (fun h3 => ?_) (fun h3 => ?_)
    ·
      refine run_skip ?_
      refine run_seq ?_
      refine run_block ?_
      refine run_seq ?_
      refine run_region ?_
      first | refine run_op (loc_index rfl rfl (by first | omega | assumption)) rfl ?_ | refine run_op (loc_indexI rfl rfl (by first | omega | assumption)) rfl ?_
      refine run_op (loc_load1 rfl) rfl ?_
      refine run_op (loc_assign rfl) rfl ?_
      refine run_nil ?_
      refine run_seq ?_
      refine run_region ?_
      refine run_op (loc_move rfl) rfl ?_
      refine run_op (loc_lss rfl rfl) rfl ?_
      refine run_op (loc_move rfl) rfl ?_
      refine run_gfirst rfl rfl (by first | exact guard_true _ | exact guard_false _ | exact guard_if (guard_true _) | exact guard_if (guard_false _)) (fun hg => loc_move rfl) rfl ?_
      refine run_gop rfl rfl (by first | exact guard_true _ | exact guard_false _ | exact guard_if (guard_true _) | exact guard_if (guard_false _)) (fun hg => loc_geq rfl rfl) rfl ?_
      refine run_gleave ?_
      refine run_op (loc_or rfl rfl) rfl ?_
      refine run_nil ?_
      refine run_cond rfl (fun h4 => ?_) (fun h4 => ?_)
      ·
        have hg : ¬ goodD (xs[k]?.getD default) := by unfold goodD; omega
        refine run_seq ?_
        refine run_region ?_
        refine run_op (loc_assign rfl) rfl ?_
        refine run_nil ?_
        refine run_retP Try.func38 rfl rfl ?_
        exact d_int (by unfold listErr; rw [if_neg (by omega), firstErr_at (i := k) (by omega) (fun j hj => if_pos (hb j hj)) (by rw [if_neg hg]; omega), if_neg hg])
      ·
        have hg : goodD (xs[k]?.getD default) := by unfold goodD; omega
        refine run_skip ?_
        refine run_inBlock ?_
        refine run_region ?_
        first | refine run_op (loc_add rfl rfl (by first | omega | assumption)) rfl ?_ | refine run_op (loc_addW rfl rfl) rfl ?_
        refine run_op (loc_move rfl) rfl ?_
        refine run_nil ?_
        exact run_again ih2 (k + 1) (⟨by omega, fun j hj => by by_cases e : j = k; (· subst e; exact hg); (· exact hb j (by omega))⟩) (by omega) (.cons rfl (by first | exact fun _ _ h => h | exact d_int (by omega) | exact d_int (by simp) | exact d_intN (by omega) | exact d_any) (.cons rfl (by first | exact fun _ _ h => h | exact d_int (by omega) | exact d_int (by simp) | exact d_intN (by omega) | exact d_any) (.cons rfl (by first | exact fun _ _ h => h | exact d_int (by omega) | exact d_int (by simp) | exact d_intN (by omega) | exact d_any) .nil))) (rfl)
    ·
      refine run_exit rfl ?_
      refine run_seq ?_
      refine run_region ?_
      refine run_op (loc_assign rfl) rfl ?_
      refine run_nil ?_
      refine run_retP Try.func38 rfl rfl ?_
      exact d_int (by unfold listErr; rw [if_neg (by omega), firstErr_none' (fun j hj => if_pos (hb j (by omega)))])

/-- The next level, in the making. -/
abbrev rUp (v : Value) (k : Nat) (xs : List Int) : Res := rRow v 3 1 (fun x : Int => [dInt .i64 x]) (upD (xs.take (2 * k)))
theorem above_spec (xs : List Int) : SpecP Try.prog 54 [dInts xs] (dInts (upD xs)) := by
  refine specP_of_body Try.func54 rfl rfl (fun I M => ?_)
  refine run_seq ?_
  refine run_fact (s := 0) rfl (fun _ _ h => dSl_len h) (fun hlen => ?_)
  refine run_region ?_
  refine run_op (loc_assign rfl) rfl ?_
  refine run_nil ?_
  refine run_seq ?_
  refine run_region ?_
  refine run_op (loc_assign rfl) rfl ?_
  refine run_nil ?_
  refine run_seq ?_
  refine run_seq ?_
  refine run_region ?_
  refine run_op (loc_assign rfl) rfl ?_
  refine run_nil ?_
  refine run_block ?_
  refine run_rowNil 3 1 (fun x : Int => [dInt .i64 x]) ?_
  refine run_loop' (σ := Value × Nat) (fun s => [(0, dInts xs), (3, dVal s.1), (4, dInt .i64 (2 * s.2 : Nat))]) (fun s => rUp s.1 s.2 xs :: M) (fun s => 2 * s.2 ≤ xs.length + 1) (fun s => xs.length - 2 * s.2) ((.slice none 0 0, 0)) (Nat.zero_le _) (.cons rfl (by first | exact fun _ _ h => h | exact d_int (by omega) | exact d_int (by simp) | exact d_intN (by omega) | exact d_any) (.cons rfl (by first | exact fun _ _ h => h | exact d_int (by omega) | exact d_int (by simp) | exact d_intN (by omega) | exact d_any) (.cons rfl (by first | exact fun _ _ h => h | exact d_int (by omega) | exact d_int (by simp) | exact d_intN (by omega) | exact d_any) .nil))) rfl ?_
  intro s hk ih1
  refine run_seq ?_
  refine run_seq ?_
  refine run_region ?_
  refine run_op (loc_move rfl) rfl ?_
  refine run_op (loc_move rfl) rfl ?_
  refine run_op (loc_len rfl) rfl ?_
  refine run_op (loc_lss rfl rfl) rfl ?_
  refine run_nil ?_
  refine run_cond rfl (fun h2 => ?_) (fun h2 => ?_)
  ·
    refine run_skip ?_
    refine run_seq ?_
    refine run_block ?_
    refine run_seq ?_
    have hul := upD_length (xs.take (2 * s.2))
    rw [List.length_take] at hul
    refine run_region ?_
    refine run_op (loc_move rfl) rfl ?_
    first | refine run_op (loc_add rfl rfl (by first | omega | assumption)) rfl ?_ | refine run_op (loc_addW rfl rfl) rfl ?_
    refine run_op (loc_move rfl) rfl ?_
    refine run_op (loc_len rfl) rfl ?_
    refine run_op (loc_eql rfl rfl) rfl ?_
    refine run_nil ?_
    refine run_cond rfl (fun h3 => ?_) (fun h3 => ?_)
    ·
      refine run_region ?_
      refine run_op (loc_move rfl) rfl ?_
      refine run_op (loc_move rfl) rfl ?_
      refine run_op (loc_move rfl) rfl ?_
      first | refine run_op (loc_index rfl rfl (by first | omega | assumption)) rfl ?_ | refine run_op (loc_indexI rfl rfl (by first | omega | assumption)) rfl ?_
      refine run_op (loc_load1 rfl) rfl ?_
      refine run_op (loc_buildSlice rfl rfl (.one rfl (.nil)) rfl rfl) rfl ?_
      refine run_append1 rfl (by first | exact .here | exact .there .here | exact .there (.there .here) | exact .there (.there (.there .here)) | exact .there (.there (.there (.there .here))) | exact .there (.there (.there (.there (.there .here))))) rfl (by rfl) (by rfl) (by first | omega | (unfold lenMax; omega) | assumption | (simp; omega) | (simp [lenMax]; omega)) (by first | omega | (unfold lenMax; omega) | assumption | (simp; omega) | (simp [lenMax]; omega)) rfl (fun v4 => ?_)
      refine run_op (loc_assign rfl) rfl ?_
      refine run_nil ?_
      refine run_inBlock ?_
      refine run_region ?_
      refine run_op (loc_move rfl) rfl ?_
      first | refine run_op (loc_add rfl rfl (by first | omega | assumption)) rfl ?_ | refine run_op (loc_addW rfl rfl) rfl ?_
      refine run_op (loc_assign rfl) rfl ?_
      refine run_nil ?_
      exact run_again ih1 ((v4, s.2 + 1)) (by show 2 * (s.2 + 1) ≤ _; omega) (by show _ - 2 * (s.2 + 1) < _; omega) (.cons rfl (by first | exact fun _ _ h => h | exact d_int (by omega) | exact d_int (by simp) | exact d_intN (by omega) | exact d_any) (.cons rfl (by first | exact fun _ _ h => h | exact d_int (by omega) | exact d_int (by simp) | exact d_intN (by omega) | exact d_any) (.cons rfl (d_int (by show ((2 * s.2 : Nat) : Int) + 2 = ((2 * (s.2 + 1) : Nat) : Int); omega)) .nil))) (by show rRow _ 3 1 _ _ :: _ = rUp v4 (s.2 + 1) xs :: _; unfold rUp; rw [List.take_of_length_le (l := xs) (i := 2 * (s.2 + 1)) (by omega), upD_take_last xs s.2 (by omega)])
    ·
      refine dr_start (Value) (fun _ => True) 12 [⟨[(3, none)], [], none⟩,
          ⟨[(0, none)], [], none⟩,
          ⟨[(4, none)], [], none⟩,
          ⟨[(24, some (1, false)), (25, some (2, false))], [1, 2], none⟩,
          ⟨[(26, some (3, false))], [1, 2, 3], none⟩,
          ⟨[(0, none)], [], none⟩,
          ⟨[(4, none)], [], none⟩,
          ⟨[(29, some (6, false))], [6], none⟩,
          ⟨[(28, some (5, false)), (30, some (7, false))], [5, 6, 7], none⟩,
          ⟨[(31, some (8, false))], [5, 6, 7, 8], none⟩,
          ⟨[(27, some (4, false)), (32, some (9, false))], [1, 2, 3, 4, 5, 6, 7, 8, 9], none⟩,
          ⟨[(33, some (10, false))], [1, 2, 3, 4, 5, 6, 7, 8, 9, 10], none⟩,
          ⟨[(23, some (0, false)), (34, some (11, false))], [0, 1, 2, 3, 4, 5, 6, 7, 8, 9, 10, 11], some (0, 0, true)⟩,
          ⟨[(35, some (12, false))], [0, 1, 2, 3, 4, 5, 6, 7, 8, 9, 10, 11, 12], none⟩] [_] _ rfl rfl ?_
      refine dq_pure rfl (fun s => .g rfl (.nil)) (fun s hs _ => loc_move rfl) (by first | exact .inl fun _ _ => rfl | exact .inr rfl) ?_
      refine dq_pure rfl (fun s => .g rfl (.nil)) (fun s hs _ => loc_move rfl) (by first | exact .inl fun _ _ => rfl | exact .inr rfl) ?_
      refine dq_pure rfl (fun s => .g rfl (.nil)) (fun s hs _ => loc_move rfl) (by first | exact .inl fun _ _ => rfl | exact .inr rfl) ?_
      first | refine dq_pure rfl (fun s => .op rfl (.op rfl (.nil))) (fun s hs _ => loc_index rfl rfl (by first | omega | assumption)) (by first | exact .inl fun _ _ => rfl | exact .inr rfl) ?_ | refine dq_pure rfl (fun s => .op rfl (.op rfl (.nil))) (fun s hs _ => loc_indexI rfl rfl (by first | omega | assumption)) (by first | exact .inl fun _ _ => rfl | exact .inr rfl) ?_
      refine dq_pure rfl (fun s => .op rfl (.nil)) (fun s hs _ => loc_load1 rfl) (by first | exact .inl fun _ _ => rfl | exact .inr rfl) ?_
      refine dq_pure rfl (fun s => .g rfl (.nil)) (fun s hs _ => loc_move rfl) (by first | exact .inl fun _ _ => rfl | exact .inr rfl) ?_
      refine dq_pure rfl (fun s => .g rfl (.nil)) (fun s hs _ => loc_move rfl) (by first | exact .inl fun _ _ => rfl | exact .inr rfl) ?_
      first | refine dq_pure rfl (fun s => .op rfl (.nil)) (fun s hs _ => loc_add rfl rfl (by first | omega | assumption)) (by first | exact .inl fun _ _ => rfl | exact .inr rfl) ?_ | refine dq_pure rfl (fun s => .op rfl (.nil)) (fun s hs _ => loc_addW rfl rfl) (by first | exact .inl fun _ _ => rfl | exact .inr rfl) ?_
      first | refine dq_pure rfl (fun s => .op rfl (.op rfl (.nil))) (fun s hs _ => loc_index rfl rfl (by first | omega | assumption)) (by first | exact .inl fun _ _ => rfl | exact .inr rfl) ?_ | refine dq_pure rfl (fun s => .op rfl (.op rfl (.nil))) (fun s hs _ => loc_indexI rfl rfl (by first | omega | assumption)) (by first | exact .inl fun _ _ => rfl | exact .inr rfl) ?_
      refine dq_pure rfl (fun s => .op rfl (.nil)) (fun s hs _ => loc_load1 rfl) (by first | exact .inl fun _ _ => rfl | exact .inr rfl) ?_
      refine dq_pure rfl (fun s => .op rfl (.op rfl (.nil))) (fun s hs _ => loc_call (node_spec _ _) rfl) (by first | exact .inl fun _ _ => rfl | exact .inr rfl) ?_
      refine dq_pure rfl (fun s => .op rfl (.nil)) (fun s hs _ => loc_buildSlice rfl rfl (.one rfl (.nil)) rfl rfl) (by first | exact .inl fun _ _ => rfl | exact .inr rfl) ?_
      refine dq_choose rfl (fun s => .op rfl (.op rfl (.nil))) rfl rfl (fun s => loc_append1 _ rfl rfl rfl rfl (by first | omega | (unfold lenMax; omega) | assumption | (simp; omega) | (simp [lenMax]; omega)) (by first | omega | (unfold lenMax; omega) | assumption | (simp; omega) | (simp [lenMax]; omega))) ?_
      refine dq_pure rfl (fun s => .op rfl (.nil)) (fun s hs _ => loc_assign rfl) (by first | exact .inl fun _ _ => rfl | exact .inr rfl) ?_
      refine dq_end (rs := [_]) (.bool true) rfl (fun _ => rfl) (fun h => absurd h (by decide)) rfl (fun v5 _ => ?_)
      dsimp only [outG, outM, List.map, List.set]
      refine run_inBlock ?_
      refine run_region ?_
      refine run_op (loc_move rfl) rfl ?_
      first | refine run_op (loc_add rfl rfl (by first | omega | assumption)) rfl ?_ | refine run_op (loc_addW rfl rfl) rfl ?_
      refine run_op (loc_assign rfl) rfl ?_
      refine run_nil ?_
      exact run_again ih1 ((v5, s.2 + 1)) (by show 2 * (s.2 + 1) ≤ _; omega) (by show _ - 2 * (s.2 + 1) < _; omega) (.cons rfl (by first | exact fun _ _ h => h | exact d_int (by omega) | exact d_int (by simp) | exact d_intN (by omega) | exact d_any) (.cons rfl (by first | exact fun _ _ h => h | exact d_int (by omega) | exact d_int (by simp) | exact d_intN (by omega) | exact d_any) (.cons rfl (d_int (by show ((2 * s.2 : Nat) : Int) + 2 = ((2 * (s.2 + 1) : Nat) : Int); omega)) .nil))) (by show rRow _ 3 1 _ _ :: _ = rUp v5 (s.2 + 1) xs :: _; unfold rUp; rw [upD_take_two xs s.2 (by omega), show ((2 * s.2 : Nat) + 1 : Int).toNat = 2 * s.2 + 1 by omega])
  ·
    refine run_exit rfl ?_
    refine run_seq ?_
    refine run_region ?_
    refine run_op (loc_move rfl) rfl ?_
    refine run_op (loc_assign rfl) rfl ?_
    refine run_nil ?_
    refine run_freezeRow (s := 2) rfl (by first | exact .here | exact .there .here | exact .there (.there .here) | exact .there (.there (.there .here)) | exact .there (.there (.there (.there .here))) | exact .there (.there (.there (.there (.there .here))))) ?_
    refine run_retP Try.func54 rfl rfl ?_
    exact d_eq (by rw [List.take_of_length_le (by omega)])

theorem up_spec (xs : List Int) : SpecP Try.prog 39 [dInts xs] (dInts (upD xs)) := by
  refine specP_of_body Try.func39 rfl rfl (fun I M => ?_)
  refine run_seq ?_
  refine run_fact (s := 0) rfl (fun _ _ h => dSl_len h) (fun hlen => ?_)
  refine run_region ?_
  refine run_op (loc_assign rfl) rfl ?_
  refine run_nil ?_
  refine run_seq ?_
  refine run_region ?_
  refine run_op (loc_assign rfl) rfl ?_
  refine run_nil ?_
  refine run_seq ?_
  refine run_seq ?_
  refine run_region ?_
  refine run_op (loc_assign rfl) rfl ?_
  refine run_nil ?_
  refine run_block ?_
  refine run_rowNil 3 1 (fun x : Int => [dInt .i64 x]) ?_
  refine run_loop' (σ := Value × Nat) (fun s => [(0, dInts xs), (3, dVal s.1), (4, dInt .i64 (2 * s.2 : Nat))]) (fun s => rUp s.1 s.2 xs :: M) (fun s => 2 * s.2 ≤ xs.length + 1) (fun s => xs.length - 2 * s.2) ((.slice none 0 0, 0)) (Nat.zero_le _) (.cons rfl (by first | exact fun _ _ h => h | exact d_int (by omega) | exact d_int (by simp) | exact d_intN (by omega) | exact d_any) (.cons rfl (by first | exact fun _ _ h => h | exact d_int (by omega) | exact d_int (by simp) | exact d_intN (by omega) | exact d_any) (.cons rfl (by first | exact fun _ _ h => h | exact d_int (by omega) | exact d_int (by simp) | exact d_intN (by omega) | exact d_any) .nil))) rfl ?_
  intro s hk ih1
  refine run_seq ?_
  refine run_seq ?_
  refine run_region ?_
  refine run_op (loc_move rfl) rfl ?_
  refine run_op (loc_move rfl) rfl ?_
  refine run_op (loc_len rfl) rfl ?_
  refine run_op (loc_lss rfl rfl) rfl ?_
  refine run_nil ?_
  refine run_cond rfl (fun h2 => ?_) (fun h2 => ?_)
  ·
    refine run_skip ?_
    refine run_seq ?_
    refine run_block ?_
    refine run_seq ?_
    have hul := upD_length (xs.take (2 * s.2))
    rw [List.length_take] at hul
    refine run_region ?_
    refine run_op (loc_move rfl) rfl ?_
    first | refine run_op (loc_add rfl rfl (by first | omega | assumption)) rfl ?_ | refine run_op (loc_addW rfl rfl) rfl ?_
    refine run_op (loc_move rfl) rfl ?_
    refine run_op (loc_len rfl) rfl ?_
    refine run_op (loc_lss rfl rfl) rfl ?_
    refine run_nil ?_
    refine run_cond rfl (fun h3 => ?_) (fun h3 => ?_)
    ·
      refine dr_start (Value) (fun _ => True) 12 [⟨[(3, none)], [], none⟩,
          ⟨[(0, none)], [], none⟩,
          ⟨[(4, none)], [], none⟩,
          ⟨[(17, some (1, false)), (18, some (2, false))], [1, 2], none⟩,
          ⟨[(19, some (3, false))], [1, 2, 3], none⟩,
          ⟨[(0, none)], [], none⟩,
          ⟨[(4, none)], [], none⟩,
          ⟨[(22, some (6, false))], [6], none⟩,
          ⟨[(21, some (5, false)), (23, some (7, false))], [5, 6, 7], none⟩,
          ⟨[(24, some (8, false))], [5, 6, 7, 8], none⟩,
          ⟨[(20, some (4, false)), (25, some (9, false))], [1, 2, 3, 4, 5, 6, 7, 8, 9], none⟩,
          ⟨[(26, some (10, false))], [1, 2, 3, 4, 5, 6, 7, 8, 9, 10], none⟩,
          ⟨[(16, some (0, false)), (27, some (11, false))], [0, 1, 2, 3, 4, 5, 6, 7, 8, 9, 10, 11], some (0, 0, true)⟩,
          ⟨[(28, some (12, false))], [0, 1, 2, 3, 4, 5, 6, 7, 8, 9, 10, 11, 12], none⟩] [_] _ rfl rfl ?_
      refine dq_pure rfl (fun s => .g rfl (.nil)) (fun s hs _ => loc_move rfl) (by first | exact .inl fun _ _ => rfl | exact .inr rfl) ?_
      refine dq_pure rfl (fun s => .g rfl (.nil)) (fun s hs _ => loc_move rfl) (by first | exact .inl fun _ _ => rfl | exact .inr rfl) ?_
      refine dq_pure rfl (fun s => .g rfl (.nil)) (fun s hs _ => loc_move rfl) (by first | exact .inl fun _ _ => rfl | exact .inr rfl) ?_
      first | refine dq_pure rfl (fun s => .op rfl (.op rfl (.nil))) (fun s hs _ => loc_index rfl rfl (by first | omega | assumption)) (by first | exact .inl fun _ _ => rfl | exact .inr rfl) ?_ | refine dq_pure rfl (fun s => .op rfl (.op rfl (.nil))) (fun s hs _ => loc_indexI rfl rfl (by first | omega | assumption)) (by first | exact .inl fun _ _ => rfl | exact .inr rfl) ?_
      refine dq_pure rfl (fun s => .op rfl (.nil)) (fun s hs _ => loc_load1 rfl) (by first | exact .inl fun _ _ => rfl | exact .inr rfl) ?_
      refine dq_pure rfl (fun s => .g rfl (.nil)) (fun s hs _ => loc_move rfl) (by first | exact .inl fun _ _ => rfl | exact .inr rfl) ?_
      refine dq_pure rfl (fun s => .g rfl (.nil)) (fun s hs _ => loc_move rfl) (by first | exact .inl fun _ _ => rfl | exact .inr rfl) ?_
      first | refine dq_pure rfl (fun s => .op rfl (.nil)) (fun s hs _ => loc_add rfl rfl (by first | omega | assumption)) (by first | exact .inl fun _ _ => rfl | exact .inr rfl) ?_ | refine dq_pure rfl (fun s => .op rfl (.nil)) (fun s hs _ => loc_addW rfl rfl) (by first | exact .inl fun _ _ => rfl | exact .inr rfl) ?_
      first | refine dq_pure rfl (fun s => .op rfl (.op rfl (.nil))) (fun s hs _ => loc_index rfl rfl (by first | omega | assumption)) (by first | exact .inl fun _ _ => rfl | exact .inr rfl) ?_ | refine dq_pure rfl (fun s => .op rfl (.op rfl (.nil))) (fun s hs _ => loc_indexI rfl rfl (by first | omega | assumption)) (by first | exact .inl fun _ _ => rfl | exact .inr rfl) ?_
      refine dq_pure rfl (fun s => .op rfl (.nil)) (fun s hs _ => loc_load1 rfl) (by first | exact .inl fun _ _ => rfl | exact .inr rfl) ?_
      refine dq_pure rfl (fun s => .op rfl (.op rfl (.nil))) (fun s hs _ => loc_call (rnode_spec _ _) rfl) (by first | exact .inl fun _ _ => rfl | exact .inr rfl) ?_
      refine dq_pure rfl (fun s => .op rfl (.nil)) (fun s hs _ => loc_buildSlice rfl rfl (.one rfl (.nil)) rfl rfl) (by first | exact .inl fun _ _ => rfl | exact .inr rfl) ?_
      refine dq_choose rfl (fun s => .op rfl (.op rfl (.nil))) rfl rfl (fun s => loc_append1 _ rfl rfl rfl rfl (by first | omega | (unfold lenMax; omega) | assumption | (simp; omega) | (simp [lenMax]; omega)) (by first | omega | (unfold lenMax; omega) | assumption | (simp; omega) | (simp [lenMax]; omega))) ?_
      refine dq_pure rfl (fun s => .op rfl (.nil)) (fun s hs _ => loc_assign rfl) (by first | exact .inl fun _ _ => rfl | exact .inr rfl) ?_
      refine dq_end (rs := [_]) (.bool true) rfl (fun _ => rfl) (fun h => absurd h (by decide)) rfl (fun v4 _ => ?_)
      dsimp only [outG, outM, List.map, List.set]
      refine run_inBlock ?_
      refine run_region ?_
      refine run_op (loc_move rfl) rfl ?_
      first | refine run_op (loc_add rfl rfl (by first | omega | assumption)) rfl ?_ | refine run_op (loc_addW rfl rfl) rfl ?_
      refine run_op (loc_assign rfl) rfl ?_
      refine run_nil ?_
      exact run_again ih1 ((v4, s.2 + 1)) (by show 2 * (s.2 + 1) ≤ _; omega) (by show _ - 2 * (s.2 + 1) < _; omega) (.cons rfl (by first | exact fun _ _ h => h | exact d_int (by omega) | exact d_int (by simp) | exact d_intN (by omega) | exact d_any) (.cons rfl (by first | exact fun _ _ h => h | exact d_int (by omega) | exact d_int (by simp) | exact d_intN (by omega) | exact d_any) (.cons rfl (d_int (by show ((2 * s.2 : Nat) : Int) + 2 = ((2 * (s.2 + 1) : Nat) : Int); omega)) .nil))) (by show rRow _ 3 1 _ _ :: _ = rUp v4 (s.2 + 1) xs :: _; unfold rUp; rw [upD_take_two xs s.2 (by omega), show ((2 * s.2 : Nat) + 1 : Int).toNat = 2 * s.2 + 1 by omega])
    ·
      refine run_region ?_
      refine run_op (loc_move rfl) rfl ?_
      refine run_op (loc_move rfl) rfl ?_
      refine run_op (loc_move rfl) rfl ?_
      first | refine run_op (loc_index rfl rfl (by first | omega | assumption)) rfl ?_ | refine run_op (loc_indexI rfl rfl (by first | omega | assumption)) rfl ?_
      refine run_op (loc_load1 rfl) rfl ?_
      refine run_op (loc_buildSlice rfl rfl (.one rfl (.nil)) rfl rfl) rfl ?_
      refine run_append1 rfl (by first | exact .here | exact .there .here | exact .there (.there .here) | exact .there (.there (.there .here)) | exact .there (.there (.there (.there .here))) | exact .there (.there (.there (.there (.there .here))))) rfl (by rfl) (by rfl) (by first | omega | (unfold lenMax; omega) | assumption | (simp; omega) | (simp [lenMax]; omega)) (by first | omega | (unfold lenMax; omega) | assumption | (simp; omega) | (simp [lenMax]; omega)) rfl (fun v5 => ?_)
      refine run_op (loc_assign rfl) rfl ?_
      refine run_nil ?_
      refine run_inBlock ?_
      refine run_region ?_
      refine run_op (loc_move rfl) rfl ?_
      first | refine run_op (loc_add rfl rfl (by first | omega | assumption)) rfl ?_ | refine run_op (loc_addW rfl rfl) rfl ?_
      refine run_op (loc_assign rfl) rfl ?_
      refine run_nil ?_
      exact run_again ih1 ((v5, s.2 + 1)) (by show 2 * (s.2 + 1) ≤ _; omega) (by show _ - 2 * (s.2 + 1) < _; omega) (.cons rfl (by first | exact fun _ _ h => h | exact d_int (by omega) | exact d_int (by simp) | exact d_intN (by omega) | exact d_any) (.cons rfl (by first | exact fun _ _ h => h | exact d_int (by omega) | exact d_int (by simp) | exact d_intN (by omega) | exact d_any) (.cons rfl (d_int (by show ((2 * s.2 : Nat) : Int) + 2 = ((2 * (s.2 + 1) : Nat) : Int); omega)) .nil))) (by show rRow _ 3 1 _ _ :: _ = rUp v5 (s.2 + 1) xs :: _; unfold rUp; rw [List.take_of_length_le (l := xs) (i := 2 * (s.2 + 1)) (by omega), upD_take_last xs s.2 (by omega)])
  ·
    refine run_exit rfl ?_
    refine run_seq ?_
    refine run_region ?_
    refine run_op (loc_move rfl) rfl ?_
    refine run_op (loc_assign rfl) rfl ?_
    refine run_nil ?_
    refine run_freezeRow (s := 2) rfl (by first | exact .here | exact .there .here | exact .there (.there .here) | exact .there (.there (.there .here)) | exact .there (.there (.there (.there .here))) | exact .there (.there (.there (.there (.there .here))))) ?_
    refine run_retP Try.func39 rfl rfl ?_
    exact d_eq (by rw [List.take_of_length_le (by omega)])

theorem rroot_spec (xs : List Int) : SpecP Try.prog 17 [dInts xs] (dTup [dInt .i64 (rootR xs), dInt .i64 (listErr xs)]) := by
  refine specP_of_body Try.func17 rfl rfl (fun I M => ?_)
  refine run_seq ?_
  refine run_region ?_
  refine run_op (loc_assign rfl) rfl ?_
  refine run_op (loc_assign rfl) rfl ?_
  refine run_nil ?_
  refine run_seq ?_
  refine run_seq ?_
  refine run_region ?_
  refine run_op (loc_move rfl) rfl ?_
  refine run_op (loc_call (list_spec _) rfl) rfl ?_
  refine run_op (loc_assign rfl) rfl ?_
  refine run_nil ?_
  refine run_seq ?_
  refine run_region ?_
  refine run_op (loc_move rfl) rfl ?_
  refine run_op (loc_neq rfl rfl) rfl ?_
  refine run_nil ?_
  refine run_cond rfl (fun h1 => ?_) (fun h1 => ?_)
  ·
    refine run_seq ?_
    refine run_region ?_
    refine run_op (loc_move rfl) rfl ?_
    refine run_op (loc_assign rfl) rfl ?_
    refine run_op (loc_assign rfl) rfl ?_
    refine run_nil ?_
    refine run_ret2P Try.func17 rfl rfl rfl ?_
    exact d_tup2 (d_int (by unfold rootR; rw [if_neg (by assumption)])) (d_int rfl)
  ·
    refine run_skip ?_
    refine run_seq ?_
    refine run_seq ?_
    refine run_region ?_
    refine run_op (loc_move rfl) rfl ?_
    refine run_op (loc_len rfl) rfl ?_
    refine run_op (loc_eql rfl rfl) rfl ?_
    refine run_nil ?_
    refine run_cond rfl (fun h2 => ?_) (fun h2 => ?_)
    ·
      refine run_seq ?_
      refine run_region ?_
      refine run_op (loc_assign rfl) rfl ?_
      refine run_op (loc_assign rfl) rfl ?_
      refine run_nil ?_
      refine run_ret2P Try.func17 rfl rfl rfl ?_
      exact d_tup2 (d_int (by unfold rootR; rw [if_pos (by omega), show xs = [] from List.eq_nil_of_length_eq_zero (by omega)]; rfl)) (d_int (by omega))
    ·
      refine run_skip ?_
      refine run_seq ?_
      refine run_block ?_
      refine run_loop' (σ := List Int) (fun ys => [(0, dInts ys)]) (fun ys => M) (fun ys => 0 < ys.length ∧ rootD ys = rootD xs) (fun ys => ys.length) (xs) (⟨by omega, rfl⟩) (.cons rfl (by first | exact fun _ _ h => h | exact d_int (by omega) | exact d_int (by simp) | exact d_intN (by omega) | exact d_any) .nil) rfl ?_
      rintro ys ⟨hy, hr⟩ ih3
      refine run_seq ?_
      refine run_seq ?_
      refine run_region ?_
      refine run_op (loc_move rfl) rfl ?_
      refine run_op (loc_len rfl) rfl ?_
      refine run_op (loc_gtr rfl rfl) rfl ?_
      refine run_nil ?_
      refine run_cond rfl (fun h4 => ?_) (fun h4 => ?_)
      ·
        refine run_skip ?_
        refine run_block ?_
        refine run_region ?_
        refine run_op (loc_move rfl) rfl ?_
        refine run_op (loc_call (up_spec _) rfl) rfl ?_
        refine run_op (loc_assign rfl) rfl ?_
        refine run_nil ?_
        refine run_inBlock ?_
        exact run_again ih3 (upD ys) (⟨by rw [upD_length]; omega, by rw [← rootD_up ys (by omega), hr]⟩) (by rw [upD_length]; omega) (.cons rfl (by first | exact fun _ _ h => h | exact d_int (by omega) | exact d_int (by simp) | exact d_intN (by omega) | exact d_any) .nil) (rfl)
      ·
        refine run_exit rfl ?_
        refine run_seq ?_
        refine run_region ?_
        refine run_op (loc_move rfl) rfl ?_
        first | refine run_op (loc_index rfl rfl (by first | omega | assumption)) rfl ?_ | refine run_op (loc_indexI rfl rfl (by first | omega | assumption)) rfl ?_
        refine run_op (loc_load1 rfl) rfl ?_
        refine run_op (loc_assign rfl) rfl ?_
        refine run_op (loc_assign rfl) rfl ?_
        refine run_nil ?_
        refine run_ret2P Try.func17 rfl rfl rfl ?_
        exact d_tup2 (d_int (by unfold rootR; rw [if_pos (by omega), ← hr]; match ys, (show ys.length = 1 by omega) with | [y], _ => rfl)) (d_int (by omega))

end Go.Q
