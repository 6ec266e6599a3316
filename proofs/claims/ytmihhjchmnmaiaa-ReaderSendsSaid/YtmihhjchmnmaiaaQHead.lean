/- Contracts of heads of tables in the reference. -/
import Derived.Test.YtmihhjchmnmaiaaQLaw24S
set_option linter.unusedVariables false
set_option linter.unusedSimpArgs false
namespace Go.Q
open Go.Proofs

open Classical
instance (h : Hd) : One (dInt .i64 h.number) := inferInstance
theorem rmod_spec (x : Int) : SpecP Try.prog 87 [dInt .i64 x] (dInt .i64 (modD x)) := by
  have hb := tmod_bd x 2147483647 (by omega)
  refine specP_of_body Try.func87 rfl rfl (fun I M => ?_)
  refine run_seq ?_
  refine run_region ?_
  refine run_op (loc_assign rfl) rfl ?_
  refine run_nil ?_
  refine run_seq ?_
  refine run_region ?_
  refine run_op (loc_move rfl) rfl ?_
  first | refine run_op (loc_rem rfl rfl (by first | omega | assumption)) rfl ?_ | refine run_op (loc_remW rfl rfl (by first | omega | assumption)) rfl ?_
  first | refine run_op (loc_add rfl rfl (by first | omega | assumption)) rfl ?_ | refine run_op (loc_addW rfl rfl) rfl ?_
  first | refine run_op (loc_rem rfl rfl (by first | omega | assumption)) rfl ?_ | refine run_op (loc_remW rfl rfl (by first | omega | assumption)) rfl ?_
  refine run_op (loc_assign rfl) rfl ?_
  refine run_nil ?_
  refine run_retP Try.func87 rfl rfl ?_
  exact d_int (mod_twice x 2147483647 (by omega))

theorem rrow_spec (xs : List Int) : SpecP Try.prog 68 [dInts xs] (dInt .i64 (rowD xs)) := by
  refine specP_of_body Try.func68 rfl rfl (fun I M => ?_)
  refine run_seq ?_
  refine run_region ?_
  refine run_op (loc_assign rfl) rfl ?_
  refine run_nil ?_
  refine run_seq ?_
  refine run_region ?_
  refine run_op (loc_assign rfl) rfl ?_
  refine run_nil ?_
  refine run_seq ?_
  refine run_seq ?_
  refine run_region ?_
  refine run_op (loc_move rfl) rfl ?_
  first | refine runL_fact (s := 6) rfl (fun _ _ h => dSl_len h) (fun hlen1 => ?_) | skip
  refine run_op (loc_len rfl) rfl ?_
  refine run_op (loc_move rfl) rfl ?_
  refine run_nil ?_
  refine run_block ?_
  refine run_loopC (σ := Nat) (ks := [6, 7]) (.cons rfl (.cons rfl (.nil))) (fun k => [(3, dInt .i64 (rowD (xs.take k))), (8, dInt .i64 (k : Nat))]) (fun k => k ≤ xs.length) (fun k => xs.length - k) (0) (Nat.zero_le _) (.cons rfl (by first | exact fun _ _ h => h | exact d_int (by omega) | exact d_int (by simp) | exact d_intN (by omega) | exact d_any) (.cons rfl (by first | exact fun _ _ h => h | exact d_int (by omega) | exact d_int (by simp) | exact d_intN (by omega) | exact d_any) .nil)) ?_
  intro k hk ih2
  have hb := rowD_bd (xs.take k)
  have hm := modD_bd (xs[k]?.getD default)
  refine run_seq ?_
  refine run_region ?_
  refine run_op (loc_lss rfl rfl) rfl ?_
  refine run_nil ?_
  refine run_seq ?_
  refine run_cond rfl (fun h3 => ?_) (fun h3 => ?_)
  ·
    refine run_skip ?_
    refine run_seq ?_
    refine run_block ?_
    refine run_seq ?_
    refine run_region ?_
    first | refine run_op (loc_index rfl rfl (by first | omega | assumption)) rfl ?_ | refine run_op (loc_indexI rfl rfl (by first | omega | assumption)) rfl ?_
    refine run_op (loc_load1 rfl) rfl ?_
    refine run_op (loc_assign rfl) rfl ?_
    refine run_nil ?_
    refine run_region ?_
    refine run_op (loc_move rfl) rfl ?_
    first | refine run_op (loc_mul rfl rfl (by first | omega | assumption)) rfl ?_ | refine run_op (loc_mulW rfl rfl) rfl ?_
    refine run_op (loc_move rfl) rfl ?_
    refine run_op (loc_call (rmod_spec _) rfl) rfl ?_
    first | refine run_op (loc_add rfl rfl (by first | omega | assumption)) rfl ?_ | refine run_op (loc_addW rfl rfl) rfl ?_
    first | refine run_op (loc_add rfl rfl (by first | omega | assumption)) rfl ?_ | refine run_op (loc_addW rfl rfl) rfl ?_
    first | refine run_op (loc_rem rfl rfl (by first | omega | assumption)) rfl ?_ | refine run_op (loc_remW rfl rfl (by first | omega | assumption)) rfl ?_
    refine run_op (loc_assign rfl) rfl ?_
    refine run_nil ?_
    refine run_inBlock ?_
    refine run_region ?_
    first | refine run_op (loc_add rfl rfl (by first | omega | assumption)) rfl ?_ | refine run_op (loc_addW rfl rfl) rfl ?_
    refine run_op (loc_move rfl) rfl ?_
    refine run_nil ?_
    exact run_againC ih2 (k + 1) (by omega) (by omega) (.cons rfl (d_int (by unfold rowD; rw [foldl_take _ _ _ _ (by omega)]; rfl)) (.cons rfl (by first | exact fun _ _ h => h | exact d_int (by omega) | exact d_int (by simp) | exact d_intN (by omega) | exact d_any) .nil)) (.cons rfl (fun _ _ x => x) (.cons rfl (fun _ _ x => x) (.nil)))
  ·
    refine run_exit rfl ?_
    refine run_seq ?_
    refine run_region ?_
    refine run_op (loc_move rfl) rfl ?_
    refine run_op (loc_assign rfl) rfl ?_
    refine run_nil ?_
    refine run_retP Try.func68 rfl rfl ?_
    exact d_int (by rw [List.take_of_length_le (by omega)])

theorem rnode_spec (a b : Int) : SpecP Try.prog 88 [dInt .i64 a, dInt .i64 b] (dInt .i64 (nodeD a b)) := by
  have h1 := modD_bd a
  have h2 := modD_bd b
  refine specP_of_body Try.func88 rfl rfl (fun I M => ?_)
  refine run_seq ?_
  refine run_region ?_
  refine run_op (loc_assign rfl) rfl ?_
  refine run_nil ?_
  refine run_seq ?_
  refine run_region ?_
  refine run_op (loc_move rfl) rfl ?_
  refine run_op (loc_call (rmod_spec _) rfl) rfl ?_
  first | refine run_op (loc_mul rfl rfl (by first | omega | assumption)) rfl ?_ | refine run_op (loc_mulW rfl rfl) rfl ?_
  refine run_op (loc_move rfl) rfl ?_
  refine run_op (loc_call (rmod_spec _) rfl) rfl ?_
  first | refine run_op (loc_add rfl rfl (by first | omega | assumption)) rfl ?_ | refine run_op (loc_addW rfl rfl) rfl ?_
  first | refine run_op (loc_add rfl rfl (by first | omega | assumption)) rfl ?_ | refine run_op (loc_addW rfl rfl) rfl ?_
  first | refine run_op (loc_rem rfl rfl (by first | omega | assumption)) rfl ?_ | refine run_op (loc_remW rfl rfl (by first | omega | assumption)) rfl ?_
  refine run_op (loc_assign rfl) rfl ?_
  refine run_nil ?_
  refine run_retP Try.func88 rfl rfl ?_
  exact fun _ _ h => h

theorem list_spec (xs : List Int) : SpecP Try.prog 69 [dInts xs] (dInt .i64 (listErr xs)) := by
  refine specP_of_body Try.func69 rfl rfl (fun I M => ?_)
  refine run_seq ?_
  refine run_region ?_
  refine run_op (loc_assign rfl) rfl ?_
  refine run_nil ?_
  refine run_seq ?_
  refine run_seq ?_
  refine run_region ?_
  refine run_op (loc_move rfl) rfl ?_
  first | refine runL_fact (s := 5) rfl (fun _ _ h => dSl_len h) (fun hlen1 => ?_) | skip
  refine run_op (loc_len rfl) rfl ?_
  refine run_op (loc_gtr rfl rfl) rfl ?_
  refine run_nil ?_
  refine run_cond rfl (fun h2 => ?_) (fun h2 => ?_)
  ·
    refine run_seq ?_
    refine run_region ?_
    refine run_op (loc_assign rfl) rfl ?_
    refine run_nil ?_
    refine run_retP Try.func69 rfl rfl ?_
    exact d_int (by unfold listErr; rw [if_pos (by omega)])
  ·
    refine run_skip ?_
    refine run_seq ?_
    refine run_seq ?_
    refine run_region ?_
    refine run_op (loc_move rfl) rfl ?_
    first | refine runL_fact (s := 8) rfl (fun _ _ h => dSl_len h) (fun hlen3 => ?_) | skip
    refine run_op (loc_len rfl) rfl ?_
    refine run_op (loc_move rfl) rfl ?_
    refine run_nil ?_
    refine run_block ?_
    refine run_loopC (σ := Nat) (ks := [8, 9]) (.cons rfl (.cons rfl (.nil))) (fun k => [(10, dInt .i64 (k : Nat))]) (fun k => k ≤ xs.length ∧ (∀ j, j < k → goodD (xs[j]?.getD default))) (fun k => xs.length - k) (0) (⟨by omega, fun j hj => by omega⟩) (.cons rfl (by first | exact fun _ _ h => h | exact d_int (by omega) | exact d_int (by simp) | exact d_intN (by omega) | exact d_any) .nil) ?_
    rintro k ⟨hk, hbk⟩ ih4
    refine run_seq ?_
    refine run_region ?_
    refine run_op (loc_lss rfl rfl) rfl ?_
    refine run_nil ?_
    refine run_seq ?_
    refine run_cond rfl (fun h5 => ?_) (fun h5 => ?_)
    ·
      refine run_skip ?_
      refine run_seq ?_
      refine run_block ?_
      refine run_seq ?_
      refine run_region ?_
      first | refine run_op (loc_index rfl rfl (by first | omega | assumption)) rfl ?_ | refine run_op (loc_indexI rfl rfl (by first | omega | assumption)) rfl ?_
      refine run_op (loc_load1 rfl) rfl ?_
      refine run_op (loc_assign rfl) rfl ?_
      refine run_nil ?_
      refine run_seq ?_
      refine run_region ?_
      refine run_op (loc_move rfl) rfl ?_
      refine run_op (loc_lss rfl rfl) rfl ?_
      refine run_op (loc_move rfl) rfl ?_
      refine run_gfirst rfl rfl (by first | exact guard_true _ | exact guard_false _ | exact guard_if (guard_true _) | exact guard_if (guard_false _)) (fun hg => loc_move rfl) rfl ?_
      refine run_gop rfl rfl (by first | exact guard_true _ | exact guard_false _ | exact guard_if (guard_true _) | exact guard_if (guard_false _)) (fun hg => loc_geq rfl rfl) rfl ?_
      refine run_gleave ?_
      refine run_op (loc_or rfl rfl) rfl ?_
      refine run_nil ?_
      refine run_cond rfl (fun h6 => ?_) (fun h6 => ?_)
      ·
        have hg : ¬ goodD (xs[k]?.getD default) := by unfold goodD; omega
        refine run_seq ?_
        refine run_region ?_
        refine run_op (loc_assign rfl) rfl ?_
        refine run_nil ?_
        refine run_retP Try.func69 rfl rfl ?_
        exact d_int (by unfold listErr; rw [if_neg (by omega), firstErr_at (i := k) (by omega) (fun j hj => if_pos (hbk j hj)) (by rw [if_neg hg]; omega), if_neg hg])
      ·
        have hg : goodD (xs[k]?.getD default) := by unfold goodD; omega
        refine run_skip ?_
        refine run_inBlock ?_
        refine run_region ?_
        first | refine run_op (loc_add rfl rfl (by first | omega | assumption)) rfl ?_ | refine run_op (loc_addW rfl rfl) rfl ?_
        refine run_op (loc_move rfl) rfl ?_
        refine run_nil ?_
        exact run_againC ih4 (k + 1) (⟨by omega, fun j hj => by by_cases e : j = k; (· subst e; exact hg); (· exact hbk j (by omega))⟩) (by omega) (.cons rfl (by first | exact fun _ _ h => h | exact d_int (by omega) | exact d_int (by simp) | exact d_intN (by omega) | exact d_any) .nil) (.cons rfl (fun _ _ x => x) (.cons rfl (fun _ _ x => x) (.nil)))
    ·
      refine run_exit rfl ?_
      refine run_seq ?_
      refine run_region ?_
      refine run_op (loc_assign rfl) rfl ?_
      refine run_nil ?_
      refine run_retP Try.func69 rfl rfl ?_
      exact d_int (by unfold listErr; rw [if_neg (by omega), firstErr_none' (fun j hj => if_pos (hbk j (by omega)))])

theorem up_spec (xs : List Int) : SpecP Try.prog 70 [dInts xs] (dInts (upD xs)) := by
  refine specP_of_body Try.func70 rfl rfl (fun I M => ?_)
  refine run_seq ?_
  refine run_region ?_
  refine run_op (loc_assign rfl) rfl ?_
  refine run_nil ?_
  refine run_seq ?_
  refine run_region ?_
  refine run_op (loc_assign rfl) rfl ?_
  refine run_nil ?_
  refine run_seq ?_
  refine run_seq ?_
  refine run_region ?_
  refine run_op (loc_assign rfl) rfl ?_
  refine run_nil ?_
  refine run_block ?_
  refine run_rowNil 3 1 fI ?_
  refine run_loopF (σ := Value × Nat) (ks := [0]) (.cons rfl (.nil)) (fun s => [(3, dVal s.1), (4, dInt .i64 (2 * s.2 : Nat))]) (fun s => [rRow s.1 3 1 fI (upD (xs.take (2 * s.2)))]) (fun s => 2 * s.2 ≤ xs.length + 1) (fun s => xs.length - 2 * s.2) ((.slice none 0 0, 0)) (Nat.zero_le _) (.cons rfl (by first | exact fun _ _ h => h | exact d_int (by omega) | exact d_int (by simp) | exact d_intN (by omega) | exact d_any) (.cons rfl (by first | exact fun _ _ h => h | exact d_int (by omega) | exact d_int (by simp) | exact d_intN (by omega) | exact d_any) .nil)) (rfl) ?_
  intro s hk ih1
  have hul := upD_length (xs.take (2 * s.2))
  rw [List.length_take] at hul
  refine run_seq ?_
  refine run_seq ?_
  refine run_region ?_
  refine run_op (loc_move rfl) rfl ?_
  refine run_op (loc_move rfl) rfl ?_
  first | refine runL_fact (s := 6) rfl (fun _ _ h => dSl_len h) (fun hlen2 => ?_) | skip
  refine run_op (loc_len rfl) rfl ?_
  refine run_op (loc_lss rfl rfl) rfl ?_
  refine run_nil ?_
  refine run_cond rfl (fun h3 => ?_) (fun h3 => ?_)
  ·
    refine run_skip ?_
    refine run_seq ?_
    refine run_block ?_
    refine run_seq ?_
    refine run_region ?_
    refine run_op (loc_move rfl) rfl ?_
    first | refine run_op (loc_add rfl rfl (by first | omega | assumption)) rfl ?_ | refine run_op (loc_addW rfl rfl) rfl ?_
    refine run_op (loc_move rfl) rfl ?_
    first | refine runL_fact (s := 13) rfl (fun _ _ h => dSl_len h) (fun hlen4 => ?_) | skip
    refine run_op (loc_len rfl) rfl ?_
    refine run_op (loc_lss rfl rfl) rfl ?_
    refine run_nil ?_
    refine run_cond rfl (fun h5 => ?_) (fun h5 => ?_)
    ·
      refine dr_start _ (.one (σ := Value) 12 (fun _ => True)) [⟨[(3, none)], [], none⟩,
          ⟨[(0, none)], [], none⟩,
          ⟨[(4, none)], [], none⟩,
          ⟨[(17, some (1, false)), (18, some (2, false))], [1, 2], none⟩,
          ⟨[(19, some (3, false))], [1, 2, 3], none⟩,
          ⟨[(0, none)], [], none⟩,
          ⟨[(4, none)], [], none⟩,
          ⟨[(22, some (6, false))], [6], none⟩,
          ⟨[(21, some (5, false)), (23, some (7, false))], [5, 6, 7], none⟩,
          ⟨[(24, some (8, false))], [5, 6, 7, 8], none⟩,
          ⟨[(20, some (4, false)), (25, some (9, false))], [1, 2, 3, 4, 5, 6, 7, 8, 9], none⟩,
          ⟨[(26, some (10, false))], [1, 2, 3, 4, 5, 6, 7, 8, 9, 10], none⟩,
          ⟨[(16, some (0, false)), (27, some (11, false))], [0, 1, 2, 3, 4, 5, 6, 7, 8, 9, 10, 11], some (0, 0, true)⟩,
          ⟨[(28, some (12, false))], [0, 1, 2, 3, 4, 5, 6, 7, 8, 9, 10, 11, 12], none⟩] [_] _ rfl rfl ?_
      refine dq_pure rfl (fun s => .g rfl (.nil)) (fun s hs _ => loc_move rfl) (by exact .cons (.inr fun _ _ _ => rfl) (.nil)) ?_
      refine dq_pure rfl (fun s => .g rfl (.nil)) (fun s hs _ => loc_move rfl) (by exact .cons (.inr fun _ _ _ => rfl) (.nil)) ?_
      refine dq_pure rfl (fun s => .g rfl (.nil)) (fun s hs _ => loc_move rfl) (by exact .cons (.inr fun _ _ _ => rfl) (.nil)) ?_
      first | refine dq_pure rfl (fun s => .op rfl (.op rfl (.nil))) (fun s hs _ => loc_index rfl rfl (by first | omega | assumption)) (by exact .cons (.inr fun _ _ _ => rfl) (.nil)) ?_ | refine dq_pure rfl (fun s => .op rfl (.op rfl (.nil))) (fun s hs _ => loc_indexI rfl rfl (by first | omega | assumption)) (by exact .cons (.inr fun _ _ _ => rfl) (.nil)) ?_
      refine dq_pure rfl (fun s => .op rfl (.nil)) (fun s hs _ => loc_load1 rfl) (by exact .cons (.inr fun _ _ _ => rfl) (.nil)) ?_
      refine dq_pure rfl (fun s => .g rfl (.nil)) (fun s hs _ => loc_move rfl) (by exact .cons (.inr fun _ _ _ => rfl) (.nil)) ?_
      refine dq_pure rfl (fun s => .g rfl (.nil)) (fun s hs _ => loc_move rfl) (by exact .cons (.inr fun _ _ _ => rfl) (.nil)) ?_
      first | refine dq_pure rfl (fun s => .op rfl (.nil)) (fun s hs _ => loc_add rfl rfl (by first | omega | assumption)) (by exact .cons (.inr fun _ _ _ => rfl) (.nil)) ?_ | refine dq_pure rfl (fun s => .op rfl (.nil)) (fun s hs _ => loc_addW rfl rfl) (by exact .cons (.inr fun _ _ _ => rfl) (.nil)) ?_
      first | refine dq_pure rfl (fun s => .op rfl (.op rfl (.nil))) (fun s hs _ => loc_index rfl rfl (by first | omega | assumption)) (by exact .cons (.inr fun _ _ _ => rfl) (.nil)) ?_ | refine dq_pure rfl (fun s => .op rfl (.op rfl (.nil))) (fun s hs _ => loc_indexI rfl rfl (by first | omega | assumption)) (by exact .cons (.inr fun _ _ _ => rfl) (.nil)) ?_
      refine dq_pure rfl (fun s => .op rfl (.nil)) (fun s hs _ => loc_load1 rfl) (by exact .cons (.inr fun _ _ _ => rfl) (.nil)) ?_
      refine dq_pure rfl (fun s => .op rfl (.op rfl (.nil))) (fun s hs _ => loc_call (rnode_spec _ _) rfl) (by exact .cons (.inr fun _ _ _ => rfl) (.nil)) ?_
      refine dq_pure rfl (fun s => .op rfl (.nil)) (fun s hs _ => loc_buildSlice rfl rfl (.one rfl (.nil)) rfl rfl) (by exact .cons (.inr fun _ _ _ => rfl) (.nil)) ?_
      refine dq_choose id (fun _ t => t) rfl (fun _ _ => ⟨rfl, id, trivial⟩) (fun s => .op rfl (.op rfl (.nil))) rfl rfl (fun s hs => loc_append1 _ rfl rfl rfl rfl (by first | omega | (unfold lenMax; omega) | assumption | (simp; omega) | (simp [lenMax]; omega)) (by first | omega | (unfold lenMax; omega) | assumption | (simp; omega) | (simp [lenMax]; omega))) (by exact .cons (.inl rfl) (.nil)) ?_
      refine dq_pure rfl (fun s => .op rfl (.nil)) (fun s hs _ => loc_assign rfl) (by exact .cons (.inl rfl) (.nil)) ?_
      refine dq_end (rs := [_]) (.bool true) rfl (fun _ => rfl) (.cons rfl (.nil)) rfl (fun v6 _ => ?_)
      dsimp only [outG, outM, List.map, List.set, id]
      refine run_inBlock ?_
      refine run_region ?_
      refine run_op (loc_move rfl) rfl ?_
      first | refine run_op (loc_add rfl rfl (by first | omega | assumption)) rfl ?_ | refine run_op (loc_addW rfl rfl) rfl ?_
      refine run_op (loc_assign rfl) rfl ?_
      refine run_nil ?_
      exact run_againF ih1 ((v6, s.2 + 1)) (by simp only; omega) (by simp only; omega) (.cons rfl (by first | exact fun _ _ h => h | exact d_int (by omega) | exact d_int (by simp) | exact d_intN (by omega) | exact d_any) (.cons rfl (d_int (by show ((2 * s.2 : Nat) : Int) + 2 = ((2 * (s.2 + 1) : Nat) : Int); omega)) .nil)) (.cons rfl (fun _ _ x => x) (.nil)) (by simp only [appR]; rw [upD_take_two xs s.2 (by omega), show ((2 * s.2 : Nat) + 1 : Int).toNat = 2 * s.2 + 1 by omega])
    ·
      refine run_region ?_
      refine run_op (loc_move rfl) rfl ?_
      refine run_op (loc_move rfl) rfl ?_
      refine run_op (loc_move rfl) rfl ?_
      first | refine run_op (loc_index rfl rfl (by first | omega | assumption)) rfl ?_ | refine run_op (loc_indexI rfl rfl (by first | omega | assumption)) rfl ?_
      refine run_op (loc_load1 rfl) rfl ?_
      refine run_op (loc_buildSlice rfl rfl (.one rfl (.nil)) rfl rfl) rfl ?_
      refine run_append1 rfl (.here) rfl (by rfl) (by rfl) (by first | omega | (unfold lenMax; omega) | assumption | (simp; omega) | (simp [lenMax]; omega)) (by first | omega | (unfold lenMax; omega) | assumption | (simp; omega) | (simp [lenMax]; omega)) rfl (fun v7 => ?_)
      refine run_op (loc_assign rfl) rfl ?_
      refine run_nil ?_
      refine run_inBlock ?_
      refine run_region ?_
      refine run_op (loc_move rfl) rfl ?_
      first | refine run_op (loc_add rfl rfl (by first | omega | assumption)) rfl ?_ | refine run_op (loc_addW rfl rfl) rfl ?_
      refine run_op (loc_assign rfl) rfl ?_
      refine run_nil ?_
      exact run_againF ih1 ((v7, s.2 + 1)) (by simp only; omega) (by simp only; omega) (.cons rfl (by first | exact fun _ _ h => h | exact d_int (by omega) | exact d_int (by simp) | exact d_intN (by omega) | exact d_any) (.cons rfl (d_int (by show ((2 * s.2 : Nat) : Int) + 2 = ((2 * (s.2 + 1) : Nat) : Int); omega)) .nil)) (.cons rfl (fun _ _ x => x) (.nil)) (by simp only [appR]; rw [List.take_of_length_le (l := xs) (i := 2 * (s.2 + 1)) (by omega), upD_take_last xs s.2 (by omega)])
  ·
    refine run_exit rfl ?_
    refine run_seq ?_
    refine run_freezeRow (s := 3) rfl (.here) ?_
    refine run_region ?_
    refine run_op (loc_move rfl) rfl ?_
    refine run_op (loc_assign rfl) rfl ?_
    refine run_nil ?_
    refine run_retP Try.func70 rfl rfl ?_
    exact d_eq (by rw [List.take_of_length_le (by omega)])

theorem rroot_spec (xs : List Int) : SpecP Try.prog 53 [dInts xs] (dTup [dInt .i64 (rootR xs), dInt .i64 (listErr xs)]) := by
  refine specP_of_body Try.func53 rfl rfl (fun I M => ?_)
  refine run_seq ?_
  refine run_region ?_
  refine run_op (loc_assign rfl) rfl ?_
  refine run_op (loc_assign rfl) rfl ?_
  refine run_nil ?_
  refine run_seq ?_
  refine run_seq ?_
  refine run_region ?_
  refine run_op (loc_move rfl) rfl ?_
  refine run_op (loc_call (list_spec _) rfl) rfl ?_
  refine run_op (loc_assign rfl) rfl ?_
  refine run_nil ?_
  refine run_seq ?_
  refine run_region ?_
  refine run_op (loc_move rfl) rfl ?_
  refine run_op (loc_neq rfl rfl) rfl ?_
  refine run_nil ?_
  refine run_cond rfl (fun h1 => ?_) (fun h1 => ?_)
  ·
    refine run_seq ?_
    refine run_region ?_
    refine run_op (loc_move rfl) rfl ?_
    refine run_op (loc_assign rfl) rfl ?_
    refine run_op (loc_assign rfl) rfl ?_
    refine run_nil ?_
    refine run_ret2P Try.func53 rfl rfl rfl ?_
    exact d_tup2 (d_int (by unfold rootR; rw [if_neg (by assumption)])) (d_int rfl)
  ·
    refine run_skip ?_
    refine run_seq ?_
    refine run_seq ?_
    refine run_region ?_
    refine run_op (loc_move rfl) rfl ?_
    first | refine runL_fact (s := 10) rfl (fun _ _ h => dSl_len h) (fun hlen2 => ?_) | skip
    refine run_op (loc_len rfl) rfl ?_
    refine run_op (loc_eql rfl rfl) rfl ?_
    refine run_nil ?_
    refine run_cond rfl (fun h3 => ?_) (fun h3 => ?_)
    ·
      refine run_seq ?_
      refine run_region ?_
      refine run_op (loc_assign rfl) rfl ?_
      refine run_op (loc_assign rfl) rfl ?_
      refine run_nil ?_
      refine run_ret2P Try.func53 rfl rfl rfl ?_
      exact d_tup2 (d_int (by unfold rootR; rw [if_pos (by omega), show xs = [] from List.eq_nil_of_length_eq_zero (by omega)]; rfl)) (d_int (by omega))
    ·
      refine run_skip ?_
      refine run_seq ?_
      refine run_block ?_
      refine run_loopC (σ := List Int) (ks := []) (.nil) (fun ys => [(0, dInts ys)]) (fun ys => 0 < ys.length ∧ rootD ys = rootD xs) (fun ys => ys.length) (xs) (⟨by omega, rfl⟩) (.cons rfl (by first | exact fun _ _ h => h | exact d_int (by omega) | exact d_int (by simp) | exact d_intN (by omega) | exact d_any) .nil) ?_
      rintro ys ⟨hy, hr⟩ ih4
      refine run_seq ?_
      refine run_seq ?_
      refine run_region ?_
      refine run_op (loc_move rfl) rfl ?_
      first | refine runL_fact (s := 13) rfl (fun _ _ h => dSl_len h) (fun hlen5 => ?_) | skip
      refine run_op (loc_len rfl) rfl ?_
      refine run_op (loc_gtr rfl rfl) rfl ?_
      refine run_nil ?_
      refine run_cond rfl (fun h6 => ?_) (fun h6 => ?_)
      ·
        refine run_skip ?_
        refine run_block ?_
        refine run_region ?_
        refine run_op (loc_move rfl) rfl ?_
        refine run_op (loc_call (up_spec _) rfl) rfl ?_
        refine run_op (loc_assign rfl) rfl ?_
        refine run_nil ?_
        refine run_inBlock ?_
        exact run_againC ih4 (upD ys) (⟨by rw [upD_length]; omega, by rw [← rootD_up ys (by omega), hr]⟩) (by rw [upD_length]; omega) (.cons rfl (by first | exact fun _ _ h => h | exact d_int (by omega) | exact d_int (by simp) | exact d_intN (by omega) | exact d_any) .nil) (.nil)
      ·
        refine run_exit rfl ?_
        refine run_seq ?_
        refine run_region ?_
        refine run_op (loc_move rfl) rfl ?_
        first | refine run_op (loc_index rfl rfl (by first | omega | assumption)) rfl ?_ | refine run_op (loc_indexI rfl rfl (by first | omega | assumption)) rfl ?_
        refine run_op (loc_load1 rfl) rfl ?_
        refine run_op (loc_assign rfl) rfl ?_
        refine run_op (loc_assign rfl) rfl ?_
        refine run_nil ?_
        refine run_ret2P Try.func53 rfl rfl rfl ?_
        exact d_tup2 (d_int (by unfold rootR; rw [if_pos (by omega), ← hr]; match ys, (show ys.length = 1 by omega) with | [y], _ => rfl)) (d_int (by omega))

theorem in3_spec (p : Int) (xs : List Int) : SpecP Try.prog 86 [dAgg [dInt .i64 p], dInts xs] (dB (okP p ∧ allP p xs)) := by
  refine specP_of_body Try.func86 rfl rfl (fun I M => ?_)
  refine run_seq ?_
  refine run_region ?_
  refine run_op (loc_boxN rfl) rfl ?_
  refine run_op (loc_assign rfl) rfl ?_
  refine run_nil ?_
  refine run_seq ?_
  refine run_seq ?_
  refine run_region ?_
  refine run_op (loc_loadN rfl rfl) rfl ?_
  refine run_op (loc_call (rcheck3_spec _) rfl) rfl ?_
  refine run_op (loc_neq rfl rfl) rfl ?_
  refine run_nil ?_
  refine run_cond rfl (fun h1 => ?_) (fun h1 => ?_)
  ·
    have c1 : ¬ okP p := fun h => h1 (errP_zero.2 h)
    refine run_seq ?_
    refine run_region ?_
    refine run_op (loc_assign rfl) rfl ?_
    refine run_nil ?_
    refine run_retP Try.func86 rfl rfl ?_
    exact d_B ⟨False.elim, fun h => c1 h.1⟩
  ·
    have c1 : okP p := errP_zero.1 (Classical.not_not.1 h1)
    refine run_skip ?_
    refine run_seq ?_
    refine run_seq ?_
    refine run_region ?_
    refine run_op (loc_move rfl) rfl ?_
    first | refine runL_fact (s := 10) rfl (fun _ _ h => dSl_len h) (fun hlen2 => ?_) | skip
    refine run_op (loc_len rfl) rfl ?_
    refine run_op (loc_move rfl) rfl ?_
    refine run_nil ?_
    refine run_block ?_
    refine run_loopC (σ := Nat) (ks := [2, 10, 11]) (.cons rfl (.cons rfl (.cons rfl (.nil)))) (fun k => [(12, dInt .i64 (k : Nat))]) (fun k => k ≤ xs.length ∧ (∀ j, j < k → hasP p (xs[j]?.getD default))) (fun k => xs.length - k) (0) (⟨by omega, fun j hj => by omega⟩) (.cons rfl (by first | exact fun _ _ h => h | exact d_int (by omega) | exact d_int (by simp) | exact d_intN (by omega) | exact d_any) .nil) ?_
    rintro k ⟨hk, hbk⟩ ih3
    refine run_seq ?_
    refine run_region ?_
    refine run_op (loc_lss rfl rfl) rfl ?_
    refine run_nil ?_
    refine run_seq ?_
    refine run_cond rfl (fun h4 => ?_) (fun h4 => ?_)
    ·
      refine run_skip ?_
      refine run_seq ?_
      refine run_block ?_
      refine run_seq ?_
      refine run_region ?_
      first | refine run_op (loc_index rfl rfl (by first | omega | assumption)) rfl ?_ | refine run_op (loc_indexI rfl rfl (by first | omega | assumption)) rfl ?_
      refine run_op (loc_load1 rfl) rfl ?_
      refine run_op (loc_assign rfl) rfl ?_
      refine run_nil ?_
      refine run_seq ?_
      refine run_region ?_
      refine run_op (loc_move rfl) rfl ?_
      refine run_op (loc_lss rfl rfl) rfl ?_
      refine run_op (loc_move rfl) rfl ?_
      refine run_gfirst rfl rfl (by first | exact guard_true _ | exact guard_false _ | exact guard_if (guard_true _) | exact guard_if (guard_false _)) (fun hg => loc_move rfl) rfl ?_
      refine run_gop rfl rfl (by first | exact guard_true _ | exact guard_false _ | exact guard_if (guard_true _) | exact guard_if (guard_false _)) (fun hg => loc_fieldAddr rfl) rfl ?_
      refine run_gop rfl rfl (by first | exact guard_true _ | exact guard_false _ | exact guard_if (guard_true _) | exact guard_if (guard_false _)) (fun hg => loc_load1 rfl) rfl ?_
      refine run_gop rfl rfl (by first | exact guard_true _ | exact guard_false _ | exact guard_if (guard_true _) | exact guard_if (guard_false _)) (fun hg => loc_geq rfl rfl) rfl ?_
      refine run_gleave ?_
      refine run_op (loc_or rfl rfl) rfl ?_
      refine run_nil ?_
      refine run_cond rfl (fun h5 => ?_) (fun h5 => ?_)
      ·
        have hg : ¬ hasP p (xs[k]?.getD default) := by unfold hasP; omega
        refine run_seq ?_
        refine run_region ?_
        refine run_op (loc_assign rfl) rfl ?_
        refine run_nil ?_
        refine run_retP Try.func86 rfl rfl ?_
        exact d_B ⟨False.elim, fun h => hg (h.2 _ (getD_mem (by omega)))⟩
      ·
        have hg : hasP p (xs[k]?.getD default) := by unfold hasP; omega
        refine run_skip ?_
        refine run_inBlock ?_
        refine run_region ?_
        first | refine run_op (loc_add rfl rfl (by first | omega | assumption)) rfl ?_ | refine run_op (loc_addW rfl rfl) rfl ?_
        refine run_op (loc_move rfl) rfl ?_
        refine run_nil ?_
        exact run_againC ih3 (k + 1) (⟨by omega, fun j hj => by by_cases e : j = k; (· subst e; exact hg); (· exact hbk j (by omega))⟩) (by omega) (.cons rfl (by first | exact fun _ _ h => h | exact d_int (by omega) | exact d_int (by simp) | exact d_intN (by omega) | exact d_any) .nil) (.cons rfl (fun _ _ x => x) (.cons rfl (fun _ _ x => x) (.cons rfl (fun _ _ x => x) (.nil))))
    ·
      refine run_exit rfl ?_
      refine run_seq ?_
      refine run_region ?_
      refine run_op (loc_assign rfl) rfl ?_
      refine run_nil ?_
      refine run_retP Try.func86 rfl rfl ?_
      exact d_B ⟨fun _ => ⟨c1, fun x hx => by obtain ⟨i, hi, rfl⟩ := List.mem_iff_getElem.1 hx; have := hbk i (by omega); simpa [hi] using this⟩, fun _ => trivial⟩

theorem rtcheck_spec (t : Tab) : SpecP Try.prog 67 [dTab t] (dInt .i64 (checkT t)) := by
  refine specP_of_body Try.func67 rfl rfl (fun I M => ?_)
  refine run_seq ?_
  refine run_region ?_
  refine run_op (loc_boxN rfl) rfl ?_
  refine run_op (loc_assign rfl) rfl ?_
  refine run_nil ?_
  refine run_seq ?_
  refine run_seq ?_
  refine run_region ?_
  refine run_op (loc_fieldAddr rfl) rfl ?_
  refine run_op (loc_load1 rfl) rfl ?_
  refine run_op (loc_lss rfl rfl) rfl ?_
  refine run_op (loc_move rfl) rfl ?_
  refine run_gfirst rfl rfl (by first | exact guard_true _ | exact guard_false _ | exact guard_if (guard_true _) | exact guard_if (guard_false _)) (fun hg => loc_fieldAddr rfl) rfl ?_
  refine run_gop rfl rfl (by first | exact guard_true _ | exact guard_false _ | exact guard_if (guard_true _) | exact guard_if (guard_false _)) (fun hg => loc_load1 rfl) rfl ?_
  refine run_gop rfl rfl (by first | exact guard_true _ | exact guard_false _ | exact guard_if (guard_true _) | exact guard_if (guard_false _)) (fun hg => loc_geq rfl rfl) rfl ?_
  refine run_gleave ?_
  refine run_op (loc_or rfl rfl) rfl ?_
  refine run_nil ?_
  refine run_cond rfl (fun h1 => ?_) (fun h1 => ?_)
  ·
    have c1 := h1
    refine run_seq ?_
    refine run_region ?_
    refine run_op (loc_assign rfl) rfl ?_
    refine run_nil ?_
    refine run_retP Try.func67 rfl rfl ?_
    exact d_int (by unfold checkT; rw [if_pos c1])
  ·
    have c1 := h1
    refine run_skip ?_
    refine run_seq ?_
    refine run_seq ?_
    refine run_region ?_
    refine run_op (loc_fieldAddr rfl) rfl ?_
    refine run_op (loc_loadN rfl rfl) rfl ?_
    refine run_op (loc_call (rcheck3_spec _) rfl) rfl ?_
    refine run_op (loc_assign rfl) rfl ?_
    refine run_nil ?_
    refine run_seq ?_
    refine run_region ?_
    refine run_op (loc_move rfl) rfl ?_
    refine run_op (loc_neq rfl rfl) rfl ?_
    refine run_nil ?_
    refine run_cond rfl (fun h2 => ?_) (fun h2 => ?_)
    ·
      have c2 : ¬ okP t.p := fun h => h2 (errP_zero.2 h)
      refine run_seq ?_
      refine run_region ?_
      refine run_op (loc_move rfl) rfl ?_
      refine run_op (loc_assign rfl) rfl ?_
      refine run_nil ?_
      refine run_retP Try.func67 rfl rfl ?_
      exact d_int (by unfold checkT; rw [if_neg c1, if_pos c2]; unfold errP; rw [if_neg c2])
    ·
      have c2 : okP t.p := errP_zero.1 (Classical.not_not.1 h2)
      refine run_skip ?_
      refine run_seq ?_
      refine run_seq ?_
      refine run_region ?_
      refine run_op (loc_fieldAddr rfl) rfl ?_
      refine run_op (loc_load1 rfl) rfl ?_
      refine run_op (loc_lss rfl rfl) rfl ?_
      refine run_op (loc_move rfl) rfl ?_
      refine run_gfirst rfl rfl (by first | exact guard_true _ | exact guard_false _ | exact guard_if (guard_true _) | exact guard_if (guard_false _)) (fun hg => loc_fieldAddr rfl) rfl ?_
      refine run_gop rfl rfl (by first | exact guard_true _ | exact guard_false _ | exact guard_if (guard_true _) | exact guard_if (guard_false _)) (fun hg => loc_load1 rfl) rfl ?_
      refine run_gop rfl rfl (by first | exact guard_true _ | exact guard_false _ | exact guard_if (guard_true _) | exact guard_if (guard_false _)) (fun hg => loc_gtr rfl rfl) rfl ?_
      refine run_gleave ?_
      refine run_op (loc_or rfl rfl) rfl ?_
      refine run_nil ?_
      refine run_cond rfl (fun h3 => ?_) (fun h3 => ?_)
      ·
        have c3 := h3
        refine run_seq ?_
        refine run_region ?_
        refine run_op (loc_assign rfl) rfl ?_
        refine run_nil ?_
        refine run_retP Try.func67 rfl rfl ?_
        exact d_int (by unfold checkT; rw [if_neg c1, if_neg (Classical.not_not.2 c2), if_pos c3])
      ·
        have c3 := h3
        refine run_skip ?_
        refine run_seq ?_
        refine run_seq ?_
        refine run_region ?_
        refine run_op (loc_fieldAddr rfl) rfl ?_
        refine run_op (loc_load1 rfl) rfl ?_
        first | refine runL_fact (s := 29) rfl (fun _ _ h => dSl_len h) (fun hlen4 => ?_) | skip
        refine run_op (loc_len rfl) rfl ?_
        refine run_op (loc_gtr rfl rfl) rfl ?_
        refine run_nil ?_
        refine run_cond rfl (fun h5 => ?_) (fun h5 => ?_)
        ·
          have c4 := h5
          refine run_seq ?_
          refine run_region ?_
          refine run_op (loc_assign rfl) rfl ?_
          refine run_nil ?_
          refine run_retP Try.func67 rfl rfl ?_
          exact d_int (by unfold checkT; rw [if_neg c1, if_neg (Classical.not_not.2 c2), if_neg c3, if_pos (by omega)])
        ·
          have c4 := h5
          refine run_skip ?_
          refine run_seq ?_
          refine run_seq ?_
          refine run_region ?_
          refine run_op (loc_fieldAddr rfl) rfl ?_
          refine run_op (loc_load1 rfl) rfl ?_
          first | refine runL_fact (s := 33) rfl (fun _ _ h => dSl_len h) (fun hlen6 => ?_) | skip
          refine run_op (loc_len rfl) rfl ?_
          refine run_op (loc_move rfl) rfl ?_
          refine run_nil ?_
          refine run_block ?_
          refine run_loopC (σ := Nat) (ks := [1, 33, 34]) (.cons rfl (.cons rfl (.cons rfl (.nil)))) (fun k => [(35, dInt .i64 (k : Nat))]) (fun k => k ≤ t.rows.length ∧ (∀ j, j < k → rowErr t.p t.width (t.rows[j]?.getD default) = 0)) (fun k => t.rows.length - k) (0) (⟨by omega, fun j hj => by omega⟩) (.cons rfl (by first | exact fun _ _ h => h | exact d_int (by omega) | exact d_int (by simp) | exact d_intN (by omega) | exact d_any) .nil) ?_
          rintro k ⟨hk, hbk⟩ ih7
          refine run_seq ?_
          refine run_region ?_
          refine run_op (loc_lss rfl rfl) rfl ?_
          refine run_nil ?_
          refine run_seq ?_
          refine run_cond rfl (fun h8 => ?_) (fun h8 => ?_)
          ·
            refine run_skip ?_
            refine run_seq ?_
            refine run_block ?_
            refine run_seq ?_
            refine run_region ?_
            first | refine run_op (loc_index rfl rfl (by first | omega | assumption)) rfl ?_ | refine run_op (loc_indexI rfl rfl (by first | omega | assumption)) rfl ?_
            refine run_op (loc_load1 rfl) rfl ?_
            refine run_op (loc_assign rfl) rfl ?_
            refine run_nil ?_
            refine run_seq ?_
            refine run_seq ?_
            refine run_region ?_
            refine run_op (loc_move rfl) rfl ?_
            first | refine runL_fact (s := 39) rfl (fun _ _ h => dSl_len h) (fun hlen9 => ?_) | skip
            refine run_op (loc_len rfl) rfl ?_
            refine run_op (loc_fieldAddr rfl) rfl ?_
            refine run_op (loc_load1 rfl) rfl ?_
            refine run_op (loc_neq rfl rfl) rfl ?_
            refine run_nil ?_
            refine run_cond rfl (fun h10 => ?_) (fun h10 => ?_)
            ·
              refine run_seq ?_
              refine run_region ?_
              refine run_op (loc_assign rfl) rfl ?_
              refine run_nil ?_
              refine run_retP Try.func67 rfl rfl ?_
              exact d_int (by unfold checkT; rw [if_neg c1, if_neg (Classical.not_not.2 c2), if_neg c3, if_neg (by omega), firstErr_at (i := k) (by omega) hbk (by rw [show rowErr t.p t.width (t.rows[k]?.getD default) = 2 by unfold rowErr; rw [if_pos (by omega)]]; omega), show rowErr t.p t.width (t.rows[k]?.getD default) = 2 by unfold rowErr; rw [if_pos (by omega)]])
            ·
              refine run_skip ?_
              refine run_seq ?_
              refine run_region ?_
              refine run_op (loc_fieldAddr rfl) rfl ?_
              refine run_op (loc_loadN rfl rfl) rfl ?_
              refine run_op (loc_move rfl) rfl ?_
              refine run_op (loc_call (in3_spec _ _) rfl) rfl ?_
              refine run_op (loc_not rfl) rfl ?_
              refine run_nil ?_
              refine run_cond rfl (fun h11 => ?_) (fun h11 => ?_)
              ·
                have r9 : ¬ allP t.p (t.rows[k]?.getD default) := fun h => h11 ⟨c2, h⟩
                refine run_seq ?_
                refine run_region ?_
                refine run_op (loc_assign rfl) rfl ?_
                refine run_nil ?_
                refine run_retP Try.func67 rfl rfl ?_
                exact d_int (by unfold checkT; rw [if_neg c1, if_neg (Classical.not_not.2 c2), if_neg c3, if_neg (by omega), firstErr_at (i := k) (by omega) hbk (by rw [show rowErr t.p t.width (t.rows[k]?.getD default) = 9 by unfold rowErr; rw [if_neg (by omega), if_pos r9]]; omega), show rowErr t.p t.width (t.rows[k]?.getD default) = 9 by unfold rowErr; rw [if_neg (by omega), if_pos r9]])
              ·
                have r9 : allP t.p (t.rows[k]?.getD default) := (Classical.not_not.1 h11).2
                refine run_skip ?_
                refine run_inBlock ?_
                refine run_region ?_
                first | refine run_op (loc_add rfl rfl (by first | omega | assumption)) rfl ?_ | refine run_op (loc_addW rfl rfl) rfl ?_
                refine run_op (loc_move rfl) rfl ?_
                refine run_nil ?_
                exact run_againC ih7 (k + 1) (⟨by omega, fun j hj => by by_cases e : j = k; (· subst e; unfold rowErr; rw [if_neg (by omega), if_neg (Classical.not_not.2 r9)]); (· exact hbk j (by omega))⟩) (by omega) (.cons rfl (by first | exact fun _ _ h => h | exact d_int (by omega) | exact d_int (by simp) | exact d_intN (by omega) | exact d_any) .nil) (.cons rfl (fun _ _ x => x) (.cons rfl (fun _ _ x => x) (.cons rfl (fun _ _ x => x) (.nil))))
          ·
            refine run_exit rfl ?_
            refine run_seq ?_
            refine run_region ?_
            refine run_op (loc_assign rfl) rfl ?_
            refine run_nil ?_
            refine run_retP Try.func67 rfl rfl ?_
            exact d_int (by unfold checkT; rw [if_neg c1, if_neg (Classical.not_not.2 c2), if_neg c3, if_neg (by omega), firstErr_none' (fun j hj => hbk j (by omega))])

theorem rdigests_spec (t : Tab) : SpecP Try.prog 52 [dTab t] (dTup [dInts (digs t), dInt .i64 (checkT t)]) := by
  refine specP_of_body Try.func52 rfl rfl (fun I M => ?_)
  refine run_seq ?_
  refine run_region ?_
  refine run_op (loc_boxN rfl) rfl ?_
  refine run_op (loc_assign rfl) rfl ?_
  refine run_op (loc_assign rfl) rfl ?_
  refine run_nil ?_
  refine run_seq ?_
  refine run_seq ?_
  refine run_region ?_
  refine run_op (loc_loadN rfl rfl) rfl ?_
  refine run_op (loc_call (rtcheck_spec _) rfl) rfl ?_
  refine run_op (loc_assign rfl) rfl ?_
  refine run_nil ?_
  refine run_seq ?_
  refine run_region ?_
  refine run_op (loc_move rfl) rfl ?_
  refine run_op (loc_neq rfl rfl) rfl ?_
  refine run_nil ?_
  refine run_cond rfl (fun h1 => ?_) (fun h1 => ?_)
  ·
    have c1 := h1
    refine run_seq ?_
    refine run_region ?_
    refine run_op (loc_move rfl) rfl ?_
    refine run_op (loc_assign rfl) rfl ?_
    refine run_op (loc_assign rfl) rfl ?_
    refine run_nil ?_
    refine run_ret2P Try.func52 rfl rfl rfl ?_
    exact d_tup2 (d_toInts (by unfold digs; rw [if_neg c1]) d_nil) (d_int rfl)
  ·
    have c1 := Classical.not_not.1 h1
    have ct := checkT_ok c1
    refine run_skip ?_
    refine run_seq ?_
    refine run_region ?_
    refine run_op (loc_assign rfl) rfl ?_
    refine run_nil ?_
    refine run_seq ?_
    refine run_seq ?_
    refine run_region ?_
    refine run_op (loc_fieldAddr rfl) rfl ?_
    refine run_op (loc_load1 rfl) rfl ?_
    first | refine runL_fact (s := 14) rfl (fun _ _ h => dSl_len h) (fun hlen2 => ?_) | skip
    refine run_op (loc_len rfl) rfl ?_
    refine run_op (loc_move rfl) rfl ?_
    refine run_nil ?_
    refine run_block ?_
    refine run_rowNil 3 1 fI ?_
    refine run_loopF (σ := Value × Nat) (ks := [14, 15]) (.cons rfl (.cons rfl (.nil))) (fun s => [(5, dVal s.1), (16, dInt .i64 (s.2 : Nat))]) (fun s => [rRow s.1 3 1 fI ((t.rows.take s.2).map rowD)]) (fun s => s.2 ≤ t.rows.length) (fun s => t.rows.length - s.2) ((.slice none 0 0, 0)) (Nat.zero_le _) (.cons rfl (by first | exact fun _ _ h => h | exact d_int (by omega) | exact d_int (by simp) | exact d_intN (by omega) | exact d_any) (.cons rfl (by first | exact fun _ _ h => h | exact d_int (by omega) | exact d_int (by simp) | exact d_intN (by omega) | exact d_any) .nil)) (rfl) ?_
    intro s hk ih3
    have hl : ((t.rows.take s.2).map rowD).length ≤ 1024 := by simp; omega
    refine run_seq ?_
    refine run_region ?_
    refine run_op (loc_lss rfl rfl) rfl ?_
    refine run_nil ?_
    refine run_seq ?_
    refine run_cond rfl (fun h4 => ?_) (fun h4 => ?_)
    ·
      refine run_skip ?_
      refine run_seq ?_
      refine run_block ?_
      refine run_seq ?_
      refine run_region ?_
      first | refine run_op (loc_index rfl rfl (by first | omega | assumption)) rfl ?_ | refine run_op (loc_indexI rfl rfl (by first | omega | assumption)) rfl ?_
      refine run_op (loc_load1 rfl) rfl ?_
      refine run_op (loc_assign rfl) rfl ?_
      refine run_nil ?_
      refine run_region ?_
      refine run_op (loc_move rfl) rfl ?_
      refine run_op (loc_move rfl) rfl ?_
      refine run_op (loc_call (rrow_spec _) rfl) rfl ?_
      refine run_op (loc_buildSlice rfl rfl (.one rfl (.nil)) rfl rfl) rfl ?_
      refine run_append1 rfl (.here) rfl (by rfl) (by rfl) (by first | omega | (unfold lenMax; omega) | assumption | (simp; omega) | (simp [lenMax]; omega)) (by first | omega | (unfold lenMax; omega) | assumption | (simp; omega) | (simp [lenMax]; omega)) rfl (fun v5 => ?_)
      refine run_op (loc_assign rfl) rfl ?_
      refine run_nil ?_
      refine run_inBlock ?_
      refine run_region ?_
      first | refine run_op (loc_add rfl rfl (by first | omega | assumption)) rfl ?_ | refine run_op (loc_addW rfl rfl) rfl ?_
      refine run_op (loc_move rfl) rfl ?_
      refine run_nil ?_
      exact run_againF ih3 ((v5, s.2 + 1)) (by simp only; omega) (by simp only; omega) (.cons rfl (by first | exact fun _ _ h => h | exact d_int (by omega) | exact d_int (by simp) | exact d_intN (by omega) | exact d_any) (.cons rfl (by first | exact fun _ _ h => h | exact d_int (by omega) | exact d_int (by simp) | exact d_intN (by omega) | exact d_any) .nil)) (.cons rfl (fun _ _ x => x) (.cons rfl (fun _ _ x => x) (.nil))) (by simp only [appR]; rw [List.take_add_one, show t.rows[s.2]? = some (t.rows[s.2]?.getD default) by rw [List.getElem?_eq_getElem (by omega)]; rfl]; simp)
    ·
      refine run_exit rfl ?_
      refine run_seq ?_
      refine run_freezeRow (s := 5) rfl (.here) ?_
      refine run_region ?_
      refine run_op (loc_move rfl) rfl ?_
      refine run_op (loc_assign rfl) rfl ?_
      refine run_op (loc_assign rfl) rfl ?_
      refine run_nil ?_
      refine run_ret2P Try.func52 rfl rfl rfl ?_
      exact d_tup2 (d_toInts (by unfold digs; rw [if_pos c1]) (d_toInts (by rw [List.take_of_length_le (by omega)]) (fun _ _ h => h))) (d_int c1.symm)

theorem rootR_digs {t : Tab} (h : checkT t = 0) : listErr (digs t) = 0 ∧ rootR (digs t) = rootD (t.rows.map rowD) := by
  have h1 : digs t = t.rows.map rowD := by unfold digs; rw [if_pos h]
  have h2 := listErr_digs t.rows (checkT_ok h).2.2.2.1
  rw [h1]
  exact ⟨h2, by unfold rootR; rw [if_pos h2]⟩
theorem rhead_spec (t : Tab) : SpecP Try.prog 29 [dTab t] (dTup [dHd (headT t), dInt .i64 (checkT t)]) := by
  refine specP_of_body Try.func29 rfl rfl (fun I M => ?_)
  refine run_seq ?_
  refine run_region ?_
  refine run_op (loc_boxN rfl) rfl ?_
  refine run_new (loc_allocOwn (by simp)) rfl (fun b1 _ => ?_)
  refine run_op (loc_assign rfl) rfl ?_
  refine run_nil ?_
  refine run_seq ?_
  refine run_region ?_
  refine run_op (loc_loadN rfl rfl) rfl ?_
  refine run_op (loc_call (rdigests_spec _) rfl) rfl ?_
  refine run_op (loc_move rfl) rfl ?_
  refine run_op (loc_extract rfl rfl) rfl ?_
  refine run_op (loc_extract rfl rfl) rfl ?_
  refine run_op (loc_assign rfl) rfl ?_
  refine run_op (loc_assign rfl) rfl ?_
  refine run_nil ?_
  refine run_seq ?_
  refine run_seq ?_
  refine run_region ?_
  refine run_op (loc_move rfl) rfl ?_
  refine run_op (loc_neq rfl rfl) rfl ?_
  refine run_nil ?_
  refine run_cond rfl (fun h2 => ?_) (fun h2 => ?_)
  ·
    have c1 := h2
    refine run_seq ?_
    refine run_region ?_
    refine run_op (loc_build (.nil)) rfl ?_
    refine run_op (loc_move rfl) rfl ?_
    refine run_storeN (ho := (by show OneAll [_, _, _, _, _]; infer_instance)) rfl rfl (.here) (by rfl) ?_
    refine run_op (loc_assign rfl) rfl ?_
    refine run_nil ?_
    refine run_retGP Try.func29 rfl (.cellN rfl (by first | exact .here | exact .there .here | exact .there (.there .here) | exact .there (.there (.there .here)) | exact .there (.there (.there (.there .here))) | exact .there (.there (.there (.there (.there .here))))) (by rfl) (.tmp rfl (.nil))) ?_ (fun _ _ h => inv_tail (h))
    exact d_tup2 (d_eq (by unfold headT; rw [if_neg c1]; rfl)) (fun _ _ h => h)
  ·
    have c1 := h2
    refine run_skip ?_
    refine run_seq ?_
    refine run_region ?_
    refine run_op (loc_move rfl) rfl ?_
    refine run_op (loc_call (rroot_spec _) rfl) rfl ?_
    refine run_op (loc_move rfl) rfl ?_
    refine run_op (loc_extract rfl rfl) rfl ?_
    refine run_op (loc_extract rfl rfl) rfl ?_
    refine run_op (loc_assign rfl) rfl ?_
    refine run_op (loc_assign rfl) rfl ?_
    refine run_nil ?_
    refine run_seq ?_
    refine run_region ?_
    refine run_op (loc_fieldAddr rfl) rfl ?_
    refine run_op (loc_load1 rfl) rfl ?_
    refine run_op (loc_fieldAddr rfl) rfl ?_
    refine run_op (loc_fieldAddr rfl) rfl ?_
    refine run_op (loc_load1 rfl) rfl ?_
    refine run_op (loc_fieldAddr rfl) rfl ?_
    refine run_op (loc_load1 rfl) rfl ?_
    first | refine runL_fact (s := 28) rfl (fun _ _ h => dSl_len h) (fun hlen3 => ?_) | skip
    refine run_op (loc_len rfl) rfl ?_
    refine run_op (loc_fieldAddr rfl) rfl ?_
    refine run_op (loc_load1 rfl) rfl ?_
    refine run_op (loc_move rfl) rfl ?_
    refine run_op (loc_build (.one rfl rfl rfl (.one rfl rfl rfl (.one rfl rfl rfl (.one rfl rfl rfl (.one rfl rfl rfl (.nil))))))) rfl ?_
    refine run_storeN (ho := (by show OneAll [_, _, _, _, _]; infer_instance)) rfl rfl (.here) (by rfl) ?_
    refine run_op (loc_assign rfl) rfl ?_
    refine run_nil ?_
    refine run_retGP Try.func29 rfl (.cellN rfl (by first | exact .here | exact .there .here | exact .there (.there .here) | exact .there (.there (.there .here)) | exact .there (.there (.there (.there .here))) | exact .there (.there (.there (.there (.there .here))))) (by rfl) (.tmp rfl (.nil))) ?_ (fun _ _ h => inv_tail (h))
    exact d_tup2 (d_eq (by unfold headT; rw [if_pos (Classical.not_not.1 c1), ← (rootR_digs (Classical.not_not.1 c1)).2]; rfl)) (d_int (Classical.not_not.1 c1).symm)

end Go.Q
