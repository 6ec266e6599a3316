/- Contracts of heads of tables in the reference. -/
import Derived.Test.YtgaalfgmgmpnbaaGreatQDice23
import Derived.Test.YtgaalfgmgmpnbaaGreatQApi2
import Derived.Test.YtgaalfgmgmpnbaaGreatQMap
import Derived.Test.YtgaalfgmgmpnbaaGreatQRound
set_option linter.unusedVariables false
set_option linter.unusedSimpArgs false
namespace Go.Q
open Go.Proofs
open Classical
instance (h : Hd) : One (dInt .i64 h.number) := inferInstance
theorem rmod_spec (x : Int) : SpecP Tryz.prog 158 [dInt .i64 x] (dInt .i64 (modD x)) := by
 have hb := tmod_bd x 2147483647 (by omega)
 refine specP_of_body Tryz.func158 rfl rfl (fun I M => ?_)
 refine run_seq ?_
 refine run_region ?_
 refine run_op (loc_assign rfl) rfl ?_
 refine run_nil ?_
 refine run_seq ?_
 refine run_region ?_
 refine run_op (loc_move rfl) rfl ?_
 first | refine run_op (loc_rem rfl rfl (by first | omega | assumption)) rfl ?_ | refine run_op (loc_remW rfl rfl (by first | omega | assumption)) rfl ?_
 first | refine run_op (loc_add rfl rfl (by first | omega | assumption)) rfl ?_ | refine run_op (loc_addW rfl rfl) rfl ?_
 first | refine run_op (loc_rem rfl rfl (by first | omega | assumption)) rfl ?_ | refine run_op (loc_remW rfl rfl (by first | omega | assumption)) rfl ?_
 refine run_op (loc_assign rfl) rfl ?_
 refine run_nil ?_
 refine run_retP Tryz.func158 rfl rfl ?_
 exact d_int (mod_twice x 2147483647 (by omega))
theorem rrow_spec (xs : List Int) : SpecP Tryz.prog 122 [dInts xs] (dInt .i64 (rowD xs)) := by
  refine specP_of_body Tryz.func122 rfl rfl (fun I M => ?_)
  refine run_seq ?_
  refine run_region ?_
  refine run_op (loc_assign rfl) rfl ?_
  refine run_nil ?_
  refine run_seq ?_
  refine run_region ?_
  refine run_op (loc_assign rfl) rfl ?_
  refine run_nil ?_
  refine run_seq ?_
  refine run_seq ?_
  refine run_region ?_
  refine run_op (loc_move rfl) rfl ?_
  first | refine runL_fact (s := 6) rfl (fun _ _ h => dSl_len h) (fun hlen1 => ?_) | skip
  refine run_op (loc_len rfl) rfl ?_
  refine run_op (loc_move rfl) rfl ?_
  refine run_nil ?_
  refine run_block ?_
  refine run_loopC (σ := Nat) (ks := [6, 7]) (.cons rfl (.cons rfl (.nil))) (fun k => [(3, dInt .i64 (rowD (xs.take k))), (8, dInt .i64 (k : Nat))]) (fun k => k ≤ xs.length) (fun k => xs.length - k) (0) (Nat.zero_le _) (.cons rfl (by first | exact fun _ _ h => h | exact d_int (by omega) | exact d_int (by simp) | exact d_intN (by omega) | exact d_any) (.cons rfl (by first | exact fun _ _ h => h | exact d_int (by omega) | exact d_int (by simp) | exact d_intN (by omega) | exact d_any) .nil)) ?_
  intro k hk ih2
  have hb := rowD_bd (xs.take k)
  have hm := modD_bd (xs[k]?.getD default)
  refine run_seq ?_
  refine run_region ?_
  refine run_op (loc_lss rfl rfl) rfl ?_
  refine run_nil ?_
  refine run_seq ?_
  refine run_cond rfl (fun h3 => ?_) (fun h3 => ?_)
  ·
   refine run_skip ?_
   refine run_seq ?_
   refine run_block ?_
   refine run_seq ?_
   refine run_region ?_
   first | refine run_op (loc_index rfl rfl (by first | omega | assumption)) rfl ?_ | refine run_op (loc_indexI rfl rfl (by first | omega | assumption)) rfl ?_
   refine run_op (loc_load1 rfl) rfl ?_
   refine run_op (loc_assign rfl) rfl ?_
   refine run_nil ?_
   refine run_region ?_
   refine run_op (loc_move rfl) rfl ?_
   first | refine run_op (loc_mul rfl rfl (by first | omega | assumption)) rfl ?_ | refine run_op (loc_mulW rfl rfl) rfl ?_
   refine run_op (loc_move rfl) rfl ?_
   refine run_op (loc_call (rmod_spec _) rfl) rfl ?_
   first | refine run_op (loc_add rfl rfl (by first | omega | assumption)) rfl ?_ | refine run_op (loc_addW rfl rfl) rfl ?_
   first | refine run_op (loc_add rfl rfl (by first | omega | assumption)) rfl ?_ | refine run_op (loc_addW rfl rfl) rfl ?_
   first | refine run_op (loc_rem rfl rfl (by first | omega | assumption)) rfl ?_ | refine run_op (loc_remW rfl rfl (by first | omega | assumption)) rfl ?_
   refine run_op (loc_assign rfl) rfl ?_
   refine run_nil ?_
   refine run_inBlock ?_
   refine run_region ?_
   first | refine run_op (loc_add rfl rfl (by first | omega | assumption)) rfl ?_ | refine run_op (loc_addW rfl rfl) rfl ?_
   refine run_op (loc_move rfl) rfl ?_
   refine run_nil ?_
   exact run_againC ih2 (k + 1) (by omega) (by omega) (.cons rfl (d_int (by unfold rowD; rw [foldl_take _ _ _ _ (by omega)]; rfl)) (.cons rfl (by first | exact fun _ _ h => h | exact d_int (by omega) | exact d_int (by simp) | exact d_intN (by omega) | exact d_any) .nil)) (.cons rfl (fun _ _ x => x) (.cons rfl (fun _ _ x => x) (.nil)))
  ·
   refine run_exit rfl ?_
   refine run_seq ?_
   refine run_region ?_
   refine run_op (loc_move rfl) rfl ?_
   refine run_op (loc_assign rfl) rfl ?_
   refine run_nil ?_
   refine run_retP Tryz.func122 rfl rfl ?_
   exact d_int (by rw [List.take_of_length_le (by omega)])
theorem rnode_spec (a b : Int) : SpecP Tryz.prog 180 [dInt .i64 a, dInt .i64 b] (dInt .i64 (nodeD a b)) := by
 have h1 := modD_bd a
 have h2 := modD_bd b
 refine specP_of_body Tryz.func180 rfl rfl (fun I M => ?_)
 refine run_seq ?_
 refine run_region ?_
 refine run_op (loc_assign rfl) rfl ?_
 refine run_nil ?_
 refine run_seq ?_
 refine run_region ?_
 refine run_op (loc_move rfl) rfl ?_
 refine run_op (loc_call (rmod_spec _) rfl) rfl ?_
 first | refine run_op (loc_mul rfl rfl (by first | omega | assumption)) rfl ?_ | refine run_op (loc_mulW rfl rfl) rfl ?_
 refine run_op (loc_move rfl) rfl ?_
 refine run_op (loc_call (rmod_spec _) rfl) rfl ?_
 first | refine run_op (loc_add rfl rfl (by first | omega | assumption)) rfl ?_ | refine run_op (loc_addW rfl rfl) rfl ?_
 first | refine run_op (loc_add rfl rfl (by first | omega | assumption)) rfl ?_ | refine run_op (loc_addW rfl rfl) rfl ?_
 first | refine run_op (loc_rem rfl rfl (by first | omega | assumption)) rfl ?_ | refine run_op (loc_remW rfl rfl (by first | omega | assumption)) rfl ?_
 refine run_op (loc_assign rfl) rfl ?_
 refine run_nil ?_
 refine run_retP Tryz.func180 rfl rfl ?_
 exact fun _ _ h => h
theorem list_spec (xs : List Int) : SpecP Tryz.prog 151 [dInts xs] (dInt .i64 (listErr xs)) := by
  refine specP_of_body Tryz.func151 rfl rfl (fun I M => ?_)
  refine run_seq ?_
  refine run_region ?_
  refine run_op (loc_assign rfl) rfl ?_
  refine run_nil ?_
  refine run_seq ?_
  refine run_seq ?_
  refine run_region ?_
  refine run_op (loc_move rfl) rfl ?_
  first | refine runL_fact (s := 5) rfl (fun _ _ h => dSl_len h) (fun hlen1 => ?_) | skip
  refine run_op (loc_len rfl) rfl ?_
  refine run_op (loc_gtr rfl rfl) rfl ?_
  refine run_nil ?_
  refine run_cond rfl (fun h2 => ?_) (fun h2 => ?_)
  ·
   refine run_seq ?_
   refine run_region ?_
   refine run_op (loc_assign rfl) rfl ?_
   refine run_nil ?_
   refine run_retP Tryz.func151 rfl rfl ?_
   exact d_int (by unfold listErr; rw [if_pos (by omega)])
  ·
   refine run_skip ?_
   refine run_seq ?_
   refine run_seq ?_
   refine run_region ?_
   refine run_op (loc_move rfl) rfl ?_
   first | refine runL_fact (s := 8) rfl (fun _ _ h => dSl_len h) (fun hlen3 => ?_) | skip
   refine run_op (loc_len rfl) rfl ?_
   refine run_op (loc_move rfl) rfl ?_
   refine run_nil ?_
   refine run_block ?_
   refine run_loopC (σ := Nat) (ks := [8, 9]) (.cons rfl (.cons rfl (.nil))) (fun k => [(10, dInt .i64 (k : Nat))]) (fun k => k ≤ xs.length ∧ (∀ j, j < k → goodD (xs[j]?.getD default))) (fun k => xs.length - k) (0) (⟨by omega, fun j hj => by omega⟩) (.cons rfl (by first | exact fun _ _ h => h | exact d_int (by omega) | exact d_int (by simp) | exact d_intN (by omega) | exact d_any) .nil) ?_
   rintro k ⟨hk, hbk⟩ ih4
   refine run_seq ?_
   refine run_region ?_
   refine run_op (loc_lss rfl rfl) rfl ?_
   refine run_nil ?_
   refine run_seq ?_
   refine run_cond rfl (fun h5 => ?_) (fun h5 => ?_)
   ·
    refine run_skip ?_
    refine run_seq ?_
    refine run_block ?_
    refine run_seq ?_
    refine run_region ?_
    first | refine run_op (loc_index rfl rfl (by first | omega | assumption)) rfl ?_ | refine run_op (loc_indexI rfl rfl (by first | omega | assumption)) rfl ?_
    refine run_op (loc_load1 rfl) rfl ?_
    refine run_op (loc_assign rfl) rfl ?_
    refine run_nil ?_
    refine run_seq ?_
    refine run_region ?_
    refine run_op (loc_move rfl) rfl ?_
    refine run_op (loc_lss rfl rfl) rfl ?_
    refine run_op (loc_move rfl) rfl ?_
    refine run_gfirst rfl rfl gdI.ok (fun hg => loc_move rfl) rfl ?_
    refine run_gop rfl rfl gdI.ok (fun hg => loc_geq rfl rfl) rfl ?_
    refine run_gleave ?_
    refine run_op (loc_or rfl rfl) rfl ?_
    refine run_nil ?_
    refine run_cond rfl (fun h6 => ?_) (fun h6 => ?_)
    ·
     have hg : ¬ goodD (xs[k]?.getD default) := by unfold goodD; omega
     refine run_seq ?_
     refine run_region ?_
     refine run_op (loc_assign rfl) rfl ?_
     refine run_nil ?_
     refine run_retP Tryz.func151 rfl rfl ?_
     exact d_int (by unfold listErr; rw [if_neg (by omega), firstErr_at (i := k) (by omega) (fun j hj => if_pos (hbk j hj)) (by rw [if_neg hg]; omega), if_neg hg])
    ·
     have hg : goodD (xs[k]?.getD default) := by unfold goodD; omega
     refine run_skip ?_
     refine run_inBlock ?_
     refine run_region ?_
     first | refine run_op (loc_add rfl rfl (by first | omega | assumption)) rfl ?_ | refine run_op (loc_addW rfl rfl) rfl ?_
     refine run_op (loc_move rfl) rfl ?_
     refine run_nil ?_
     exact run_againC ih4 (k + 1) (⟨by omega, fun j hj => by by_cases e : j = k; (· subst e; exact hg); (· exact hbk j (by omega))⟩) (by omega) (.cons rfl (by first | exact fun _ _ h => h | exact d_int (by omega) | exact d_int (by simp) | exact d_intN (by omega) | exact d_any) .nil) (.cons rfl (fun _ _ x => x) (.cons rfl (fun _ _ x => x) (.nil)))
   ·
    refine run_exit rfl ?_
    refine run_seq ?_
    refine run_region ?_
    refine run_op (loc_assign rfl) rfl ?_
    refine run_nil ?_
    refine run_retP Tryz.func151 rfl rfl ?_
    exact d_int (by unfold listErr; rw [if_neg (by omega), firstErr_none' (fun j hj => if_pos (hbk j (by omega)))])
theorem up_spec (xs : List Int) : SpecP Tryz.prog 152 [dInts xs] (dInts (upD xs)) := by
  refine specP_of_body Tryz.func152 rfl rfl (fun I M => ?_)
  refine run_seq ?_
  refine run_region ?_
  refine run_op (loc_assign rfl) rfl ?_
  refine run_nil ?_
  refine run_seq ?_
  refine run_region ?_
  refine run_op (loc_assign rfl) rfl ?_
  refine run_nil ?_
  refine run_seq ?_
  refine run_seq ?_
  refine run_region ?_
  refine run_op (loc_assign rfl) rfl ?_
  refine run_nil ?_
  refine run_block ?_
  refine run_rowNil 3 1 fI ?_
  refine run_loopF (σ := Value × Nat) (ks := [0]) (.cons rfl (.nil)) (fun s => [(3, dVal s.1), (4, dInt .i64 (2 * s.2 : Nat))]) (fun s => [rRow s.1 3 1 fI (upD (xs.take (2 * s.2)))]) (fun s => 2 * s.2 ≤ xs.length + 1) (fun s => xs.length - 2 * s.2) ((.slice none 0 0, 0)) (Nat.zero_le _) (.cons rfl (by first | exact fun _ _ h => h | exact d_int (by omega) | exact d_int (by simp) | exact d_intN (by omega) | exact d_any) (.cons rfl (by first | exact fun _ _ h => h | exact d_int (by omega) | exact d_int (by simp) | exact d_intN (by omega) | exact d_any) .nil)) (rfl) ?_
  intro s hk ih1
  have hul := upD_length (xs.take (2 * s.2))
  rw [List.length_take] at hul
  refine run_seq ?_
  refine run_seq ?_
  refine run_region ?_
  refine run_op (loc_move rfl) rfl ?_
  refine run_op (loc_move rfl) rfl ?_
  first | refine runL_fact (s := 6) rfl (fun _ _ h => dSl_len h) (fun hlen2 => ?_) | skip
  refine run_op (loc_len rfl) rfl ?_
  refine run_op (loc_lss rfl rfl) rfl ?_
  refine run_nil ?_
  refine run_cond rfl (fun h3 => ?_) (fun h3 => ?_)
  ·
   refine run_skip ?_
   refine run_seq ?_
   refine run_block ?_
   refine run_seq ?_
   refine run_region ?_
   refine run_op (loc_move rfl) rfl ?_
   first | refine run_op (loc_add rfl rfl (by first | omega | assumption)) rfl ?_ | refine run_op (loc_addW rfl rfl) rfl ?_
   refine run_op (loc_move rfl) rfl ?_
   first | refine runL_fact (s := 13) rfl (fun _ _ h => dSl_len h) (fun hlen4 => ?_) | skip
   refine run_op (loc_len rfl) rfl ?_
   refine run_op (loc_lss rfl rfl) rfl ?_
   refine run_nil ?_
   refine run_cond rfl (fun h5 => ?_) (fun h5 => ?_)
   ·
    refine dr_start _ (.one (σ := Value) 12 (fun _ => True)) [⟨[(3, none)], [], none⟩,
        ⟨[(0, none)], [], none⟩,
        ⟨[(4, none)], [], none⟩,
        ⟨[(17, some (1, false)), (18, some (2, false))], [1, 2], none⟩,
        ⟨[(19, some (3, false))], [1, 2, 3], none⟩,
        ⟨[(0, none)], [], none⟩,
        ⟨[(4, none)], [], none⟩,
        ⟨[(22, some (6, false))], [6], none⟩,
        ⟨[(21, some (5, false)), (23, some (7, false))], [5, 6, 7], none⟩,
        ⟨[(24, some (8, false))], [5, 6, 7, 8], none⟩,
        ⟨[(20, some (4, false)), (25, some (9, false))], [1, 2, 3, 4, 5, 6, 7, 8, 9], none⟩,
        ⟨[(26, some (10, false))], [1, 2, 3, 4, 5, 6, 7, 8, 9, 10], none⟩,
        ⟨[(16, some (0, false)), (27, some (11, false))], [0, 1, 2, 3, 4, 5, 6, 7, 8, 9, 10, 11], some (0, 0, true)⟩,
        ⟨[(28, some (12, false))], [0, 1, 2, 3, 4, 5, 6, 7, 8, 9, 10, 11, 12], none⟩] [_] _ rfl rfl ?_
    refine dq_pure rfl (fun s => .g rfl (.nil)) (fun s hs _ => loc_move rfl) (by exact .cons (.inr fun _ _ _ => rfl) (.nil)) ?_
    refine dq_pure rfl (fun s => .g rfl (.nil)) (fun s hs _ => loc_move rfl) (by exact .cons (.inr fun _ _ _ => rfl) (.nil)) ?_
    refine dq_pure rfl (fun s => .g rfl (.nil)) (fun s hs _ => loc_move rfl) (by exact .cons (.inr fun _ _ _ => rfl) (.nil)) ?_
    first | refine dq_pure rfl (fun s => .op rfl (.op rfl (.nil))) (fun s hs _ => loc_index rfl rfl (by first | omega | assumption)) (by exact .cons (.inr fun _ _ _ => rfl) (.nil)) ?_ | refine dq_pure rfl (fun s => .op rfl (.op rfl (.nil))) (fun s hs _ => loc_indexI rfl rfl (by first | omega | assumption)) (by exact .cons (.inr fun _ _ _ => rfl) (.nil)) ?_
    refine dq_pure rfl (fun s => .op rfl (.nil)) (fun s hs _ => loc_load1 rfl) (by exact .cons (.inr fun _ _ _ => rfl) (.nil)) ?_
    refine dq_pure rfl (fun s => .g rfl (.nil)) (fun s hs _ => loc_move rfl) (by exact .cons (.inr fun _ _ _ => rfl) (.nil)) ?_
    refine dq_pure rfl (fun s => .g rfl (.nil)) (fun s hs _ => loc_move rfl) (by exact .cons (.inr fun _ _ _ => rfl) (.nil)) ?_
    first | refine dq_pure rfl (fun s => .op rfl (.nil)) (fun s hs _ => loc_add rfl rfl (by first | omega | assumption)) (by exact .cons (.inr fun _ _ _ => rfl) (.nil)) ?_ | refine dq_pure rfl (fun s => .op rfl (.nil)) (fun s hs _ => loc_addW rfl rfl) (by exact .cons (.inr fun _ _ _ => rfl) (.nil)) ?_
    first | refine dq_pure rfl (fun s => .op rfl (.op rfl (.nil))) (fun s hs _ => loc_index rfl rfl (by first | omega | assumption)) (by exact .cons (.inr fun _ _ _ => rfl) (.nil)) ?_ | refine dq_pure rfl (fun s => .op rfl (.op rfl (.nil))) (fun s hs _ => loc_indexI rfl rfl (by first | omega | assumption)) (by exact .cons (.inr fun _ _ _ => rfl) (.nil)) ?_
    refine dq_pure rfl (fun s => .op rfl (.nil)) (fun s hs _ => loc_load1 rfl) (by exact .cons (.inr fun _ _ _ => rfl) (.nil)) ?_
    refine dq_pure rfl (fun s => .op rfl (.op rfl (.nil))) (fun s hs _ => loc_call (rnode_spec _ _) rfl) (by exact .cons (.inr fun _ _ _ => rfl) (.nil)) ?_
    refine dq_pure rfl (fun s => .op rfl (.nil)) (fun s hs _ => loc_buildSlice rfl rfl (.one rfl (.nil)) rfl rfl) (by exact .cons (.inr fun _ _ _ => rfl) (.nil)) ?_
    refine dq_choose id (fun _ t => t) rfl (fun _ _ => ⟨rfl, id, trivial⟩) (fun s => .op rfl (.op rfl (.nil))) rfl rfl (fun s hs => loc_append1 _ rfl rfl rfl rfl (by first | omega | (simp [lenMax]; omega) | (simp [lenMax]; done) | assumption) (by first | omega | (simp [lenMax]; omega) | (simp [lenMax]; done) | assumption)) (by exact .cons (.inl rfl) (.nil)) (fun _ _ => rfl) ?_
    refine dq_pure rfl (fun s => .op rfl (.nil)) (fun s hs _ => loc_assign rfl) (by exact .cons (.inl rfl) (.nil)) ?_
    refine dq_end (rs := [_]) (.bool true) rfl (fun _ => rfl) (.cons rfl (.nil)) rfl (fun _ => rfl) (fun v6 _ => ?_)
    dsimp only [outG, outM, List.map, List.set, id]
    refine run_inBlock ?_
    refine run_region ?_
    refine run_op (loc_move rfl) rfl ?_
    first | refine run_op (loc_add rfl rfl (by first | omega | assumption)) rfl ?_ | refine run_op (loc_addW rfl rfl) rfl ?_
    refine run_op (loc_assign rfl) rfl ?_
    refine run_nil ?_
    exact run_againF ih1 ((v6, s.2 + 1)) (by simp only; omega) (by simp only; omega) (.cons rfl (by first | exact fun _ _ h => h | exact d_int (by omega) | exact d_int (by simp) | exact d_intN (by omega) | exact d_any) (.cons rfl (d_int (by show ((2 * s.2 : Nat) : Int) + 2 = ((2 * (s.2 + 1) : Nat) : Int); omega)) .nil)) (.cons rfl (fun _ _ x => x) (.nil)) (by simp only [appR]; rw [upD_take_two xs s.2 (by omega), show ((2 * s.2 : Nat) + 1 : Int).toNat = 2 * s.2 + 1 by omega])
   ·
    refine run_region ?_
    refine run_op (loc_move rfl) rfl ?_
    refine run_op (loc_move rfl) rfl ?_
    refine run_op (loc_move rfl) rfl ?_
    first | refine run_op (loc_index rfl rfl (by first | omega | assumption)) rfl ?_ | refine run_op (loc_indexI rfl rfl (by first | omega | assumption)) rfl ?_
    refine run_op (loc_load1 rfl) rfl ?_
    refine run_op (loc_buildSlice rfl rfl (.one rfl (.nil)) rfl rfl) rfl ?_
    refine run_append1 rfl (.here) rfl (by rfl) (by rfl) (by first | omega | (simp [lenMax]; omega) | (simp [lenMax]; done) | assumption) (by first | omega | (simp [lenMax]; omega) | (simp [lenMax]; done) | assumption) rfl (fun v7 => ?_)
    refine run_op (loc_assign rfl) rfl ?_
    refine run_nil ?_
    refine run_inBlock ?_
    refine run_region ?_
    refine run_op (loc_move rfl) rfl ?_
    first | refine run_op (loc_add rfl rfl (by first | omega | assumption)) rfl ?_ | refine run_op (loc_addW rfl rfl) rfl ?_
    refine run_op (loc_assign rfl) rfl ?_
    refine run_nil ?_
    exact run_againF ih1 ((v7, s.2 + 1)) (by simp only; omega) (by simp only; omega) (.cons rfl (by first | exact fun _ _ h => h | exact d_int (by omega) | exact d_int (by simp) | exact d_intN (by omega) | exact d_any) (.cons rfl (d_int (by show ((2 * s.2 : Nat) : Int) + 2 = ((2 * (s.2 + 1) : Nat) : Int); omega)) .nil)) (.cons rfl (fun _ _ x => x) (.nil)) (by simp only [appR]; rw [List.take_of_length_le (l := xs) (i := 2 * (s.2 + 1)) (by omega), upD_take_last xs s.2 (by omega)])
  ·
   refine run_exit rfl ?_
   refine run_seq ?_
   refine run_freezeRow (s := 3) rfl (.here) ?_
   refine run_region ?_
   refine run_op (loc_move rfl) rfl ?_
   refine run_op (loc_assign rfl) rfl ?_
   refine run_nil ?_
   refine run_retP Tryz.func152 rfl rfl ?_
   exact d_eq (by rw [List.take_of_length_le (by omega)])
theorem rroot_spec (xs : List Int) : SpecP Tryz.prog 115 [dInts xs] (dTup [dInt .i64 (rootR xs), dInt .i64 (listErr xs)]) := by
  refine specP_of_body Tryz.func115 rfl rfl (fun I M => ?_)
  refine run_seq ?_
  refine run_region ?_
  refine run_op (loc_assign rfl) rfl ?_
  refine run_op (loc_assign rfl) rfl ?_
  refine run_nil ?_
  refine run_seq ?_
  refine run_seq ?_
  refine run_region ?_
  refine run_op (loc_move rfl) rfl ?_
  refine run_op (loc_call (list_spec _) rfl) rfl ?_
  refine run_op (loc_assign rfl) rfl ?_
  refine run_nil ?_
  refine run_seq ?_
  refine run_region ?_
  refine run_op (loc_move rfl) rfl ?_
  refine run_op (loc_neq rfl rfl) rfl ?_
  refine run_nil ?_
  refine run_cond rfl (fun h1 => ?_) (fun h1 => ?_)
  ·
   refine run_seq ?_
   refine run_region ?_
   refine run_op (loc_move rfl) rfl ?_
   refine run_op (loc_assign rfl) rfl ?_
   refine run_op (loc_assign rfl) rfl ?_
   refine run_nil ?_
   refine run_ret2P Tryz.func115 rfl rfl rfl ?_
   exact d_tup2 (d_int (by unfold rootR; rw [if_neg (by assumption)])) (d_int rfl)
  ·
   refine run_skip ?_
   refine run_seq ?_
   refine run_seq ?_
   refine run_region ?_
   refine run_op (loc_move rfl) rfl ?_
   first | refine runL_fact (s := 10) rfl (fun _ _ h => dSl_len h) (fun hlen2 => ?_) | skip
   refine run_op (loc_len rfl) rfl ?_
   refine run_op (loc_eql rfl rfl) rfl ?_
   refine run_nil ?_
   refine run_cond rfl (fun h3 => ?_) (fun h3 => ?_)
   ·
    refine run_seq ?_
    refine run_region ?_
    refine run_op (loc_assign rfl) rfl ?_
    refine run_op (loc_assign rfl) rfl ?_
    refine run_nil ?_
    refine run_ret2P Tryz.func115 rfl rfl rfl ?_
    exact d_tup2 (d_int (by unfold rootR; rw [if_pos (by omega), show xs = [] from List.eq_nil_of_length_eq_zero (by omega)]; rfl)) (d_int (by omega))
   ·
    refine run_skip ?_
    refine run_seq ?_
    refine run_block ?_
    refine run_loopC (σ := List Int) (ks := []) (.nil) (fun ys => [(0, dInts ys)]) (fun ys => 0 < ys.length ∧ rootD ys = rootD xs) (fun ys => ys.length) (xs) (⟨by omega, rfl⟩) (.cons rfl (by first | exact fun _ _ h => h | exact d_int (by omega) | exact d_int (by simp) | exact d_intN (by omega) | exact d_any) .nil) ?_
    rintro ys ⟨hy, hr⟩ ih4
    refine run_seq ?_
    refine run_seq ?_
    refine run_region ?_
    refine run_op (loc_move rfl) rfl ?_
    first | refine runL_fact (s := 13) rfl (fun _ _ h => dSl_len h) (fun hlen5 => ?_) | skip
    refine run_op (loc_len rfl) rfl ?_
    refine run_op (loc_gtr rfl rfl) rfl ?_
    refine run_nil ?_
    refine run_cond rfl (fun h6 => ?_) (fun h6 => ?_)
    ·
     refine run_skip ?_
     refine run_block ?_
     refine run_region ?_
     refine run_op (loc_move rfl) rfl ?_
     refine run_op (loc_call (up_spec _) rfl) rfl ?_
     refine run_op (loc_assign rfl) rfl ?_
     refine run_nil ?_
     refine run_inBlock ?_
     exact run_againC ih4 (upD ys) (⟨by rw [upD_length]; omega, by rw [← rootD_up ys (by omega), hr]⟩) (by rw [upD_length]; omega) (.cons rfl (by first | exact fun _ _ h => h | exact d_int (by omega) | exact d_int (by simp) | exact d_intN (by omega) | exact d_any) .nil) (.nil)
    ·
     refine run_exit rfl ?_
     refine run_seq ?_
     refine run_region ?_
     refine run_op (loc_move rfl) rfl ?_
     first | refine run_op (loc_index rfl rfl (by first | omega | assumption)) rfl ?_ | refine run_op (loc_indexI rfl rfl (by first | omega | assumption)) rfl ?_
     refine run_op (loc_load1 rfl) rfl ?_
     refine run_op (loc_assign rfl) rfl ?_
     refine run_op (loc_assign rfl) rfl ?_
     refine run_nil ?_
     refine run_ret2P Tryz.func115 rfl rfl rfl ?_
     exact d_tup2 (d_int (by unfold rootR; rw [if_pos (by omega), ← hr]; match ys, (show ys.length = 1 by omega) with | [y], _ => rfl)) (d_int (by omega))
theorem in3_spec (p : Int) (xs : List Int) : SpecP Tryz.prog 153 [dAgg [dInt .i64 p], dInts xs] (dB (okP p ∧ allP p xs)) := by
  refine specP_of_body Tryz.func153 rfl rfl (fun I M => ?_)
  refine run_seq ?_
  refine run_region ?_
  refine run_op (loc_boxN rfl) rfl ?_
  refine run_op (loc_assign rfl) rfl ?_
  refine run_nil ?_
  refine run_seq ?_
  refine run_seq ?_
  refine run_region ?_
  refine run_op (loc_loadN rfl rfl) rfl ?_
  refine run_op (loc_call (rcheck3_spec _) rfl) rfl ?_
  refine run_op (loc_neq rfl rfl) rfl ?_
  refine run_nil ?_
  refine run_cond rfl (fun h1 => ?_) (fun h1 => ?_)
  ·
   have c1 : ¬ okP p := fun h => h1 (errP_zero.2 h)
   refine run_seq ?_
   refine run_region ?_
   refine run_op (loc_assign rfl) rfl ?_
   refine run_nil ?_
   refine run_retP Tryz.func153 rfl rfl ?_
   exact d_B ⟨False.elim, fun h => c1 h.1⟩
  ·
   have c1 : okP p := errP_zero.1 (Classical.not_not.1 h1)
   refine run_skip ?_
   refine run_seq ?_
   refine run_seq ?_
   refine run_region ?_
   refine run_op (loc_move rfl) rfl ?_
   first | refine runL_fact (s := 10) rfl (fun _ _ h => dSl_len h) (fun hlen2 => ?_) | skip
   refine run_op (loc_len rfl) rfl ?_
   refine run_op (loc_move rfl) rfl ?_
   refine run_nil ?_
   refine run_block ?_
   refine run_loopC (σ := Nat) (ks := [2, 10, 11]) (.cons rfl (.cons rfl (.cons rfl (.nil)))) (fun k => [(12, dInt .i64 (k : Nat))]) (fun k => k ≤ xs.length ∧ (∀ j, j < k → hasP p (xs[j]?.getD default))) (fun k => xs.length - k) (0) (⟨by omega, fun j hj => by omega⟩) (.cons rfl (by first | exact fun _ _ h => h | exact d_int (by omega) | exact d_int (by simp) | exact d_intN (by omega) | exact d_any) .nil) ?_
   rintro k ⟨hk, hbk⟩ ih3
   refine run_seq ?_
   refine run_region ?_
   refine run_op (loc_lss rfl rfl) rfl ?_
   refine run_nil ?_
   refine run_seq ?_
   refine run_cond rfl (fun h4 => ?_) (fun h4 => ?_)
   ·
    refine run_skip ?_
    refine run_seq ?_
    refine run_block ?_
    refine run_seq ?_
    refine run_region ?_
    first | refine run_op (loc_index rfl rfl (by first | omega | assumption)) rfl ?_ | refine run_op (loc_indexI rfl rfl (by first | omega | assumption)) rfl ?_
    refine run_op (loc_load1 rfl) rfl ?_
    refine run_op (loc_assign rfl) rfl ?_
    refine run_nil ?_
    refine run_seq ?_
    refine run_region ?_
    refine run_op (loc_move rfl) rfl ?_
    refine run_op (loc_lss rfl rfl) rfl ?_
    refine run_op (loc_move rfl) rfl ?_
    refine run_gfirst rfl rfl gdI.ok (fun hg => loc_move rfl) rfl ?_
    refine run_gop rfl rfl gdI.ok (fun hg => loc_fieldAddr rfl) rfl ?_
    refine run_gop rfl rfl gdI.ok (fun hg => loc_load1 rfl) rfl ?_
    refine run_gop rfl rfl gdI.ok (fun hg => loc_geq rfl rfl) rfl ?_
    refine run_gleave ?_
    refine run_op (loc_or rfl rfl) rfl ?_
    refine run_nil ?_
    refine run_cond rfl (fun h5 => ?_) (fun h5 => ?_)
    ·
     have hg : ¬ hasP p (xs[k]?.getD default) := by unfold hasP; omega
     refine run_seq ?_
     refine run_region ?_
     refine run_op (loc_assign rfl) rfl ?_
     refine run_nil ?_
     refine run_retP Tryz.func153 rfl rfl ?_
     exact d_B ⟨False.elim, fun h => hg (h.2 _ (getD_mem (by omega)))⟩
    ·
     have hg : hasP p (xs[k]?.getD default) := by unfold hasP; omega
     refine run_skip ?_
     refine run_inBlock ?_
     refine run_region ?_
     first | refine run_op (loc_add rfl rfl (by first | omega | assumption)) rfl ?_ | refine run_op (loc_addW rfl rfl) rfl ?_
     refine run_op (loc_move rfl) rfl ?_
     refine run_nil ?_
     exact run_againC ih3 (k + 1) (⟨by omega, fun j hj => by by_cases e : j = k; (· subst e; exact hg); (· exact hbk j (by omega))⟩) (by omega) (.cons rfl (by first | exact fun _ _ h => h | exact d_int (by omega) | exact d_int (by simp) | exact d_intN (by omega) | exact d_any) .nil) (.cons rfl (fun _ _ x => x) (.cons rfl (fun _ _ x => x) (.cons rfl (fun _ _ x => x) (.nil))))
   ·
    refine run_exit rfl ?_
    refine run_seq ?_
    refine run_region ?_
    refine run_op (loc_assign rfl) rfl ?_
    refine run_nil ?_
    refine run_retP Tryz.func153 rfl rfl ?_
    exact d_B ⟨fun _ => ⟨c1, fun x hx => by obtain ⟨i, hi, rfl⟩ := List.mem_iff_getElem.1 hx; have := hbk i (by omega); simpa [hi] using this⟩, fun _ => trivial⟩
theorem rtcheck_spec (t : Tab) : SpecP Tryz.prog 117 [dTab t] (dInt .i64 (checkT t)) := by
  refine specP_of_body Tryz.func117 rfl rfl (fun I M => ?_)
  refine run_seq ?_
  refine run_region ?_
  refine run_op (loc_boxN rfl) rfl ?_
  refine run_op (loc_assign rfl) rfl ?_
  refine run_nil ?_
  refine run_seq ?_
  refine run_seq ?_
  refine run_region ?_
  refine run_op (loc_fieldAddr rfl) rfl ?_
  refine run_op (loc_load1 rfl) rfl ?_
  refine run_op (loc_lss rfl rfl) rfl ?_
  refine run_op (loc_move rfl) rfl ?_
  refine run_gfirst rfl rfl gdI.ok (fun hg => loc_fieldAddr rfl) rfl ?_
  refine run_gop rfl rfl gdI.ok (fun hg => loc_load1 rfl) rfl ?_
  refine run_gop rfl rfl gdI.ok (fun hg => loc_geq rfl rfl) rfl ?_
  refine run_gleave ?_
  refine run_op (loc_or rfl rfl) rfl ?_
  refine run_nil ?_
  refine run_cond rfl (fun h1 => ?_) (fun h1 => ?_)
  ·
   have c1 := h1
   refine run_seq ?_
   refine run_region ?_
   refine run_op (loc_assign rfl) rfl ?_
   refine run_nil ?_
   refine run_retP Tryz.func117 rfl rfl ?_
   exact d_int (by unfold checkT; rw [if_pos c1])
  ·
   have c1 := h1
   refine run_skip ?_
   refine run_seq ?_
   refine run_seq ?_
   refine run_region ?_
   refine run_op (loc_fieldAddr rfl) rfl ?_
   refine run_op (loc_loadN rfl rfl) rfl ?_
   refine run_op (loc_call (rcheck3_spec _) rfl) rfl ?_
   refine run_op (loc_assign rfl) rfl ?_
   refine run_nil ?_
   refine run_seq ?_
   refine run_region ?_
   refine run_op (loc_move rfl) rfl ?_
   refine run_op (loc_neq rfl rfl) rfl ?_
   refine run_nil ?_
   refine run_cond rfl (fun h2 => ?_) (fun h2 => ?_)
   ·
    have c2 : ¬ okP t.p := fun h => h2 (errP_zero.2 h)
    refine run_seq ?_
    refine run_region ?_
    refine run_op (loc_move rfl) rfl ?_
    refine run_op (loc_assign rfl) rfl ?_
    refine run_nil ?_
    refine run_retP Tryz.func117 rfl rfl ?_
    exact d_int (by unfold checkT; rw [if_neg c1, if_pos c2]; unfold errP; rw [if_neg c2])
   ·
    have c2 : okP t.p := errP_zero.1 (Classical.not_not.1 h2)
    refine run_skip ?_
    refine run_seq ?_
    refine run_seq ?_
    refine run_region ?_
    refine run_op (loc_fieldAddr rfl) rfl ?_
    refine run_op (loc_load1 rfl) rfl ?_
    refine run_op (loc_lss rfl rfl) rfl ?_
    refine run_op (loc_move rfl) rfl ?_
    refine run_gfirst rfl rfl gdI.ok (fun hg => loc_fieldAddr rfl) rfl ?_
    refine run_gop rfl rfl gdI.ok (fun hg => loc_load1 rfl) rfl ?_
    refine run_gop rfl rfl gdI.ok (fun hg => loc_gtr rfl rfl) rfl ?_
    refine run_gleave ?_
    refine run_op (loc_or rfl rfl) rfl ?_
    refine run_nil ?_
    refine run_cond rfl (fun h3 => ?_) (fun h3 => ?_)
    ·
     have c3 := h3
     refine run_seq ?_
     refine run_region ?_
     refine run_op (loc_assign rfl) rfl ?_
     refine run_nil ?_
     refine run_retP Tryz.func117 rfl rfl ?_
     exact d_int (by unfold checkT; rw [if_neg c1, if_neg (Classical.not_not.2 c2), if_pos c3])
    ·
     have c3 := h3
     refine run_skip ?_
     refine run_seq ?_
     refine run_seq ?_
     refine run_region ?_
     refine run_op (loc_fieldAddr rfl) rfl ?_
     refine run_op (loc_load1 rfl) rfl ?_
     first | refine runL_fact (s := 29) rfl (fun _ _ h => dSl_len h) (fun hlen4 => ?_) | skip
     refine run_op (loc_len rfl) rfl ?_
     refine run_op (loc_gtr rfl rfl) rfl ?_
     refine run_nil ?_
     refine run_cond rfl (fun h5 => ?_) (fun h5 => ?_)
     ·
      have c4 := h5
      refine run_seq ?_
      refine run_region ?_
      refine run_op (loc_assign rfl) rfl ?_
      refine run_nil ?_
      refine run_retP Tryz.func117 rfl rfl ?_
      exact d_int (by unfold checkT; rw [if_neg c1, if_neg (Classical.not_not.2 c2), if_neg c3, if_pos (by omega)])
     ·
      have c4 := h5
      refine run_skip ?_
      refine run_seq ?_
      refine run_seq ?_
      refine run_region ?_
      refine run_op (loc_fieldAddr rfl) rfl ?_
      refine run_op (loc_load1 rfl) rfl ?_
      first | refine runL_fact (s := 33) rfl (fun _ _ h => dSl_len h) (fun hlen6 => ?_) | skip
      refine run_op (loc_len rfl) rfl ?_
      refine run_op (loc_move rfl) rfl ?_
      refine run_nil ?_
      refine run_block ?_
      refine run_loopC (σ := Nat) (ks := [1, 33, 34]) (.cons rfl (.cons rfl (.cons rfl (.nil)))) (fun k => [(35, dInt .i64 (k : Nat))]) (fun k => k ≤ t.rows.length ∧ (∀ j, j < k → rowErr t.p t.width (t.rows[j]?.getD default) = 0)) (fun k => t.rows.length - k) (0) (⟨by omega, fun j hj => by omega⟩) (.cons rfl (by first | exact fun _ _ h => h | exact d_int (by omega) | exact d_int (by simp) | exact d_intN (by omega) | exact d_any) .nil) ?_
      rintro k ⟨hk, hbk⟩ ih7
      refine run_seq ?_
      refine run_region ?_
      refine run_op (loc_lss rfl rfl) rfl ?_
      refine run_nil ?_
      refine run_seq ?_
      refine run_cond rfl (fun h8 => ?_) (fun h8 => ?_)
      ·
       refine run_skip ?_
       refine run_seq ?_
       refine run_block ?_
       refine run_seq ?_
       refine run_region ?_
       first | refine run_op (loc_index rfl rfl (by first | omega | assumption)) rfl ?_ | refine run_op (loc_indexI rfl rfl (by first | omega | assumption)) rfl ?_
       refine run_op (loc_load1 rfl) rfl ?_
       refine run_op (loc_assign rfl) rfl ?_
       refine run_nil ?_
       refine run_seq ?_
       refine run_seq ?_
       refine run_region ?_
       refine run_op (loc_move rfl) rfl ?_
       first | refine runL_fact (s := 39) rfl (fun _ _ h => dSl_len h) (fun hlen9 => ?_) | skip
       refine run_op (loc_len rfl) rfl ?_
       refine run_op (loc_fieldAddr rfl) rfl ?_
       refine run_op (loc_load1 rfl) rfl ?_
       refine run_op (loc_neq rfl rfl) rfl ?_
       refine run_nil ?_
       refine run_cond rfl (fun h10 => ?_) (fun h10 => ?_)
       ·
        refine run_seq ?_
        refine run_region ?_
        refine run_op (loc_assign rfl) rfl ?_
        refine run_nil ?_
        refine run_retP Tryz.func117 rfl rfl ?_
        exact d_int (by unfold checkT; rw [if_neg c1, if_neg (Classical.not_not.2 c2), if_neg c3, if_neg (by omega), firstErr_at (i := k) (by omega) hbk (by rw [show rowErr t.p t.width (t.rows[k]?.getD default) = 2 by unfold rowErr; rw [if_pos (by omega)]]; omega), show rowErr t.p t.width (t.rows[k]?.getD default) = 2 by unfold rowErr; rw [if_pos (by omega)]])
       ·
        refine run_skip ?_
        refine run_seq ?_
        refine run_region ?_
        refine run_op (loc_fieldAddr rfl) rfl ?_
        refine run_op (loc_loadN rfl rfl) rfl ?_
        refine run_op (loc_move rfl) rfl ?_
        refine run_op (loc_call (in3_spec _ _) rfl) rfl ?_
        refine run_op (loc_not rfl) rfl ?_
        refine run_nil ?_
        refine run_cond rfl (fun h11 => ?_) (fun h11 => ?_)
        ·
         have r9 : ¬ allP t.p (t.rows[k]?.getD default) := fun h => h11 ⟨c2, h⟩
         refine run_seq ?_
         refine run_region ?_
         refine run_op (loc_assign rfl) rfl ?_
         refine run_nil ?_
         refine run_retP Tryz.func117 rfl rfl ?_
         exact d_int (by unfold checkT; rw [if_neg c1, if_neg (Classical.not_not.2 c2), if_neg c3, if_neg (by omega), firstErr_at (i := k) (by omega) hbk (by rw [show rowErr t.p t.width (t.rows[k]?.getD default) = 9 by unfold rowErr; rw [if_neg (by omega), if_pos r9]]; omega), show rowErr t.p t.width (t.rows[k]?.getD default) = 9 by unfold rowErr; rw [if_neg (by omega), if_pos r9]])
        ·
         have r9 : allP t.p (t.rows[k]?.getD default) := (Classical.not_not.1 h11).2
         refine run_skip ?_
         refine run_inBlock ?_
         refine run_region ?_
         first | refine run_op (loc_add rfl rfl (by first | omega | assumption)) rfl ?_ | refine run_op (loc_addW rfl rfl) rfl ?_
         refine run_op (loc_move rfl) rfl ?_
         refine run_nil ?_
         exact run_againC ih7 (k + 1) (⟨by omega, fun j hj => by by_cases e : j = k; (· subst e; unfold rowErr; rw [if_neg (by omega), if_neg (Classical.not_not.2 r9)]); (· exact hbk j (by omega))⟩) (by omega) (.cons rfl (by first | exact fun _ _ h => h | exact d_int (by omega) | exact d_int (by simp) | exact d_intN (by omega) | exact d_any) .nil) (.cons rfl (fun _ _ x => x) (.cons rfl (fun _ _ x => x) (.cons rfl (fun _ _ x => x) (.nil))))
      ·
       refine run_exit rfl ?_
       refine run_seq ?_
       refine run_region ?_
       refine run_op (loc_assign rfl) rfl ?_
       refine run_nil ?_
       refine run_retP Tryz.func117 rfl rfl ?_
       exact d_int (by unfold checkT; rw [if_neg c1, if_neg (Classical.not_not.2 c2), if_neg c3, if_neg (by omega), firstErr_none' (fun j hj => hbk j (by omega))])
theorem rdigests_spec (t : Tab) : SpecP Tryz.prog 114 [dTab t] (dTup [dInts (digs t), dInt .i64 (checkT t)]) := by
  refine specP_of_body Tryz.func114 rfl rfl (fun I M => ?_)
  refine run_seq ?_
  refine run_region ?_
  refine run_op (loc_boxN rfl) rfl ?_
  refine run_op (loc_assign rfl) rfl ?_
  refine run_op (loc_assign rfl) rfl ?_
  refine run_nil ?_
  refine run_seq ?_
  refine run_seq ?_
  refine run_region ?_
  refine run_op (loc_loadN rfl rfl) rfl ?_
  refine run_op (loc_call (rtcheck_spec _) rfl) rfl ?_
  refine run_op (loc_assign rfl) rfl ?_
  refine run_nil ?_
  refine run_seq ?_
  refine run_region ?_
  refine run_op (loc_move rfl) rfl ?_
  refine run_op (loc_neq rfl rfl) rfl ?_
  refine run_nil ?_
  refine run_cond rfl (fun h1 => ?_) (fun h1 => ?_)
  ·
   have c1 := h1
   refine run_seq ?_
   refine run_region ?_
   refine run_op (loc_move rfl) rfl ?_
   refine run_op (loc_assign rfl) rfl ?_
   refine run_op (loc_assign rfl) rfl ?_
   refine run_nil ?_
   refine run_ret2P Tryz.func114 rfl rfl rfl ?_
   exact d_tup2 (d_toInts (by unfold digs; rw [if_neg c1]) d_nil) (d_int rfl)
  ·
   have c1 := Classical.not_not.1 h1
   have ct := checkT_ok c1
   refine run_skip ?_
   refine run_seq ?_
   refine run_region ?_
   refine run_op (loc_assign rfl) rfl ?_
   refine run_nil ?_
   refine run_seq ?_
   refine run_seq ?_
   refine run_region ?_
   refine run_op (loc_fieldAddr rfl) rfl ?_
   refine run_op (loc_load1 rfl) rfl ?_
   first | refine runL_fact (s := 14) rfl (fun _ _ h => dSl_len h) (fun hlen2 => ?_) | skip
   refine run_op (loc_len rfl) rfl ?_
   refine run_op (loc_move rfl) rfl ?_
   refine run_nil ?_
   refine run_block ?_
   refine run_rowNil 3 1 fI ?_
   refine run_loopF (σ := Value × Nat) (ks := [14, 15]) (.cons rfl (.cons rfl (.nil))) (fun s => [(5, dVal s.1), (16, dInt .i64 (s.2 : Nat))]) (fun s => [rRow s.1 3 1 fI ((t.rows.take s.2).map rowD)]) (fun s => s.2 ≤ t.rows.length) (fun s => t.rows.length - s.2) ((.slice none 0 0, 0)) (Nat.zero_le _) (.cons rfl (by first | exact fun _ _ h => h | exact d_int (by omega) | exact d_int (by simp) | exact d_intN (by omega) | exact d_any) (.cons rfl (by first | exact fun _ _ h => h | exact d_int (by omega) | exact d_int (by simp) | exact d_intN (by omega) | exact d_any) .nil)) (rfl) ?_
   intro s hk ih3
   have hl : ((t.rows.take s.2).map rowD).length ≤ 1024 := by simp; omega
   refine run_seq ?_
   refine run_region ?_
   refine run_op (loc_lss rfl rfl) rfl ?_
   refine run_nil ?_
   refine run_seq ?_
   refine run_cond rfl (fun h4 => ?_) (fun h4 => ?_)
   ·
    refine run_skip ?_
    refine run_seq ?_
    refine run_block ?_
    refine run_seq ?_
    refine run_region ?_
    first | refine run_op (loc_index rfl rfl (by first | omega | assumption)) rfl ?_ | refine run_op (loc_indexI rfl rfl (by first | omega | assumption)) rfl ?_
    refine run_op (loc_load1 rfl) rfl ?_
    refine run_op (loc_assign rfl) rfl ?_
    refine run_nil ?_
    refine run_region ?_
    refine run_op (loc_move rfl) rfl ?_
    refine run_op (loc_move rfl) rfl ?_
    refine run_op (loc_call (rrow_spec _) rfl) rfl ?_
    refine run_op (loc_buildSlice rfl rfl (.one rfl (.nil)) rfl rfl) rfl ?_
    refine run_append1 rfl (.here) rfl (by rfl) (by rfl) (by first | omega | (simp [lenMax]; omega) | (simp [lenMax]; done) | assumption) (by first | omega | (simp [lenMax]; omega) | (simp [lenMax]; done) | assumption) rfl (fun v5 => ?_)
    refine run_op (loc_assign rfl) rfl ?_
    refine run_nil ?_
    refine run_inBlock ?_
    refine run_region ?_
    first | refine run_op (loc_add rfl rfl (by first | omega | assumption)) rfl ?_ | refine run_op (loc_addW rfl rfl) rfl ?_
    refine run_op (loc_move rfl) rfl ?_
    refine run_nil ?_
    exact run_againF ih3 ((v5, s.2 + 1)) (by simp only; omega) (by simp only; omega) (.cons rfl (by first | exact fun _ _ h => h | exact d_int (by omega) | exact d_int (by simp) | exact d_intN (by omega) | exact d_any) (.cons rfl (by first | exact fun _ _ h => h | exact d_int (by omega) | exact d_int (by simp) | exact d_intN (by omega) | exact d_any) .nil)) (.cons rfl (fun _ _ x => x) (.cons rfl (fun _ _ x => x) (.nil))) (by simp only [appR]; rw [List.take_add_one, show t.rows[s.2]? = some (t.rows[s.2]?.getD default) by rw [List.getElem?_eq_getElem (by omega)]; rfl]; simp)
   ·
    refine run_exit rfl ?_
    refine run_seq ?_
    refine run_freezeRow (s := 5) rfl (.here) ?_
    refine run_region ?_
    refine run_op (loc_move rfl) rfl ?_
    refine run_op (loc_assign rfl) rfl ?_
    refine run_op (loc_assign rfl) rfl ?_
    refine run_nil ?_
    refine run_ret2P Tryz.func114 rfl rfl rfl ?_
    exact d_tup2 (d_toInts (by unfold digs; rw [if_pos c1]) (d_toInts (by rw [List.take_of_length_le (by omega)]) (fun _ _ h => h))) (d_int c1.symm)
theorem rootR_digs {t : Tab} (h : checkT t = 0) : listErr (digs t) = 0 ∧ rootR (digs t) = rootD (t.rows.map rowD) := by
 have h1 : digs t = t.rows.map rowD := by unfold digs; rw [if_pos h]
 have h2 := listErr_digs t.rows (checkT_ok h).2.2.2.1
 rw [h1]
 exact ⟨h2, by unfold rootR; rw [if_pos h2]⟩
theorem rhead_spec (t : Tab) : SpecP Tryz.prog 62 [dTab t] (dTup [dHd (headT t), dInt .i64 (checkT t)]) := by
  refine specP_of_body Tryz.func62 rfl rfl (fun I M => ?_)
  refine run_seq ?_
  refine run_region ?_
  refine run_op (loc_boxN rfl) rfl ?_
  refine run_new (loc_allocOwn (by simp)) rfl (fun b1 _ => ?_)
  refine run_op (loc_assign rfl) rfl ?_
  refine run_nil ?_
  refine run_seq ?_
  refine run_region ?_
  refine run_op (loc_loadN rfl rfl) rfl ?_
  refine run_op (loc_call (rdigests_spec _) rfl) rfl ?_
  refine run_op (loc_move rfl) rfl ?_
  refine run_op (loc_extract rfl rfl) rfl ?_
  refine run_op (loc_extract rfl rfl) rfl ?_
  refine run_op (loc_assign rfl) rfl ?_
  refine run_op (loc_assign rfl) rfl ?_
  refine run_nil ?_
  refine run_seq ?_
  refine run_seq ?_
  refine run_region ?_
  refine run_op (loc_move rfl) rfl ?_
  refine run_op (loc_neq rfl rfl) rfl ?_
  refine run_nil ?_
  refine run_cond rfl (fun h2 => ?_) (fun h2 => ?_)
  ·
   have c1 := h2
   refine run_seq ?_
   refine run_region ?_
   refine run_op (loc_build (.nil)) rfl ?_
   refine run_op (loc_move rfl) rfl ?_
   refine run_storeN (ho := (by show OneAll [_, _, _, _, _]; infer_instance)) rfl rfl (.here) (by rfl) ?_
   refine run_op (loc_assign rfl) rfl ?_
   refine run_nil ?_
   refine run_retGP Tryz.func62 rfl (.cellN rfl (.here) (by rfl) (.tmp rfl (.nil))) ?_ (fun _ _ h => inv_tail (h))
   exact d_tup2 (d_eq (by unfold headT; rw [if_neg c1]; rfl)) (fun _ _ h => h)
  ·
   have c1 := h2
   refine run_skip ?_
   refine run_seq ?_
   refine run_region ?_
   refine run_op (loc_move rfl) rfl ?_
   refine run_op (loc_call (rroot_spec _) rfl) rfl ?_
   refine run_op (loc_move rfl) rfl ?_
   refine run_op (loc_extract rfl rfl) rfl ?_
   refine run_op (loc_extract rfl rfl) rfl ?_
   refine run_op (loc_assign rfl) rfl ?_
   refine run_op (loc_assign rfl) rfl ?_
   refine run_nil ?_
   refine run_seq ?_
   refine run_region ?_
   refine run_op (loc_fieldAddr rfl) rfl ?_
   refine run_op (loc_load1 rfl) rfl ?_
   refine run_op (loc_fieldAddr rfl) rfl ?_
   refine run_op (loc_fieldAddr rfl) rfl ?_
   refine run_op (loc_load1 rfl) rfl ?_
   refine run_op (loc_fieldAddr rfl) rfl ?_
   refine run_op (loc_load1 rfl) rfl ?_
   first | refine runL_fact (s := 28) rfl (fun _ _ h => dSl_len h) (fun hlen3 => ?_) | skip
   refine run_op (loc_len rfl) rfl ?_
   refine run_op (loc_fieldAddr rfl) rfl ?_
   refine run_op (loc_load1 rfl) rfl ?_
   refine run_op (loc_move rfl) rfl ?_
   refine run_op (loc_build (.one rfl rfl rfl (.one rfl rfl rfl (.one rfl rfl rfl (.one rfl rfl rfl (.one rfl rfl rfl (.nil))))))) rfl ?_
   refine run_storeN (ho := (by show OneAll [_, _, _, _, _]; infer_instance)) rfl rfl (.here) (by rfl) ?_
   refine run_op (loc_assign rfl) rfl ?_
   refine run_nil ?_
   refine run_retGP Tryz.func62 rfl (.cellN rfl (.here) (by rfl) (.tmp rfl (.nil))) ?_ (fun _ _ h => inv_tail (h))
   exact d_tup2 (d_eq (by unfold headT; rw [if_pos (Classical.not_not.1 c1), ← (rootR_digs (Classical.not_not.1 c1)).2]; rfl)) (d_int (Classical.not_not.1 c1).symm)
end Go.Q

namespace Go.Q
open Go.Proofs
open Classical
theorem mod_spec (x : Int) : SpecP Tryz.prog 141 [dInt .i64 x] (dInt .i64 (modD x)) := by
  have hb := tmod_bd x 2147483647 (by omega)
  refine specP_of_body Tryz.func141 rfl rfl (fun I M => ?_)
  refine run_seq ?_
  refine run_region ?_
  refine run_op (loc_assign rfl) rfl ?_
  refine run_nil ?_
  refine run_seq ?_
  refine run_region ?_
  refine run_op (loc_move rfl) rfl ?_
  first | refine run_op (loc_rem rfl rfl (by first | omega | assumption)) rfl ?_ | refine run_op (loc_remW rfl rfl (by first | omega | assumption)) rfl ?_
  refine run_op (loc_assign rfl) rfl ?_
  refine run_nil ?_
  refine run_seq ?_
  refine run_seq ?_
  refine run_region ?_
  refine run_op (loc_move rfl) rfl ?_
  refine run_op (loc_lss rfl rfl) rfl ?_
  refine run_nil ?_
  refine run_cond rfl (fun h1 => ?_) (fun h1 => ?_)
  ·
   refine run_region ?_
   refine run_op (loc_move rfl) rfl ?_
   first | refine run_op (loc_add rfl rfl (by first | omega | assumption)) rfl ?_ | refine run_op (loc_addW rfl rfl) rfl ?_
   refine run_op (loc_assign rfl) rfl ?_
   refine run_nil ?_
   refine run_seq ?_
   refine run_region ?_
   refine run_op (loc_move rfl) rfl ?_
   refine run_op (loc_assign rfl) rfl ?_
   refine run_nil ?_
   refine run_retP Tryz.func141 rfl rfl ?_
   exact d_int (by rw [← modD_t, if_pos (by assumption)])
  ·
   refine run_skip ?_
   refine run_seq ?_
   refine run_region ?_
   refine run_op (loc_move rfl) rfl ?_
   refine run_op (loc_assign rfl) rfl ?_
   refine run_nil ?_
   refine run_retP Tryz.func141 rfl rfl ?_
   exact d_int (by rw [← modD_t, if_neg (by assumption)])
theorem row_spec (xs : List Int) : SpecP Tryz.prog 103 [dInts xs] (dInt .i64 (rowD xs)) := by
  refine specP_of_body Tryz.func103 rfl rfl (fun I M => ?_)
  refine run_seq ?_
  refine run_region ?_
  refine run_op (loc_assign rfl) rfl ?_
  refine run_nil ?_
  refine run_seq ?_
  refine run_region ?_
  refine run_op (loc_assign rfl) rfl ?_
  refine run_nil ?_
  refine run_seq ?_
  refine run_seq ?_
  refine run_region ?_
  refine run_op (loc_move rfl) rfl ?_
  first | refine runL_fact (s := 6) rfl (fun _ _ h => dSl_len h) (fun hlen1 => ?_) | skip
  refine run_op (loc_len rfl) rfl ?_
  refine run_op (loc_move rfl) rfl ?_
  refine run_nil ?_
  refine run_block ?_
  refine run_loopC (σ := Nat) (ks := [6, 7]) (.cons rfl (.cons rfl (.nil))) (fun k => [(3, dInt .i64 (rowD (xs.take k))), (8, dInt .i64 (k : Nat))]) (fun k => k ≤ xs.length) (fun k => xs.length - k) (0) (Nat.zero_le _) (.cons rfl (by first | exact fun _ _ h => h | exact d_int (by omega) | exact d_int (by simp) | exact d_intN (by omega) | exact d_any) (.cons rfl (by first | exact fun _ _ h => h | exact d_int (by omega) | exact d_int (by simp) | exact d_intN (by omega) | exact d_any) .nil)) ?_
  intro k hk ih2
  have hb := rowD_bd (xs.take k)
  have hm := modD_bd (xs[k]?.getD default)
  refine run_seq ?_
  refine run_region ?_
  refine run_op (loc_lss rfl rfl) rfl ?_
  refine run_nil ?_
  refine run_seq ?_
  refine run_cond rfl (fun h3 => ?_) (fun h3 => ?_)
  ·
   refine run_skip ?_
   refine run_seq ?_
   refine run_block ?_
   refine run_seq ?_
   refine run_region ?_
   first | refine run_op (loc_index rfl rfl (by first | omega | assumption)) rfl ?_ | refine run_op (loc_indexI rfl rfl (by first | omega | assumption)) rfl ?_
   refine run_op (loc_load1 rfl) rfl ?_
   refine run_op (loc_assign rfl) rfl ?_
   refine run_nil ?_
   refine run_region ?_
   refine run_op (loc_move rfl) rfl ?_
   first | refine run_op (loc_mul rfl rfl (by first | omega | assumption)) rfl ?_ | refine run_op (loc_mulW rfl rfl) rfl ?_
   refine run_op (loc_move rfl) rfl ?_
   refine run_op (loc_call (mod_spec _) rfl) rfl ?_
   first | refine run_op (loc_add rfl rfl (by first | omega | assumption)) rfl ?_ | refine run_op (loc_addW rfl rfl) rfl ?_
   first | refine run_op (loc_add rfl rfl (by first | omega | assumption)) rfl ?_ | refine run_op (loc_addW rfl rfl) rfl ?_
   first | refine run_op (loc_rem rfl rfl (by first | omega | assumption)) rfl ?_ | refine run_op (loc_remW rfl rfl (by first | omega | assumption)) rfl ?_
   refine run_op (loc_assign rfl) rfl ?_
   refine run_nil ?_
   refine run_inBlock ?_
   refine run_region ?_
   first | refine run_op (loc_add rfl rfl (by first | omega | assumption)) rfl ?_ | refine run_op (loc_addW rfl rfl) rfl ?_
   refine run_op (loc_move rfl) rfl ?_
   refine run_nil ?_
   exact run_againC ih2 (k + 1) (by omega) (by omega) (.cons rfl (d_int (by unfold rowD; rw [foldl_take _ _ _ _ (by omega)]; rfl)) (.cons rfl (by first | exact fun _ _ h => h | exact d_int (by omega) | exact d_int (by simp) | exact d_intN (by omega) | exact d_any) .nil)) (.cons rfl (fun _ _ x => x) (.cons rfl (fun _ _ x => x) (.nil)))
  ·
   refine run_exit rfl ?_
   refine run_seq ?_
   refine run_region ?_
   refine run_op (loc_move rfl) rfl ?_
   refine run_op (loc_assign rfl) rfl ?_
   refine run_nil ?_
   refine run_retP Tryz.func103 rfl rfl ?_
   exact d_int (by rw [List.take_of_length_le (by omega)])
theorem node_spec (a b : Int) : SpecP Tryz.prog 175 [dInt .i64 a, dInt .i64 b] (dInt .i64 (nodeD a b)) := by
 have h1 := modD_bd a
 have h2 := modD_bd b
 refine specP_of_body Tryz.func175 rfl rfl (fun I M => ?_)
 refine run_seq ?_
 refine run_region ?_
 refine run_op (loc_assign rfl) rfl ?_
 refine run_nil ?_
 refine run_seq ?_
 refine run_region ?_
 refine run_op (loc_move rfl) rfl ?_
 refine run_op (loc_call (mod_spec _) rfl) rfl ?_
 first | refine run_op (loc_mul rfl rfl (by first | omega | assumption)) rfl ?_ | refine run_op (loc_mulW rfl rfl) rfl ?_
 refine run_op (loc_move rfl) rfl ?_
 refine run_op (loc_call (mod_spec _) rfl) rfl ?_
 first | refine run_op (loc_add rfl rfl (by first | omega | assumption)) rfl ?_ | refine run_op (loc_addW rfl rfl) rfl ?_
 first | refine run_op (loc_add rfl rfl (by first | omega | assumption)) rfl ?_ | refine run_op (loc_addW rfl rfl) rfl ?_
 first | refine run_op (loc_rem rfl rfl (by first | omega | assumption)) rfl ?_ | refine run_op (loc_remW rfl rfl (by first | omega | assumption)) rfl ?_
 refine run_op (loc_assign rfl) rfl ?_
 refine run_nil ?_
 refine run_retP Tryz.func175 rfl rfl ?_
 exact fun _ _ h => h
theorem proper_spec (x : Int) : SpecP Tryz.prog 174 [dInt .i64 x] (dB (goodD x)) := by
 refine specP_of_body Tryz.func174 rfl rfl (fun I M => ?_)
 refine run_seq ?_
 refine run_region ?_
 refine run_op (loc_assign rfl) rfl ?_
 refine run_nil ?_
 refine run_seq ?_
 refine run_region ?_
 refine run_op (loc_move rfl) rfl ?_
 refine run_op (loc_geq rfl rfl) rfl ?_
 refine run_op (loc_move rfl) rfl ?_
 refine run_gfirst rfl rfl gdI.ok (fun hg => loc_move rfl) rfl ?_
 refine run_gop rfl rfl gdI.ok (fun hg => loc_lss rfl rfl) rfl ?_
 refine run_gleave ?_
 refine run_op (loc_and rfl rfl) rfl ?_
 refine run_op (loc_assign rfl) rfl ?_
 refine run_nil ?_
 refine run_retP Tryz.func174 rfl rfl ?_
 exact fun _ _ h => h
theorem check_spec (xs : List Int) : SpecP Tryz.prog 142 [dInts xs] (dInt .i64 (listErr xs)) := by
  refine specP_of_body Tryz.func142 rfl rfl (fun I M => ?_)
  refine run_seq ?_
  refine run_region ?_
  refine run_op (loc_assign rfl) rfl ?_
  refine run_nil ?_
  refine run_seq ?_
  refine run_seq ?_
  refine run_region ?_
  refine run_op (loc_move rfl) rfl ?_
  first | refine runL_fact (s := 5) rfl (fun _ _ h => dSl_len h) (fun hlen1 => ?_) | skip
  refine run_op (loc_len rfl) rfl ?_
  refine run_op (loc_gtr rfl rfl) rfl ?_
  refine run_nil ?_
  refine run_cond rfl (fun h2 => ?_) (fun h2 => ?_)
  ·
   refine run_seq ?_
   refine run_region ?_
   refine run_op (loc_assign rfl) rfl ?_
   refine run_nil ?_
   refine run_retP Tryz.func142 rfl rfl ?_
   exact d_int (by unfold listErr; rw [if_pos (by omega)])
  ·
   refine run_skip ?_
   refine run_seq ?_
   refine run_seq ?_
   refine run_region ?_
   refine run_op (loc_move rfl) rfl ?_
   first | refine runL_fact (s := 8) rfl (fun _ _ h => dSl_len h) (fun hlen3 => ?_) | skip
   refine run_op (loc_len rfl) rfl ?_
   refine run_op (loc_move rfl) rfl ?_
   refine run_nil ?_
   refine run_block ?_
   refine run_loopC (σ := Nat) (ks := [8, 9]) (.cons rfl (.cons rfl (.nil))) (fun k => [(10, dInt .i64 (k : Nat))]) (fun k => k ≤ xs.length ∧ (∀ j, j < k → goodD (xs[j]?.getD default))) (fun k => xs.length - k) (0) (⟨by omega, fun j hj => by omega⟩) (.cons rfl (by first | exact fun _ _ h => h | exact d_int (by omega) | exact d_int (by simp) | exact d_intN (by omega) | exact d_any) .nil) ?_
   rintro k ⟨hk, hbk⟩ ih4
   refine run_seq ?_
   refine run_region ?_
   refine run_op (loc_lss rfl rfl) rfl ?_
   refine run_nil ?_
   refine run_seq ?_
   refine run_cond rfl (fun h5 => ?_) (fun h5 => ?_)
   ·
    refine run_skip ?_
    refine run_seq ?_
    refine run_block ?_
    refine run_seq ?_
    refine run_region ?_
    first | refine run_op (loc_index rfl rfl (by first | omega | assumption)) rfl ?_ | refine run_op (loc_indexI rfl rfl (by first | omega | assumption)) rfl ?_
    refine run_op (loc_load1 rfl) rfl ?_
    refine run_op (loc_assign rfl) rfl ?_
    refine run_nil ?_
    refine run_seq ?_
    refine run_region ?_
    refine run_op (loc_move rfl) rfl ?_
    refine run_op (loc_call (proper_spec _) rfl) rfl ?_
    refine run_op (loc_not rfl) rfl ?_
    refine run_nil ?_
    refine run_cond rfl (fun h6 => ?_) (fun h6 => ?_)
    ·
     have hg : ¬ goodD (xs[k]?.getD default) := h6
     refine run_seq ?_
     refine run_region ?_
     refine run_op (loc_assign rfl) rfl ?_
     refine run_nil ?_
     refine run_retP Tryz.func142 rfl rfl ?_
     exact d_int (by unfold listErr; rw [if_neg (by omega), firstErr_at (i := k) (by omega) (fun j hj => if_pos (hbk j hj)) (by rw [if_neg hg]; omega), if_neg hg])
    ·
     have hg : goodD (xs[k]?.getD default) := Classical.not_not.1 h6
     refine run_skip ?_
     refine run_inBlock ?_
     refine run_region ?_
     first | refine run_op (loc_add rfl rfl (by first | omega | assumption)) rfl ?_ | refine run_op (loc_addW rfl rfl) rfl ?_
     refine run_op (loc_move rfl) rfl ?_
     refine run_nil ?_
     exact run_againC ih4 (k + 1) (⟨by omega, fun j hj => by by_cases e : j = k; (· subst e; exact hg); (· exact hbk j (by omega))⟩) (by omega) (.cons rfl (by first | exact fun _ _ h => h | exact d_int (by omega) | exact d_int (by simp) | exact d_intN (by omega) | exact d_any) .nil) (.cons rfl (fun _ _ x => x) (.cons rfl (fun _ _ x => x) (.nil)))
   ·
    refine run_exit rfl ?_
    refine run_seq ?_
    refine run_region ?_
    refine run_op (loc_assign rfl) rfl ?_
    refine run_nil ?_
    refine run_retP Tryz.func142 rfl rfl ?_
    exact d_int (by unfold listErr; rw [if_neg (by omega), firstErr_none' (fun j hj => if_pos (hbk j (by omega)))])
theorem above_spec (xs : List Int) : SpecP Tryz.prog 144 [dInts xs] (dInts (upD xs)) := by
  refine specP_of_body Tryz.func144 rfl rfl (fun I M => ?_)
  refine run_seq ?_
  refine run_region ?_
  refine run_op (loc_assign rfl) rfl ?_
  refine run_nil ?_
  refine run_seq ?_
  refine run_region ?_
  refine run_op (loc_assign rfl) rfl ?_
  refine run_nil ?_
  refine run_seq ?_
  refine run_seq ?_
  refine run_region ?_
  refine run_op (loc_assign rfl) rfl ?_
  refine run_nil ?_
  refine run_block ?_
  refine run_rowNil 3 1 fI ?_
  refine run_loopF (σ := Value × Nat) (ks := [0]) (.cons rfl (.nil)) (fun s => [(3, dVal s.1), (4, dInt .i64 (2 * s.2 : Nat))]) (fun s => [rRow s.1 3 1 fI (upD (xs.take (2 * s.2)))]) (fun s => 2 * s.2 ≤ xs.length + 1) (fun s => xs.length - 2 * s.2) ((.slice none 0 0, 0)) (Nat.zero_le _) (.cons rfl (by first | exact fun _ _ h => h | exact d_int (by omega) | exact d_int (by simp) | exact d_intN (by omega) | exact d_any) (.cons rfl (by first | exact fun _ _ h => h | exact d_int (by omega) | exact d_int (by simp) | exact d_intN (by omega) | exact d_any) .nil)) (rfl) ?_
  intro s hk ih1
  have hul := upD_length (xs.take (2 * s.2))
  rw [List.length_take] at hul
  refine run_seq ?_
  refine run_seq ?_
  refine run_region ?_
  refine run_op (loc_move rfl) rfl ?_
  refine run_op (loc_move rfl) rfl ?_
  first | refine runL_fact (s := 6) rfl (fun _ _ h => dSl_len h) (fun hlen2 => ?_) | skip
  refine run_op (loc_len rfl) rfl ?_
  refine run_op (loc_lss rfl rfl) rfl ?_
  refine run_nil ?_
  refine run_cond rfl (fun h3 => ?_) (fun h3 => ?_)
  ·
   refine run_skip ?_
   refine run_seq ?_
   refine run_block ?_
   refine run_seq ?_
   refine run_region ?_
   refine run_op (loc_move rfl) rfl ?_
   first | refine run_op (loc_add rfl rfl (by first | omega | assumption)) rfl ?_ | refine run_op (loc_addW rfl rfl) rfl ?_
   refine run_op (loc_move rfl) rfl ?_
   first | refine runL_fact (s := 13) rfl (fun _ _ h => dSl_len h) (fun hlen4 => ?_) | skip
   refine run_op (loc_len rfl) rfl ?_
   refine run_op (loc_eql rfl rfl) rfl ?_
   refine run_nil ?_
   refine run_cond rfl (fun h5 => ?_) (fun h5 => ?_)
   ·
    refine run_region ?_
    refine run_op (loc_move rfl) rfl ?_
    refine run_op (loc_move rfl) rfl ?_
    refine run_op (loc_move rfl) rfl ?_
    first | refine run_op (loc_index rfl rfl (by first | omega | assumption)) rfl ?_ | refine run_op (loc_indexI rfl rfl (by first | omega | assumption)) rfl ?_
    refine run_op (loc_load1 rfl) rfl ?_
    refine run_op (loc_buildSlice rfl rfl (.one rfl (.nil)) rfl rfl) rfl ?_
    refine run_append1 rfl (.here) rfl (by rfl) (by rfl) (by first | omega | (simp [lenMax]; omega) | (simp [lenMax]; done) | assumption) (by first | omega | (simp [lenMax]; omega) | (simp [lenMax]; done) | assumption) rfl (fun v6 => ?_)
    refine run_op (loc_assign rfl) rfl ?_
    refine run_nil ?_
    refine run_inBlock ?_
    refine run_region ?_
    refine run_op (loc_move rfl) rfl ?_
    first | refine run_op (loc_add rfl rfl (by first | omega | assumption)) rfl ?_ | refine run_op (loc_addW rfl rfl) rfl ?_
    refine run_op (loc_assign rfl) rfl ?_
    refine run_nil ?_
    exact run_againF ih1 ((v6, s.2 + 1)) (by simp only; omega) (by simp only; omega) (.cons rfl (by first | exact fun _ _ h => h | exact d_int (by omega) | exact d_int (by simp) | exact d_intN (by omega) | exact d_any) (.cons rfl (d_int (by show ((2 * s.2 : Nat) : Int) + 2 = ((2 * (s.2 + 1) : Nat) : Int); omega)) .nil)) (.cons rfl (fun _ _ x => x) (.nil)) (by simp only [appR]; rw [List.take_of_length_le (l := xs) (i := 2 * (s.2 + 1)) (by omega), upD_take_last xs s.2 (by omega)])
   ·
    refine dr_start _ (.one (σ := Value) 12 (fun _ => True)) [⟨[(3, none)], [], none⟩,
        ⟨[(0, none)], [], none⟩,
        ⟨[(4, none)], [], none⟩,
        ⟨[(24, some (1, false)), (25, some (2, false))], [1, 2], none⟩,
        ⟨[(26, some (3, false))], [1, 2, 3], none⟩,
        ⟨[(0, none)], [], none⟩,
        ⟨[(4, none)], [], none⟩,
        ⟨[(29, some (6, false))], [6], none⟩,
        ⟨[(28, some (5, false)), (30, some (7, false))], [5, 6, 7], none⟩,
        ⟨[(31, some (8, false))], [5, 6, 7, 8], none⟩,
        ⟨[(27, some (4, false)), (32, some (9, false))], [1, 2, 3, 4, 5, 6, 7, 8, 9], none⟩,
        ⟨[(33, some (10, false))], [1, 2, 3, 4, 5, 6, 7, 8, 9, 10], none⟩,
        ⟨[(23, some (0, false)), (34, some (11, false))], [0, 1, 2, 3, 4, 5, 6, 7, 8, 9, 10, 11], some (0, 0, true)⟩,
        ⟨[(35, some (12, false))], [0, 1, 2, 3, 4, 5, 6, 7, 8, 9, 10, 11, 12], none⟩] [_] _ rfl rfl ?_
    refine dq_pure rfl (fun s => .g rfl (.nil)) (fun s hs _ => loc_move rfl) (by exact .cons (.inr fun _ _ _ => rfl) (.nil)) ?_
    refine dq_pure rfl (fun s => .g rfl (.nil)) (fun s hs _ => loc_move rfl) (by exact .cons (.inr fun _ _ _ => rfl) (.nil)) ?_
    refine dq_pure rfl (fun s => .g rfl (.nil)) (fun s hs _ => loc_move rfl) (by exact .cons (.inr fun _ _ _ => rfl) (.nil)) ?_
    first | refine dq_pure rfl (fun s => .op rfl (.op rfl (.nil))) (fun s hs _ => loc_index rfl rfl (by first | omega | assumption)) (by exact .cons (.inr fun _ _ _ => rfl) (.nil)) ?_ | refine dq_pure rfl (fun s => .op rfl (.op rfl (.nil))) (fun s hs _ => loc_indexI rfl rfl (by first | omega | assumption)) (by exact .cons (.inr fun _ _ _ => rfl) (.nil)) ?_
    refine dq_pure rfl (fun s => .op rfl (.nil)) (fun s hs _ => loc_load1 rfl) (by exact .cons (.inr fun _ _ _ => rfl) (.nil)) ?_
    refine dq_pure rfl (fun s => .g rfl (.nil)) (fun s hs _ => loc_move rfl) (by exact .cons (.inr fun _ _ _ => rfl) (.nil)) ?_
    refine dq_pure rfl (fun s => .g rfl (.nil)) (fun s hs _ => loc_move rfl) (by exact .cons (.inr fun _ _ _ => rfl) (.nil)) ?_
    first | refine dq_pure rfl (fun s => .op rfl (.nil)) (fun s hs _ => loc_add rfl rfl (by first | omega | assumption)) (by exact .cons (.inr fun _ _ _ => rfl) (.nil)) ?_ | refine dq_pure rfl (fun s => .op rfl (.nil)) (fun s hs _ => loc_addW rfl rfl) (by exact .cons (.inr fun _ _ _ => rfl) (.nil)) ?_
    first | refine dq_pure rfl (fun s => .op rfl (.op rfl (.nil))) (fun s hs _ => loc_index rfl rfl (by first | omega | assumption)) (by exact .cons (.inr fun _ _ _ => rfl) (.nil)) ?_ | refine dq_pure rfl (fun s => .op rfl (.op rfl (.nil))) (fun s hs _ => loc_indexI rfl rfl (by first | omega | assumption)) (by exact .cons (.inr fun _ _ _ => rfl) (.nil)) ?_
    refine dq_pure rfl (fun s => .op rfl (.nil)) (fun s hs _ => loc_load1 rfl) (by exact .cons (.inr fun _ _ _ => rfl) (.nil)) ?_
    refine dq_pure rfl (fun s => .op rfl (.op rfl (.nil))) (fun s hs _ => loc_call (node_spec _ _) rfl) (by exact .cons (.inr fun _ _ _ => rfl) (.nil)) ?_
    refine dq_pure rfl (fun s => .op rfl (.nil)) (fun s hs _ => loc_buildSlice rfl rfl (.one rfl (.nil)) rfl rfl) (by exact .cons (.inr fun _ _ _ => rfl) (.nil)) ?_
    refine dq_choose id (fun _ t => t) rfl (fun _ _ => ⟨rfl, id, trivial⟩) (fun s => .op rfl (.op rfl (.nil))) rfl rfl (fun s hs => loc_append1 _ rfl rfl rfl rfl (by first | omega | (simp [lenMax]; omega) | (simp [lenMax]; done) | assumption) (by first | omega | (simp [lenMax]; omega) | (simp [lenMax]; done) | assumption)) (by exact .cons (.inl rfl) (.nil)) (fun _ _ => rfl) ?_
    refine dq_pure rfl (fun s => .op rfl (.nil)) (fun s hs _ => loc_assign rfl) (by exact .cons (.inl rfl) (.nil)) ?_
    refine dq_end (rs := [_]) (.bool true) rfl (fun _ => rfl) (.cons rfl (.nil)) rfl (fun _ => rfl) (fun v7 _ => ?_)
    dsimp only [outG, outM, List.map, List.set, id]
    refine run_inBlock ?_
    refine run_region ?_
    refine run_op (loc_move rfl) rfl ?_
    first | refine run_op (loc_add rfl rfl (by first | omega | assumption)) rfl ?_ | refine run_op (loc_addW rfl rfl) rfl ?_
    refine run_op (loc_assign rfl) rfl ?_
    refine run_nil ?_
    exact run_againF ih1 ((v7, s.2 + 1)) (by simp only; omega) (by simp only; omega) (.cons rfl (by first | exact fun _ _ h => h | exact d_int (by omega) | exact d_int (by simp) | exact d_intN (by omega) | exact d_any) (.cons rfl (d_int (by show ((2 * s.2 : Nat) : Int) + 2 = ((2 * (s.2 + 1) : Nat) : Int); omega)) .nil)) (.cons rfl (fun _ _ x => x) (.nil)) (by simp only [appR]; rw [upD_take_two xs s.2 (by omega), show ((2 * s.2 : Nat) + 1 : Int).toNat = 2 * s.2 + 1 by omega])
  ·
   refine run_exit rfl ?_
   refine run_seq ?_
   refine run_freezeRow (s := 3) rfl (.here) ?_
   refine run_region ?_
   refine run_op (loc_move rfl) rfl ?_
   refine run_op (loc_assign rfl) rfl ?_
   refine run_nil ?_
   refine run_retP Tryz.func144 rfl rfl ?_
   exact d_eq (by rw [List.take_of_length_le (by omega)])
theorem knot_spec (n : Nat) : ∀ ys : List Int, ys.length < n → SpecP Tryz.prog 143 [dInts ys, dKnot 143] (dInt .i64 (rootD ys)) := by
  induction n with
  | zero => intro ys h; omega
  | succ n ih =>
  intro ys hlt
  refine specP_of_body Tryz.func143 rfl rfl (fun I M => ?_)
  refine run_seq ?_
  refine run_recast (s := 1) rfl knot_box ?_
  refine run_region ?_
  refine run_op (loc_assign rfl) rfl ?_
  refine run_nil ?_
  refine run_seq ?_
  refine run_seq ?_
  refine run_region ?_
  refine run_op (loc_move rfl) rfl ?_
  first | refine runL_fact (s := 4) rfl (fun _ _ h => dSl_len h) (fun hlen1 => ?_) | skip
  refine run_op (loc_len rfl) rfl ?_
  refine run_nil ?_
  refine run_block ?_
  refine run_seq ?_
  refine run_region ?_
  refine run_op (loc_eql rfl rfl) rfl ?_
  refine run_op (loc_assign rfl) rfl ?_
  refine run_nil ?_
  refine run_cond rfl (fun h2 => ?_) (fun h2 => ?_)
  ·
   refine run_seq ?_
   refine run_region ?_
   refine run_op (loc_assign rfl) rfl ?_
   refine run_nil ?_
   refine run_retP Tryz.func143 rfl rfl ?_
   exact d_int (by rw [show ys = [] from List.eq_nil_of_length_eq_zero (by omega)]; rfl)
  ·
   refine run_seq ?_
   refine run_region ?_
   refine run_op (loc_eql rfl rfl) rfl ?_
   refine run_op (loc_assign rfl) rfl ?_
   refine run_nil ?_
   refine run_cond rfl (fun h3 => ?_) (fun h3 => ?_)
   ·
    refine run_seq ?_
    refine run_region ?_
    refine run_op (loc_move rfl) rfl ?_
    first | refine run_op (loc_index rfl rfl (by first | omega | assumption)) rfl ?_ | refine run_op (loc_indexI rfl rfl (by first | omega | assumption)) rfl ?_
    refine run_op (loc_load1 rfl) rfl ?_
    refine run_op (loc_assign rfl) rfl ?_
    refine run_nil ?_
    refine run_retP Tryz.func143 rfl rfl ?_
    exact d_int (by match ys, (show ys.length = 1 by omega) with | [y], _ => rfl)
   ·
    refine run_skip ?_
    refine run_inBlock ?_
    refine run_seq ?_
    refine dr_start _ (.none) [⟨[(1, none)], [], none⟩,
        ⟨[(0, none)], [], none⟩,
        ⟨[(14, some (1, false))], [1], none⟩,
        ⟨[(13, some (0, false)), (15, some (2, false))], [0, 1, 2], none⟩,
        ⟨[(16, some (3, false))], [0, 1, 2, 3], none⟩] [] _ rfl rfl ?_
    refine dq_pure rfl (fun s => .g rfl (.nil)) (fun s hs _ => loc_load1 rfl) (by exact .nil) ?_
    refine dq_pure rfl (fun s => .g rfl (.nil)) (fun s hs _ => loc_move rfl) (by exact .nil) ?_
    refine dq_pure rfl (fun s => .op rfl (.nil)) (fun s hs _ => loc_call (above_spec _) rfl) (by exact .nil) ?_
    refine dq_pure rfl (fun s => .op rfl (.op rfl (.nil))) (fun s hs _ => loc_callClo (Ds := [dInts (upD ys)]) (ih _ (by rw [upD_length]; omega)) rfl rfl) (by exact .nil) ?_
    refine dq_pure rfl (fun s => .op rfl (.nil)) (fun s hs _ => loc_assign rfl) (by exact .nil) ?_
    refine dq_end (rs := []) () rfl (fun _ => rfl) (.nil) rfl (fun _ => rfl) (fun _ _ => ?_)
    dsimp only [outG, outM, List.map, List.set, id]
    refine run_retP Tryz.func143 rfl rfl ?_
    exact d_int (rootD_up ys (by omega)).symm
theorem root_spec (xs : List Int) : SpecP Tryz.prog 105 [dInts xs] (dTup [dInt .i64 (rootR xs), dInt .i64 (listErr xs)]) := by
  refine specP_of_body Tryz.func105 rfl rfl (fun I M => ?_)
  refine run_seq ?_
  refine run_region ?_
  refine run_op (loc_assign rfl) rfl ?_
  refine run_op (loc_assign rfl) rfl ?_
  refine run_nil ?_
  refine run_seq ?_
  refine run_seq ?_
  refine run_region ?_
  refine run_op (loc_move rfl) rfl ?_
  refine run_op (loc_call (check_spec _) rfl) rfl ?_
  refine run_op (loc_assign rfl) rfl ?_
  refine run_nil ?_
  refine run_seq ?_
  refine run_region ?_
  refine run_op (loc_move rfl) rfl ?_
  refine run_op (loc_neq rfl rfl) rfl ?_
  refine run_nil ?_
  refine run_cond rfl (fun h1 => ?_) (fun h1 => ?_)
  ·
   refine run_seq ?_
   refine run_region ?_
   refine run_op (loc_move rfl) rfl ?_
   refine run_op (loc_assign rfl) rfl ?_
   refine run_op (loc_assign rfl) rfl ?_
   refine run_nil ?_
   refine run_ret2P Tryz.func105 rfl rfl rfl ?_
   exact d_tup2 (d_int (by unfold rootR; rw [if_neg (by assumption)])) (d_int rfl)
  ·
   refine run_skip ?_
   refine run_seq ?_
   refine run_region ?_
   refine run_new (loc_allocOwn (by simp)) rfl (fun b2 _ => ?_)
   refine run_nil ?_
   refine run_seq ?_
   refine run_region ?_
   refine run_op (loc_makeFunc rfl) rfl ?_
   refine run_store1 rfl rfl (.here) (by rfl) ?_
   refine run_nil ?_
   refine run_freezeKnot (s := 5) rfl .here ?_
   refine run_seq ?_
   refine run_region ?_
   refine run_op (loc_load1 rfl) rfl ?_
   refine run_op (loc_move rfl) rfl ?_
   refine run_op (loc_callClo (Ds := [dInts xs]) (knot_spec (xs.length + 1) xs (by omega)) rfl rfl) rfl ?_
   refine run_op (loc_assign rfl) rfl ?_
   refine run_op (loc_assign rfl) rfl ?_
   refine run_nil ?_
   refine run_ret2P Tryz.func105 rfl rfl rfl ?_
   exact d_tup2 (d_int (by unfold rootR; rw [if_pos (by omega)])) (d_int (by omega))
theorem digests_spec (t : Tab) : SpecP Tryz.prog 104 [dTab t] (dTup [dInts (digs t), dInt .i64 (checkT t)]) := by
  refine specP_of_body Tryz.func104 rfl rfl (fun I M => ?_)
  refine run_seq ?_
  refine run_region ?_
  refine run_op (loc_boxN rfl) rfl ?_
  refine run_op (loc_assign rfl) rfl ?_
  refine run_op (loc_assign rfl) rfl ?_
  refine run_nil ?_
  refine run_seq ?_
  refine run_seq ?_
  refine run_region ?_
  refine run_op (loc_loadN rfl rfl) rfl ?_
  refine run_op (loc_call (tcheck_spec _) rfl) rfl ?_
  refine run_op (loc_assign rfl) rfl ?_
  refine run_nil ?_
  refine run_seq ?_
  refine run_region ?_
  refine run_op (loc_move rfl) rfl ?_
  refine run_op (loc_neq rfl rfl) rfl ?_
  refine run_nil ?_
  refine run_cond rfl (fun h1 => ?_) (fun h1 => ?_)
  ·
   have c1 := h1
   refine run_seq ?_
   refine run_region ?_
   refine run_op (loc_move rfl) rfl ?_
   refine run_op (loc_assign rfl) rfl ?_
   refine run_op (loc_assign rfl) rfl ?_
   refine run_nil ?_
   refine run_ret2P Tryz.func104 rfl rfl rfl ?_
   exact d_tup2 (d_toInts (by unfold digs; rw [if_neg c1]) d_nil) (d_int rfl)
  ·
   have c1 := Classical.not_not.1 h1
   have ct := checkT_ok c1
   refine run_skip ?_
   refine run_seq ?_
   refine run_region ?_
   refine run_op (loc_assign rfl) rfl ?_
   refine run_nil ?_
   refine run_seq ?_
   refine run_seq ?_
   refine run_region ?_
   refine run_op (loc_fieldAddr rfl) rfl ?_
   refine run_op (loc_load1 rfl) rfl ?_
   first | refine runL_fact (s := 14) rfl (fun _ _ h => dSl_len h) (fun hlen2 => ?_) | skip
   refine run_op (loc_len rfl) rfl ?_
   refine run_op (loc_move rfl) rfl ?_
   refine run_nil ?_
   refine run_block ?_
   refine run_rowNil 3 1 fI ?_
   refine run_loopF (σ := Value × Nat) (ks := [14, 15]) (.cons rfl (.cons rfl (.nil))) (fun s => [(5, dVal s.1), (16, dInt .i64 (s.2 : Nat))]) (fun s => [rRow s.1 3 1 fI ((t.rows.take s.2).map rowD)]) (fun s => s.2 ≤ t.rows.length) (fun s => t.rows.length - s.2) ((.slice none 0 0, 0)) (Nat.zero_le _) (.cons rfl (by first | exact fun _ _ h => h | exact d_int (by omega) | exact d_int (by simp) | exact d_intN (by omega) | exact d_any) (.cons rfl (by first | exact fun _ _ h => h | exact d_int (by omega) | exact d_int (by simp) | exact d_intN (by omega) | exact d_any) .nil)) (rfl) ?_
   intro s hk ih3
   have hl : ((t.rows.take s.2).map rowD).length ≤ 1024 := by simp; omega
   refine run_seq ?_
   refine run_region ?_
   refine run_op (loc_lss rfl rfl) rfl ?_
   refine run_nil ?_
   refine run_seq ?_
   refine run_cond rfl (fun h4 => ?_) (fun h4 => ?_)
   ·
    refine run_skip ?_
    refine run_seq ?_
    refine run_block ?_
    refine run_seq ?_
    refine run_region ?_
    first | refine run_op (loc_index rfl rfl (by first | omega | assumption)) rfl ?_ | refine run_op (loc_indexI rfl rfl (by first | omega | assumption)) rfl ?_
    refine run_op (loc_load1 rfl) rfl ?_
    refine run_op (loc_assign rfl) rfl ?_
    refine run_nil ?_
    refine run_region ?_
    refine run_op (loc_move rfl) rfl ?_
    refine run_op (loc_move rfl) rfl ?_
    refine run_op (loc_call (row_spec _) rfl) rfl ?_
    refine run_op (loc_buildSlice rfl rfl (.one rfl (.nil)) rfl rfl) rfl ?_
    refine run_append1 rfl (.here) rfl (by rfl) (by rfl) (by first | omega | (simp [lenMax]; omega) | (simp [lenMax]; done) | assumption) (by first | omega | (simp [lenMax]; omega) | (simp [lenMax]; done) | assumption) rfl (fun v5 => ?_)
    refine run_op (loc_assign rfl) rfl ?_
    refine run_nil ?_
    refine run_inBlock ?_
    refine run_region ?_
    first | refine run_op (loc_add rfl rfl (by first | omega | assumption)) rfl ?_ | refine run_op (loc_addW rfl rfl) rfl ?_
    refine run_op (loc_move rfl) rfl ?_
    refine run_nil ?_
    exact run_againF ih3 ((v5, s.2 + 1)) (by simp only; omega) (by simp only; omega) (.cons rfl (by first | exact fun _ _ h => h | exact d_int (by omega) | exact d_int (by simp) | exact d_intN (by omega) | exact d_any) (.cons rfl (by first | exact fun _ _ h => h | exact d_int (by omega) | exact d_int (by simp) | exact d_intN (by omega) | exact d_any) .nil)) (.cons rfl (fun _ _ x => x) (.cons rfl (fun _ _ x => x) (.nil))) (by simp only [appR]; rw [List.take_add_one, show t.rows[s.2]? = some (t.rows[s.2]?.getD default) by rw [List.getElem?_eq_getElem (by omega)]; rfl]; simp)
   ·
    refine run_exit rfl ?_
    refine run_seq ?_
    refine run_freezeRow (s := 5) rfl (.here) ?_
    refine run_region ?_
    refine run_op (loc_move rfl) rfl ?_
    refine run_op (loc_assign rfl) rfl ?_
    refine run_op (loc_assign rfl) rfl ?_
    refine run_nil ?_
    refine run_ret2P Tryz.func104 rfl rfl rfl ?_
    exact d_tup2 (d_toInts (by unfold digs; rw [if_pos c1]) (d_toInts (by rw [List.take_of_length_le (by omega)]) (fun _ _ h => h))) (d_int c1.symm)
theorem head_spec (t : Tab) : SpecP Tryz.prog 53 [dTab t] (dTup [dHd (headT t), dInt .i64 (checkT t)]) := by
  refine specP_of_body Tryz.func53 rfl rfl (fun I M => ?_)
  refine run_seq ?_
  refine run_region ?_
  refine run_op (loc_boxN rfl) rfl ?_
  refine run_new (loc_allocOwn (by simp)) rfl (fun b1 _ => ?_)
  refine run_op (loc_assign rfl) rfl ?_
  refine run_nil ?_
  refine run_seq ?_
  refine run_region ?_
  refine run_op (loc_loadN rfl rfl) rfl ?_
  refine run_op (loc_call (digests_spec _) rfl) rfl ?_
  refine run_op (loc_move rfl) rfl ?_
  refine run_op (loc_extract rfl rfl) rfl ?_
  refine run_op (loc_extract rfl rfl) rfl ?_
  refine run_op (loc_assign rfl) rfl ?_
  refine run_op (loc_assign rfl) rfl ?_
  refine run_nil ?_
  refine run_seq ?_
  refine run_seq ?_
  refine run_region ?_
  refine run_op (loc_move rfl) rfl ?_
  refine run_op (loc_neq rfl rfl) rfl ?_
  refine run_nil ?_
  refine run_cond rfl (fun h2 => ?_) (fun h2 => ?_)
  ·
   have c1 := h2
   refine run_seq ?_
   refine run_region ?_
   refine run_op (loc_build (.nil)) rfl ?_
   refine run_op (loc_move rfl) rfl ?_
   refine run_storeN (ho := (by show OneAll [_, _, _, _, _]; infer_instance)) rfl rfl (.here) (by rfl) ?_
   refine run_op (loc_assign rfl) rfl ?_
   refine run_nil ?_
   refine run_retGP Tryz.func53 rfl (.cellN rfl (.here) (by rfl) (.tmp rfl (.nil))) ?_ (fun _ _ h => inv_tail (h))
   exact d_tup2 (d_eq (by unfold headT; rw [if_neg c1]; rfl)) (fun _ _ h => h)
  ·
   have c1 := h2
   refine run_skip ?_
   refine run_seq ?_
   refine run_region ?_
   refine run_op (loc_move rfl) rfl ?_
   refine run_op (loc_call (root_spec _) rfl) rfl ?_
   refine run_op (loc_move rfl) rfl ?_
   refine run_op (loc_extract rfl rfl) rfl ?_
   refine run_op (loc_extract rfl rfl) rfl ?_
   refine run_op (loc_assign rfl) rfl ?_
   refine run_op (loc_assign rfl) rfl ?_
   refine run_nil ?_
   refine run_seq ?_
   refine run_seq ?_
   refine run_region ?_
   refine run_op (loc_move rfl) rfl ?_
   refine run_op (loc_neq rfl rfl) rfl ?_
   refine run_nil ?_
   refine run_cond rfl (fun h3 => ?_) (fun h3 => ?_)
   · exfalso; exact h3 (rootR_digs (Classical.not_not.1 c1)).1
   ·
    refine run_skip ?_
    refine run_seq ?_
    refine run_region ?_
    refine run_op (loc_fieldAddr rfl) rfl ?_
    refine run_op (loc_load1 rfl) rfl ?_
    refine run_op (loc_fieldAddr rfl) rfl ?_
    refine run_op (loc_fieldAddr rfl) rfl ?_
    refine run_op (loc_load1 rfl) rfl ?_
    refine run_op (loc_fieldAddr rfl) rfl ?_
    refine run_op (loc_load1 rfl) rfl ?_
    first | refine runL_fact (s := 31) rfl (fun _ _ h => dSl_len h) (fun hlen4 => ?_) | skip
    refine run_op (loc_len rfl) rfl ?_
    refine run_op (loc_fieldAddr rfl) rfl ?_
    refine run_op (loc_load1 rfl) rfl ?_
    refine run_op (loc_move rfl) rfl ?_
    refine run_op (loc_build (.one rfl rfl rfl (.one rfl rfl rfl (.one rfl rfl rfl (.one rfl rfl rfl (.one rfl rfl rfl (.nil))))))) rfl ?_
    refine run_storeN (ho := (by show OneAll [_, _, _, _, _]; infer_instance)) rfl rfl (.here) (by rfl) ?_
    refine run_op (loc_assign rfl) rfl ?_
    refine run_nil ?_
    refine run_retGP Tryz.func53 rfl (.cellN rfl (.here) (by rfl) (.tmp rfl (.nil))) ?_ (fun _ _ h => inv_tail (h))
    exact d_tup2 (d_eq (by unfold headT; rw [if_pos (Classical.not_not.1 c1), ← (rootR_digs (Classical.not_not.1 c1)).2]; rfl)) (d_int (Classical.not_not.1 c1).symm)
end Go.Q

namespace Go.Q
open Classical
noncomputable def newSE (id : Int) (s : Schm) : Int := if ¬ shapeS s then 40 else if id < 1 ∨ id > s.servers then 1 else 0
def srv0 : Srv := ⟨0, ⟨0, 0, 0, 0⟩, False, [], []⟩
noncomputable def newS (id : Int) (s : Schm) : Srv := if newSE id s = 0 then ⟨id, s, True, [], []⟩ else srv0
noncomputable def atV (v : Srv) (n : Int) : Nat := bsF (fun h : Held => cmpI h.head.number n) v.versions
def thereV (v : Srv) (n : Int) : Prop := atV v n < v.versions.length ∧ cmpI (v.versions[atV v n]?.getD default).head.number n = 0
noncomputable def loadE (v : Srv) (t : Tab) : Int := if ¬ v.up then 43 else if checkT t ≠ 0 then checkT t else if ¬ validS v.scheme t.p then 40 else if t.rows.length = 0 then 2 else if thereV v t.number then 7 else if v.versions.length ≥ 16 then 4 else hldE v.scheme t v.id
noncomputable def loadV (v : Srv) (t : Tab) : Srv := if loadE v t = 0 then { v with versions := v.versions.take (atV v t.number) ++ [⟨headT t, hldL v.scheme t v.id⟩] ++ v.versions.drop (atV v t.number) } else v
noncomputable def dropE (v : Srv) (n : Int) : Int := if ¬ v.up then 43 else if ¬ thereV v n then 6 else if ∃ j ∈ v.jobs, j.version = n then 45 else 0
noncomputable def dropV (v : Srv) (n : Int) : Srv := if dropE v n = 0 then { v with versions := v.versions.take (atV v n) ++ v.versions.drop (atV v n + 1) } else v
noncomputable def heldV (v : Srv) (n : Int) : Held := v.versions[atV v n]?.getD default
noncomputable def askE (v : Srv) (n : Nte) : Int := if ¬ v.up then 43 else if n.kind ≠ 1 ∨ n.server ≠ v.id then 2 else if ¬ thereV v n.version then 6 else if n.query.length ≠ (heldV v n.version).rows.length ∨ ¬ (okP (heldV v n.version).head.p ∧ allP (heldV v n.version).head.p n.query) then 2
 else if ∃ j ∈ v.jobs, j.read = n.read ∧ j.probe = n.probe then 7 else if v.jobs.length ≥ 32 then 4 else 0
noncomputable def askV (v : Srv) (n : Nte) : Srv := if askE v n = 0 then { v with jobs := v.jobs ++ [⟨n.read, n.probe, n.version, n.query, []⟩] } else v
def crashV (v : Srv) : Srv := { v with up := False, jobs := [] }
noncomputable def startE (v : Srv) : Int := if v.up then 44 else 0
noncomputable def startV (v : Srv) : Srv := if v.up then v else { v with up := True }
def dotK (p : Int) (d : Nat) (rows : List (List Int)) (q : List Int) : Nat → Int
 | 0 => 0
 | k + 1 => (dotK p d rows q k + (rows[k]?.getD default)[d]?.getD default * (q[k]?.getD default)) % p
def wordX (h : Held) (j : Job) (lie : Int) : Int := if j.got.length = 0 then (dotK h.head.p j.got.length h.rows j.query h.rows.length + lie % h.head.p) % h.head.p else dotK h.head.p j.got.length h.rows j.query h.rows.length
def numsN (n : Nte) : List Int := [n.kind, n.read, n.probe, n.server, n.version] ++ ([(n.query.length : Int)] ++ n.query) ++ ([(n.values.length : Int)] ++ n.values)
noncomputable def signE (s : Int) (l : List Int) : Int := if ¬ (1 ≤ s ∧ s < 2147483647) then 1 else if l.length > 16384 then 4 else 0
noncomputable def signM (s : Int) (l : List Int) : Int := if signE s l = 0 then rowD (s :: l) else 0
def nte0 : Nte := ⟨0, 0, 0, 0, 0, [], [], 0⟩
noncomputable def job1 (v : Srv) (lie : Int) : Job := { v.jobs[0]?.getD default with got := (v.jobs[0]?.getD default).got ++ [wordX (heldV v (v.jobs[0]?.getD default).version) (v.jobs[0]?.getD default) lie] }
noncomputable def note1 (v : Srv) (lie : Int) : Nte := ⟨2, (job1 v lie).read, (job1 v lie).probe, v.id, (job1 v lie).version, (job1 v lie).query, (job1 v lie).got, 0⟩
noncomputable def moreV (v : Srv) (lie : Int) : Prop := ((job1 v lie).got.length : Int) < (heldV v (v.jobs[0]?.getD default).version).head.width
noncomputable def wordE (v : Srv) (p : Psn) (lie : Int) : Int := if ¬ v.up then 43 else if v.jobs.length = 0 then 6 else if moreV v lie then 0 else signE p.secret (numsN (note1 v lie))
noncomputable def wordV (v : Srv) (p : Psn) (lie : Int) : Srv := if ¬ v.up ∨ v.jobs.length = 0 then v else if moreV v lie then { v with jobs := job1 v lie :: v.jobs.drop 1 } else if signE p.secret (numsN (note1 v lie)) = 0 then { v with jobs := v.jobs.drop 1 } else v
noncomputable def wordR (v : Srv) (p : Psn) (lie : Int) : Prop := v.up ∧ v.jobs.length ≠ 0 ∧ ¬ moreV v lie ∧ signE p.secret (numsN (note1 v lie)) = 0
noncomputable def wordN (v : Srv) (p : Psn) (lie : Int) : Nte := if wordR v p lie then { note1 v lie with mark := signM p.secret (numsN (note1 v lie)) } else nte0
def okHeld (h : Held) : Prop := okP h.head.p ∧ (1 ≤ h.head.width ∧ h.head.width ≤ 64) ∧ h.rows.length ≤ 1024 ∧ ∀ r ∈ h.rows, (r.length : Int) = h.head.width ∧ allP h.head.p r
def okJob (v : Srv) (j : Job) : Prop := thereV v j.version ∧ j.query.length = (heldV v j.version).rows.length ∧ allP (heldV v j.version).head.p j.query ∧ (j.got.length : Int) < (heldV v j.version).head.width ∧ allP (heldV v j.version).head.p j.got
def okSrv (v : Srv) : Prop := v.versions.length ≤ 16 ∧ v.jobs.length ≤ 32 ∧ (∀ h ∈ v.versions, okHeld h) ∧ (∀ i j, i < j → j < v.versions.length → (v.versions[i]?.getD default).head.number < (v.versions[j]?.getD default).head.number) ∧ ∀ j ∈ v.jobs, okJob v j
end Go.Q

namespace Go.Q
open Classical
theorem atV_at {v : Srv} {n : Int} {k : Nat} (hk : k ≤ v.versions.length) (h1 : ∀ a, a < k → (v.versions[a]?.getD default).head.number < n) (h2 : ∀ a, k ≤ a → a < v.versions.length → n ≤ (v.versions[a]?.getD default).head.number) : atV v n = k := by
 unfold atV bsF
 exact bsGo_at (Nat.zero_le _) (Nat.zero_le _) hk (fun a ha => cmpI_neg.2 (h1 a ha)) (fun a ha hb h => by have := cmpI_neg.1 h; have := h2 a ha hb; omega)
theorem atV_le (v : Srv) (n : Int) : atV v n ≤ v.versions.length := by unfold atV bsF; exact (bsGo_le _ _ _ (Nat.zero_le _)).2
def s12 : Schm := ⟨1, 2, 0, 0⟩
theorem s12_shape : shapeS s12 := ⟨⟨by unfold s12; simp only; omega, by unfold s12; simp only; omega⟩, .inl ⟨rfl, rfl, rfl⟩⟩
theorem s12_valid : validS s12 7 := ⟨s12_shape, okP_7, .inl rfl⟩
theorem s12_new : newSE 1 s12 = 0 ∧ newS 1 s12 = ⟨1, s12, True, [], []⟩ := by
 have e : newSE 1 s12 = 0 := by unfold newSE; rw [if_neg (Classical.not_not.2 s12_shape), if_neg (by unfold s12; simp only; omega)]
 exact ⟨e, by unfold newS; rw [if_pos e]⟩
theorem s12_hold {t : Tab} (ht : checkT t = 0) (hp : t.p = 7) : hldE s12 t 1 = 0 ∧ hldL s12 t 1 = t.rows := by
 have hv : validS s12 t.p := hp ▸ s12_valid
 have hj : 1 ≤ (1 : Int) ∧ (1 : Int) ≤ s12.servers := by unfold s12; simp only; omega
 have h3 : ¬ s12.kind = 3 := by unfold s12; simp only; omega
 unfold hldE hldL
 rw [if_neg (Classical.not_not.2 ht), if_neg (Classical.not_not.2 hv), if_neg (Classical.not_not.2 hj), if_neg h3, if_neg (hld_no ht hv hj), if_neg h3]
 exact ⟨rfl, rfl⟩
end Go.Q

namespace Go.Q
variable {P : Program} {N : Nat} {g : G} {M : List Res}
variable {dst : Tmp} {ty : TypeId} {pos : String} {after : Array Edge} {gd : Option (Nat × Bool)} {x y : Operand}
end Go.Q

namespace Go.Q
variable {P : Program} {f : FuncId}
theorem relL_swap {v : Value} {d : D} {B : List D} {J J' : Imm} (hle : J.le J') (hd : d.rel J' v) : ∀ {A : List D} {vs : List Value}, relL (A ++ dSlV v :: B) J vs → relL (A ++ d :: B) J' vs
 | [], [], h => h.elim
 | [], u :: us, h => by
  obtain ⟨⟨e, _⟩, h2⟩ := h
  subst e
  exact ⟨hd, relL_mono hle h2⟩
 | a :: A, [], h => h.elim
 | a :: A, u :: us, h => ⟨D.mono _ hle h.1, relL_swap hle hd (A := A) h.2⟩
variable {Ds : List D} {Min : List Res} {A : List D} {T1 n1 T2 n2 : Nat} {α β : Type} {f1 : α → List D} {f2 : β → List D} {xs1 : List α} {xs2 : List β}
theorem spec_frzB (h : Spec P f Ds Min (σ := Value × Value) (fun _ => True) (fun s => dAgg (A ++ [dSlV s.1, dSlV s.2])) (fun s => [rRow s.1 T1 n1 f1 xs1, rRow s.2 T2 n2 f2 xs2])) :
  Spec P f Ds Min (σ := Value) (fun _ => True) (fun v => dAgg (A ++ [dSlV v, dSl n2 f2 xs2])) (fun v => [rRow v T1 n1 f1 xs1]) := by
 intro I F w vs hv hi
 refine (h I F w vs hv hi).mono ?_
 rintro e w' ⟨v, rfl, s, _, J, h1, ⟨cs, rfl, h2⟩, h3⟩
 obtain ⟨J', h4, h5, h6⟩ := row_freeze (h3.perm (List.Perm.swap ..))
 refine ⟨_, rfl, s.1, trivial, J', h1.trans h4, ⟨cs, rfl, ?_⟩, h6⟩
 have := relL_swap (A := A ++ [dSlV s.1]) (B := []) h4 h5 (by simpa using h2)
 simpa using this
theorem spec_frzA (h : Spec P f Ds Min (σ := Value × Value) (fun _ => True) (fun s => dAgg (A ++ [dSlV s.1, dSlV s.2])) (fun s => [rRow s.1 T1 n1 f1 xs1, rRow s.2 T2 n2 f2 xs2])) :
  Spec P f Ds Min (σ := Value) (fun _ => True) (fun v => dAgg (A ++ [dSl n1 f1 xs1, dSlV v])) (fun v => [rRow v T2 n2 f2 xs2]) := by
 intro I F w vs hv hi
 refine (h I F w vs hv hi).mono ?_
 rintro e w' ⟨v, rfl, s, _, J, h1, ⟨cs, rfl, h2⟩, h3⟩
 obtain ⟨J', h4, h5, h6⟩ := row_freeze h3
 exact ⟨_, rfl, s.2, trivial, J', h1.trans h4, ⟨cs, rfl, relL_swap (A := A) (B := [dSlV s.2]) h4 h5 h2⟩, h6⟩
theorem spec_frzC (h : Spec P f Ds [] (σ := Value) (fun _ => True) (fun v => dAgg (A ++ [dSlV v, dSl n2 f2 xs2])) (fun v => [rRow v T1 n1 f1 xs1])) : SpecP P f Ds (dAgg (A ++ [dSl n1 f1 xs1, dSl n2 f2 xs2])) := by
 intro I F w vs hv hi
 refine (h I F w vs hv hi).mono ?_
 rintro e w' ⟨v, rfl, s, _, J, h1, ⟨cs, rfl, h2⟩, h3⟩
 obtain ⟨J', h4, h5, h6⟩ := row_freeze h3
 exact ⟨_, rfl, J', h1.trans h4, ⟨cs, rfl, relL_swap (A := A) (B := [dSl n2 f2 xs2]) h4 h5 h2⟩, h6⟩
theorem els_get {α : Type} [Inhabited α] {xs : List α} {f' : α → List D} {r : List (List D)} {q i : Nat} (h : i < xs.length) (hq : q = i) : (xs.map f' ++ r)[q]? = some (f' (xs[i]?.getD default)) := by
 subst hq
 rw [List.getElem?_append_left (by simpa using h), List.getElem?_map, List.getElem?_eq_getElem h]
 rfl
theorem els_same {α : Type} [Inhabited α] {xs : List α} {f' : α → List D} {r : List (List D)} {q i : Nat} {e : List D} (h : i < xs.length) (hq : q = i) (he : e = f' (xs[i]?.getD default)) : (xs.map f' ++ r).set q e = xs.map f' ++ r := by
 subst hq he
 have h2 : q < (xs.map f' ++ r).length := by simp; omega
 refine List.ext_getElem? fun j => ?_
 rw [List.getElem?_set]
 split
 ·rename_i e; subst e; try rw [if_pos h2]
  exact (els_get h rfl).symm
 ·rfl
theorem spec_rowV {φ : Value → Prop} {xs : List α} (h : Spec P f Ds Min (σ := Value) φ (fun v => dVal v) (fun v => [rRow v T1 n1 f1 xs])) : Spec P f Ds Min (σ := Value) φ (fun v => dSlV v) (fun v => [rRow v T1 n1 f1 xs]) := by
 intro I F w vs hv hi
 refine (h I F w vs hv hi).mono ?_
 rintro e w' ⟨v, rfl, s, hφ, J, h1, h2, h3⟩
 refine ⟨_, rfl, s, hφ, J, h1, ⟨h2, ?_⟩, h3⟩
 rw [show v = s from h2]
 rcases row_cases h3 with ⟨h4, _⟩ | ⟨b', cap, cs', h4, _⟩
 ·exact ⟨_, _, _, h4⟩
 ·exact ⟨_, _, _, h4⟩
theorem set_self {α : Type} [Inhabited α] {xs : List α} {i : Nat} (h : i < xs.length) : xs.set i (xs[i]?.getD default) = xs := by
 refine List.ext_getElem? fun j => ?_
 rw [List.getElem?_set]
 split
 ·rename_i e; subst e; try rw [if_pos h]
  rw [List.getElem?_eq_getElem h]; rfl
 ·rfl
end Go.Q
