/- The law of rows at other indices. -/
import Derived.Test.YtipjijlfpnjjfaaQSpecG
set_option linter.unusedVariables false
set_option linter.unusedSimpArgs false
namespace Go.Q
open Go.Proofs

open Classical
theorem tableIndex_spec (ts : List Int) (i k : Int) (hi : 0 ≤ i ∧ i ≤ 255) (hk : 0 ≤ k ∧ k ≤ 255) : SpecP Try.prog 5 [dInts ts, dInt .u8 i, dInt .u8 k] (dB True) := by
  refine specP_of_body Try.func5 rfl rfl (fun I M => ?_)
  refine run_seq ?_
  refine run_region ?_
  refine run_op (loc_assign rfl) rfl ?_
  refine run_nil ?_
  refine run_seq ?_
  refine run_seq ?_
  refine run_region ?_
  refine run_op (loc_call (sane_spec) rfl) rfl ?_
  refine run_op (loc_not rfl) rfl ?_
  refine run_nil ?_
  refine run_cond rfl (fun h1 => ?_) (fun h1 => ?_)
  · exfalso; exact h1 trivial
  ·
    refine run_skip ?_
    refine run_seq ?_
    refine run_seq ?_
    refine run_region ?_
    refine run_op (loc_move rfl) rfl ?_
    refine run_op (loc_call (few_spec _) rfl) rfl ?_
    refine run_op (loc_not rfl) rfl ?_
    refine run_nil ?_
    refine run_cond rfl (fun h2 => ?_) (fun h2 => ?_)
    ·
      refine run_seq ?_
      refine run_region ?_
      refine run_op (loc_assign rfl) rfl ?_
      refine run_nil ?_
      refine run_retP Try.func5 rfl rfl ?_
      exact d_B Iff.rfl
    ·
      refine run_skip ?_
      refine run_seq ?_
      refine run_region ?_
      refine run_op (loc_move rfl) rfl ?_
      refine run_callN rfl (deck_spec _) rfl (fun v3 hv3 => ?_)
      refine run_callM rfl (by first | exact .here | exact .there .here | exact .there (.there .here) | exact .there (.there (.there .here)) | exact .there (.there (.there (.there .here))) | exact .there (.there (.there (.there (.there .here))))) (mtab_spec _ ⟨ts, 0⟩) rfl (fun s4 hs4 => ?_)
      refine run_new (loc_allocOwn (by simp)) rfl (fun b5 _ => ?_)
      refine run_storeN (ho := (by show OneAll [_, _, _, _]; infer_instance)) rfl rfl (by first | exact .here | exact .there .here | exact .there (.there .here) | exact .there (.there (.there .here)) | exact .there (.there (.there (.there .here))) | exact .there (.there (.there (.there (.there .here))))) (by rfl) ?_
      refine run_nil ?_
      have hx := Dk.tab_ok ⟨ts, 0⟩
      have hr := Dk.tab_rows ⟨ts, 0⟩
      generalize Dk.tab ⟨ts, 0⟩ = x at *
      refine run_seq ?_
      refine run_seq ?_
      refine run_region ?_
      refine run_op (loc_fieldAddrOwn rfl) rfl ?_
      refine run_op (loc_loadOwn1 rfl (by first | exact .here | exact .there .here | exact .there (.there .here) | exact .there (.there (.there .here)) | exact .there (.there (.there (.there .here))) | exact .there (.there (.there (.there (.there .here))))) (by rfl)) rfl ?_
      refine run_op (loc_len rfl) rfl ?_
      refine run_op (loc_eql rfl rfl) rfl ?_
      refine run_nil ?_
      refine run_cond rfl (fun h6 => ?_) (fun h6 => ?_)
      ·
        refine run_seq ?_
        refine run_region ?_
        refine run_op (loc_assign rfl) rfl ?_
        refine run_nil ?_
        refine run_drop (.cons _ (.cons _ (.refl _))) ?_
        refine run_retP Try.func5 rfl rfl ?_
        exact d_B Iff.rfl
      ·
        refine run_skip ?_
        refine run_seq ?_
        refine run_region ?_
        refine run_op (loc_loadOwnN rfl (by first | exact .here | exact .there .here | exact .there (.there .here) | exact .there (.there (.there .here)) | exact .there (.there (.there (.there .here))) | exact .there (.there (.there (.there (.there .here))))) (by rfl)) rfl ?_
        refine run_op (loc_call (head_spec x) rfl) rfl ?_
        refine run_op (loc_move rfl) rfl ?_
        refine run_op (loc_extract rfl rfl) rfl ?_
        refine run_op (loc_extract rfl rfl) rfl ?_
        refine run_new (loc_allocOwn (by simp)) rfl (fun b7 _ => ?_)
        refine run_storeN (ho := (by show OneAll [_, _, _, _, _]; infer_instance)) rfl rfl (by first | exact .here | exact .there .here | exact .there (.there .here) | exact .there (.there (.there .here)) | exact .there (.there (.there (.there .here))) | exact .there (.there (.there (.there (.there .here))))) (by rfl) ?_
        refine run_op (loc_assign rfl) rfl ?_
        refine run_nil ?_
        refine run_seq ?_
        refine run_region ?_
        refine run_op (loc_loadOwnN rfl (by first | exact .here | exact .there .here | exact .there (.there .here) | exact .there (.there (.there .here)) | exact .there (.there (.there (.there .here))) | exact .there (.there (.there (.there (.there .here))))) (by rfl)) rfl ?_
        refine run_op (loc_call (digests_spec x) rfl) rfl ?_
        refine run_op (loc_move rfl) rfl ?_
        refine run_op (loc_extract rfl rfl) rfl ?_
        refine run_op (loc_extract rfl rfl) rfl ?_
        refine run_op (loc_assign rfl) rfl ?_
        refine run_op (loc_assign rfl) rfl ?_
        refine run_nil ?_
        refine run_seq ?_
        have hlen := digs_len hx
        have hn : (0 : Int) < x.rows.length := by omega
        have hia := Int.emod_nonneg i (b := x.rows.length) (by omega)
        have hib := Int.emod_lt_of_pos i hn
        have hka := Int.emod_nonneg k (b := x.rows.length) (by omega)
        have hkb := Int.emod_lt_of_pos k hn
        refine dr_start (Unit) (fun _ => True) 14 [⟨[(1, none)], [], none⟩,
            ⟨[(37, some (0, false))], [0], none⟩,
            ⟨[(7, none)], [], none⟩,
            ⟨[(39, some (2, false))], [2], some (1, 0, false)⟩,
            ⟨[(40, some (3, false))], [2, 3], none⟩,
            ⟨[(38, some (1, false)), (41, some (4, false))], [0, 1, 2, 3, 4], none⟩,
            ⟨[(2, none)], [], none⟩,
            ⟨[(43, some (6, false))], [6], none⟩,
            ⟨[(7, none)], [], none⟩,
            ⟨[(45, some (8, false))], [8], some (1, 0, false)⟩,
            ⟨[(46, some (9, false))], [8, 9], none⟩,
            ⟨[(44, some (7, false)), (47, some (10, false))], [6, 7, 8, 9, 10], none⟩,
            ⟨[(42, some (5, false))], [0, 1, 2, 3, 4, 5], none⟩,
            ⟨[(48, some (11, false))], [0, 1, 2, 3, 4, 5, 6, 7, 8, 9, 10, 11, 12], none⟩] [_, _, _] _ rfl rfl ?_
        refine dq_pure rfl (fun s => .g rfl (.nil)) (fun s hs _ => loc_move rfl) (by first | exact .inl fun _ _ => rfl | exact .inr rfl) ?_
        first | refine dq_pure rfl (fun s => .op rfl (.nil)) (fun s hs _ => loc_conv rfl (by first | omega | assumption)) (by first | exact .inl fun _ _ => rfl | exact .inr rfl) ?_ | refine dq_pure rfl (fun s => .op rfl (.nil)) (fun s hs _ => loc_convW rfl) (by first | exact .inl fun _ _ => rfl | exact .inr rfl) ?_
        refine dq_pure rfl (fun s => .g rfl (.nil)) (fun s hs _ => loc_fieldAddrOwn rfl) (by first | exact .inl fun _ _ => rfl | exact .inr rfl) ?_
        refine dq_read rfl (fun s => .op rfl (.nil)) rfl rfl (fun s hs _ hm => loc_loadOwn1 rfl hm (by rfl)) (by first | exact .inl fun _ _ => rfl | exact .inr rfl) ?_
        refine dq_pure rfl (fun s => .op rfl (.nil)) (fun s hs _ => loc_len rfl) (by first | exact .inl fun _ _ => rfl | exact .inr rfl) ?_
        first | refine dq_pure rfl (fun s => .op rfl (.op rfl (.nil))) (fun s hs _ => loc_rem rfl rfl (by first | omega | assumption)) (by first | exact .inl fun _ _ => rfl | exact .inr rfl) ?_ | refine dq_pure rfl (fun s => .op rfl (.op rfl (.nil))) (fun s hs _ => loc_remW rfl rfl (by first | omega | assumption)) (by first | exact .inl fun _ _ => rfl | exact .inr rfl) ?_
        refine dq_pure rfl (fun s => .g rfl (.nil)) (fun s hs _ => loc_move rfl) (by first | exact .inl fun _ _ => rfl | exact .inr rfl) ?_
        first | refine dq_pure rfl (fun s => .op rfl (.nil)) (fun s hs _ => loc_conv rfl (by first | omega | assumption)) (by first | exact .inl fun _ _ => rfl | exact .inr rfl) ?_ | refine dq_pure rfl (fun s => .op rfl (.nil)) (fun s hs _ => loc_convW rfl) (by first | exact .inl fun _ _ => rfl | exact .inr rfl) ?_
        refine dq_pure rfl (fun s => .g rfl (.nil)) (fun s hs _ => loc_fieldAddrOwn rfl) (by first | exact .inl fun _ _ => rfl | exact .inr rfl) ?_
        refine dq_read rfl (fun s => .op rfl (.nil)) rfl rfl (fun s hs _ hm => loc_loadOwn1 rfl hm (by rfl)) (by first | exact .inl fun _ _ => rfl | exact .inr rfl) ?_
        refine dq_pure rfl (fun s => .op rfl (.nil)) (fun s hs _ => loc_len rfl) (by first | exact .inl fun _ _ => rfl | exact .inr rfl) ?_
        first | refine dq_pure rfl (fun s => .op rfl (.op rfl (.nil))) (fun s hs _ => loc_rem rfl rfl (by first | omega | assumption)) (by first | exact .inl fun _ _ => rfl | exact .inr rfl) ?_ | refine dq_pure rfl (fun s => .op rfl (.op rfl (.nil))) (fun s hs _ => loc_remW rfl rfl (by first | omega | assumption)) (by first | exact .inl fun _ _ => rfl | exact .inr rfl) ?_
        refine dq_pure rfl (fun s => .op rfl (.nil)) (fun s hs _ => loc_assign rfl) (by first | exact .inl fun _ _ => rfl | exact .inr rfl) ?_
        refine dq_pure rfl (fun s => .op rfl (.nil)) (fun s hs _ => loc_assign rfl) (by first | exact .inl fun _ _ => rfl | exact .inr rfl) ?_
        refine dq_end (rs := [_, _, _]) () rfl (fun _ => rfl) (fun _ _ => trivial) rfl (fun _ _ => ?_)
        dsimp only [outG, outM, List.map, List.set]
        refine run_seq ?_
        refine dr_start (Unit) (fun _ => True) 10 [⟨[(8, none)], [], some (0, 0, false)⟩,
            ⟨[(10, none)], [], none⟩,
            ⟨[(13, none)], [], none⟩,
            ⟨[(7, none)], [], none⟩,
            ⟨[(52, some (3, false))], [3], some (1, 0, false)⟩,
            ⟨[(12, none)], [], none⟩,
            ⟨[(53, some (4, false)), (54, some (5, false))], [3, 4, 5], none⟩,
            ⟨[(55, some (6, false))], [3, 4, 5, 6], none⟩,
            ⟨[(49, some (0, false)), (50, some (1, false)), (51, some (2, false)), (56, some (7, false))], [0, 1, 2, 3, 4, 5, 6, 7], none⟩,
            ⟨[(57, some (8, false))], [0, 1, 2, 3, 4, 5, 6, 7, 8], none⟩] [_, _, _] _ rfl rfl ?_
        refine dq_read rfl (fun s => .g rfl (.nil)) rfl rfl (fun s hs _ hm => loc_loadOwnN rfl hm (by rfl)) (by first | exact .inl fun _ _ => rfl | exact .inr rfl) ?_
        refine dq_pure rfl (fun s => .g rfl (.nil)) (fun s hs _ => loc_move rfl) (by first | exact .inl fun _ _ => rfl | exact .inr rfl) ?_
        refine dq_pure rfl (fun s => .g rfl (.nil)) (fun s hs _ => loc_move rfl) (by first | exact .inl fun _ _ => rfl | exact .inr rfl) ?_
        refine dq_pure rfl (fun s => .g rfl (.nil)) (fun s hs _ => loc_fieldAddrOwn rfl) (by first | exact .inl fun _ _ => rfl | exact .inr rfl) ?_
        refine dq_read rfl (fun s => .op rfl (.nil)) rfl rfl (fun s hs _ hm => loc_loadOwn1 rfl hm (by rfl)) (by first | exact .inl fun _ _ => rfl | exact .inr rfl) ?_
        refine dq_pure rfl (fun s => .g rfl (.nil)) (fun s hs _ => loc_move rfl) (by first | exact .inl fun _ _ => rfl | exact .inr rfl) ?_
        first | refine dq_pure rfl (fun s => .op rfl (.op rfl (.nil))) (fun s hs _ => loc_index rfl rfl (by first | omega | assumption)) (by first | exact .inl fun _ _ => rfl | exact .inr rfl) ?_ | refine dq_pure rfl (fun s => .op rfl (.op rfl (.nil))) (fun s hs _ => loc_indexI rfl rfl (by first | omega | assumption)) (by first | exact .inl fun _ _ => rfl | exact .inr rfl) ?_
        refine dq_pure rfl (fun s => .op rfl (.nil)) (fun s hs _ => loc_load1 rfl) (by first | exact .inl fun _ _ => rfl | exact .inr rfl) ?_
        refine dq_pure rfl (fun s => .op rfl (.op rfl (.op rfl (.op rfl (.nil))))) (fun s hs _ => loc_call (verify_spec _ _ _ _) rfl) (by first | exact .inl fun _ _ => rfl | exact .inr rfl) ?_
        refine dq_pure rfl (fun s => .op rfl (.nil)) (fun s hs _ => loc_assign rfl) (by first | exact .inl fun _ _ => rfl | exact .inr rfl) ?_
        refine dq_end (rs := [_, _, _]) () rfl (fun _ => rfl) (fun _ _ => trivial) rfl (fun _ _ => ?_)
        dsimp only [outG, outM, List.map, List.set]
        refine run_seq ?_
        refine dr_start (Unit) (fun _ => True) 54 [⟨[(9, none)], [], none⟩,
            ⟨[(58, some (0, false))], [0], none⟩,
            ⟨[(59, some (1, false))], [0, 1], none⟩,
            ⟨[(11, none)], [0, 1, 2], none⟩,
            ⟨[(61, some (3, true))], [0, 1, 2, 3], none⟩,
            ⟨[(60, some (2, false)), (62, some (4, false))], [0, 1, 2, 3, 4], none⟩,
            ⟨[(63, some (5, false))], [0, 1, 2, 3, 4, 5], none⟩,
            ⟨[(14, none)], [0, 1, 2, 3, 4, 5, 6], none⟩,
            ⟨[(65, some (7, true))], [0, 1, 2, 3, 4, 5, 6, 7], none⟩,
            ⟨[(10, none)], [0, 1, 2, 3, 4, 5, 6], none⟩,
            ⟨[(12, none)], [0, 1, 2, 3, 4, 5, 6], none⟩,
            ⟨[(67, some (9, true)), (68, some (10, true))], [0, 1, 2, 3, 4, 5, 6, 9, 10], none⟩,
            ⟨[(69, some (11, true))], [0, 1, 2, 3, 4, 5, 6, 9, 10, 11], none⟩,
            ⟨[(10, none)], [0, 1, 2, 3, 4, 5, 6], none⟩,
            ⟨[(13, none)], [0, 1, 2, 3, 4, 5, 6], none⟩,
            ⟨[(71, some (13, true)), (72, some (14, true))], [0, 1, 2, 3, 4, 5, 6, 13, 14], none⟩,
            ⟨[(73, some (15, true))], [0, 1, 2, 3, 4, 5, 6, 13, 14, 15], none⟩,
            ⟨[(70, some (12, true)), (74, some (16, true))], [0, 1, 2, 3, 4, 5, 6, 9, 10, 11, 12, 13, 14, 15, 16], none⟩,
            ⟨[(66, some (8, true)), (75, some (17, true))], [0, 1, 2, 3, 4, 5, 6, 7, 8, 9, 10, 11, 12, 13, 14, 15, 16, 17], none⟩,
            ⟨[(64, some (6, false)), (76, some (18, false))], [0, 1, 2, 3, 4, 5, 6, 7, 8, 9, 10, 11, 12, 13, 14, 15, 16, 17, 18], none⟩,
            ⟨[(77, some (19, false))], [0, 1, 2, 3, 4, 5, 6, 7, 8, 9, 10, 11, 12, 13, 14, 15, 16, 17, 18, 19], none⟩,
            ⟨[(14, none)], [0, 1, 2, 3, 4, 5, 6, 7, 8, 9, 10, 11, 12, 13, 14, 15, 16, 17, 18, 19, 20], none⟩,
            ⟨[(79, some (21, true))], [0, 1, 2, 3, 4, 5, 6, 7, 8, 9, 10, 11, 12, 13, 14, 15, 16, 17, 18, 19, 20, 21], none⟩,
            ⟨[(80, some (22, true))], [0, 1, 2, 3, 4, 5, 6, 7, 8, 9, 10, 11, 12, 13, 14, 15, 16, 17, 18, 19, 20, 21, 22], none⟩,
            ⟨[(14, none)], [0, 1, 2, 3, 4, 5, 6, 7, 8, 9, 10, 11, 12, 13, 14, 15, 16, 17, 18, 19, 20, 21, 22, 23], none⟩,
            ⟨[(82, some (24, true))], [0, 1, 2, 3, 4, 5, 6, 7, 8, 9, 10, 11, 12, 13, 14, 15, 16, 17, 18, 19, 20, 21, 22, 23, 24], none⟩,
            ⟨[(81, some (23, true)), (83, some (25, false))], [0, 1, 2, 3, 4, 5, 6, 7, 8, 9, 10, 11, 12, 13, 14, 15, 16, 17, 18, 19, 20, 21, 22, 23, 24, 25], none⟩,
            ⟨[(78, some (20, false)), (84, some (26, false))], [0, 1, 2, 3, 4, 5, 6, 7, 8, 9, 10, 11, 12, 13, 14, 15, 16, 17, 18, 19, 20, 21, 22, 23, 24, 25, 26], none⟩,
            ⟨[(85, some (27, false))], [0, 1, 2, 3, 4, 5, 6, 7, 8, 9, 10, 11, 12, 13, 14, 15, 16, 17, 18, 19, 20, 21, 22, 23, 24, 25, 26, 27], none⟩,
            ⟨[(8, none)], [0, 1, 2, 3, 4, 5, 6, 7, 8, 9, 10, 11, 12, 13, 14, 15, 16, 17, 18, 19, 20, 21, 22, 23, 24, 25, 26, 27, 28], some (0, 0, false)⟩,
            ⟨[(10, none)], [0, 1, 2, 3, 4, 5, 6, 7, 8, 9, 10, 11, 12, 13, 14, 15, 16, 17, 18, 19, 20, 21, 22, 23, 24, 25, 26, 27, 28], none⟩,
            ⟨[(10, none)], [0, 1, 2, 3, 4, 5, 6, 7, 8, 9, 10, 11, 12, 13, 14, 15, 16, 17, 18, 19, 20, 21, 22, 23, 24, 25, 26, 27, 28], none⟩,
            ⟨[(89, some (31, true))], [0, 1, 2, 3, 4, 5, 6, 7, 8, 9, 10, 11, 12, 13, 14, 15, 16, 17, 18, 19, 20, 21, 22, 23, 24, 25, 26, 27, 28, 31], none⟩,
            ⟨[(7, none)], [0, 1, 2, 3, 4, 5, 6, 7, 8, 9, 10, 11, 12, 13, 14, 15, 16, 17, 18, 19, 20, 21, 22, 23, 24, 25, 26, 27, 28], none⟩,
            ⟨[(91, some (33, true))], [0, 1, 2, 3, 4, 5, 6, 7, 8, 9, 10, 11, 12, 13, 14, 15, 16, 17, 18, 19, 20, 21, 22, 23, 24, 25, 26, 27, 28, 33], some (1, 0, false)⟩,
            ⟨[(12, none)], [0, 1, 2, 3, 4, 5, 6, 7, 8, 9, 10, 11, 12, 13, 14, 15, 16, 17, 18, 19, 20, 21, 22, 23, 24, 25, 26, 27, 28], none⟩,
            ⟨[(92, some (34, true)), (93, some (35, true))], [0, 1, 2, 3, 4, 5, 6, 7, 8, 9, 10, 11, 12, 13, 14, 15, 16, 17, 18, 19, 20, 21, 22, 23, 24, 25, 26, 27, 28, 33, 34, 35], none⟩,
            ⟨[(94, some (36, true))], [0, 1, 2, 3, 4, 5, 6, 7, 8, 9, 10, 11, 12, 13, 14, 15, 16, 17, 18, 19, 20, 21, 22, 23, 24, 25, 26, 27, 28, 33, 34, 35, 36], none⟩,
            ⟨[(87, some (29, true)), (88, some (30, true)), (90, some (32, true)), (95, some (37, true))], [0, 1, 2, 3, 4, 5, 6, 7, 8, 9, 10, 11, 12, 13, 14, 15, 16, 17, 18, 19, 20, 21, 22, 23, 24, 25, 26, 27, 28, 29, 30, 31, 32, 33, 34, 35, 36, 37], none⟩,
            ⟨[(96, some (38, true))], [0, 1, 2, 3, 4, 5, 6, 7, 8, 9, 10, 11, 12, 13, 14, 15, 16, 17, 18, 19, 20, 21, 22, 23, 24, 25, 26, 27, 28, 29, 30, 31, 32, 33, 34, 35, 36, 37, 38], none⟩,
            ⟨[(86, some (28, false)), (97, some (39, false))], [0, 1, 2, 3, 4, 5, 6, 7, 8, 9, 10, 11, 12, 13, 14, 15, 16, 17, 18, 19, 20, 21, 22, 23, 24, 25, 26, 27, 28, 29, 30, 31, 32, 33, 34, 35, 36, 37, 38, 39], none⟩,
            ⟨[(98, some (40, false))], [0, 1, 2, 3, 4, 5, 6, 7, 8, 9, 10, 11, 12, 13, 14, 15, 16, 17, 18, 19, 20, 21, 22, 23, 24, 25, 26, 27, 28, 29, 30, 31, 32, 33, 34, 35, 36, 37, 38, 39, 40], none⟩,
            ⟨[(8, none)], [0, 1, 2, 3, 4, 5, 6, 7, 8, 9, 10, 11, 12, 13, 14, 15, 16, 17, 18, 19, 20, 21, 22, 23, 24, 25, 26, 27, 28, 29, 30, 31, 32, 33, 34, 35, 36, 37, 38, 39, 40, 41], some (0, 0, false)⟩,
            ⟨[(10, none)], [0, 1, 2, 3, 4, 5, 6, 7, 8, 9, 10, 11, 12, 13, 14, 15, 16, 17, 18, 19, 20, 21, 22, 23, 24, 25, 26, 27, 28, 29, 30, 31, 32, 33, 34, 35, 36, 37, 38, 39, 40, 41], none⟩,
            ⟨[(101, some (43, true))], [0, 1, 2, 3, 4, 5, 6, 7, 8, 9, 10, 11, 12, 13, 14, 15, 16, 17, 18, 19, 20, 21, 22, 23, 24, 25, 26, 27, 28, 29, 30, 31, 32, 33, 34, 35, 36, 37, 38, 39, 40, 41, 43], none⟩,
            ⟨[(7, none)], [0, 1, 2, 3, 4, 5, 6, 7, 8, 9, 10, 11, 12, 13, 14, 15, 16, 17, 18, 19, 20, 21, 22, 23, 24, 25, 26, 27, 28, 29, 30, 31, 32, 33, 34, 35, 36, 37, 38, 39, 40, 41], none⟩,
            ⟨[(103, some (45, true))], [0, 1, 2, 3, 4, 5, 6, 7, 8, 9, 10, 11, 12, 13, 14, 15, 16, 17, 18, 19, 20, 21, 22, 23, 24, 25, 26, 27, 28, 29, 30, 31, 32, 33, 34, 35, 36, 37, 38, 39, 40, 41, 45], some (1, 0, false)⟩,
            ⟨[(12, none)], [0, 1, 2, 3, 4, 5, 6, 7, 8, 9, 10, 11, 12, 13, 14, 15, 16, 17, 18, 19, 20, 21, 22, 23, 24, 25, 26, 27, 28, 29, 30, 31, 32, 33, 34, 35, 36, 37, 38, 39, 40, 41], none⟩,
            ⟨[(104, some (46, true)), (105, some (47, true))], [0, 1, 2, 3, 4, 5, 6, 7, 8, 9, 10, 11, 12, 13, 14, 15, 16, 17, 18, 19, 20, 21, 22, 23, 24, 25, 26, 27, 28, 29, 30, 31, 32, 33, 34, 35, 36, 37, 38, 39, 40, 41, 45, 46, 47], none⟩,
            ⟨[(106, some (48, true))], [0, 1, 2, 3, 4, 5, 6, 7, 8, 9, 10, 11, 12, 13, 14, 15, 16, 17, 18, 19, 20, 21, 22, 23, 24, 25, 26, 27, 28, 29, 30, 31, 32, 33, 34, 35, 36, 37, 38, 39, 40, 41, 45, 46, 47, 48], none⟩,
            ⟨[(100, some (42, true)), (102, some (44, true)), (107, some (49, true))], [0, 1, 2, 3, 4, 5, 6, 7, 8, 9, 10, 11, 12, 13, 14, 15, 16, 17, 18, 19, 20, 21, 22, 23, 24, 25, 26, 27, 28, 29, 30, 31, 32, 33, 34, 35, 36, 37, 38, 39, 40, 41, 42, 43, 44, 45, 46, 47, 48, 49], none⟩,
            ⟨[(108, some (50, true))], [0, 1, 2, 3, 4, 5, 6, 7, 8, 9, 10, 11, 12, 13, 14, 15, 16, 17, 18, 19, 20, 21, 22, 23, 24, 25, 26, 27, 28, 29, 30, 31, 32, 33, 34, 35, 36, 37, 38, 39, 40, 41, 42, 43, 44, 45, 46, 47, 48, 49, 50], none⟩,
            ⟨[(99, some (41, false)), (109, some (51, false))], [0, 1, 2, 3, 4, 5, 6, 7, 8, 9, 10, 11, 12, 13, 14, 15, 16, 17, 18, 19, 20, 21, 22, 23, 24, 25, 26, 27, 28, 29, 30, 31, 32, 33, 34, 35, 36, 37, 38, 39, 40, 41, 42, 43, 44, 45, 46, 47, 48, 49, 50, 51], none⟩,
            ⟨[(110, some (52, false))], [0, 1, 2, 3, 4, 5, 6, 7, 8, 9, 10, 11, 12, 13, 14, 15, 16, 17, 18, 19, 20, 21, 22, 23, 24, 25, 26, 27, 28, 29, 30, 31, 32, 33, 34, 35, 36, 37, 38, 39, 40, 41, 42, 43, 44, 45, 46, 47, 48, 49, 50, 51, 52], none⟩] [_, _, _] _ rfl rfl ?_
        refine dq_pure rfl (fun s => .g rfl (.nil)) (fun s hs _ => loc_move rfl) (by first | exact .inl fun _ _ => rfl | exact .inr rfl) ?_
        refine dq_pure rfl (fun s => .op rfl (.nil)) (fun s hs _ => loc_eql rfl rfl) (by first | exact .inl fun _ _ => rfl | exact .inr rfl) ?_
        refine dq_pure rfl (fun s => .op rfl (.nil)) (fun s hs _ => loc_move rfl) (by first | exact .inl fun _ _ => rfl | exact .inr rfl) ?_
        refine dq_gpure rfl (fun s => .g rfl (.nil)) rfl (fun _ => by first | exact guard_true _ | exact guard_false _ | exact guard_if (guard_true _) | exact guard_if (guard_false _)) (fun s hs hg _ => loc_move rfl) (by first | exact .inl fun _ _ => rfl | exact .inr rfl) ?_
        refine dq_gpure rfl (fun s => .opU rfl (.nil)) rfl (fun _ => by first | exact guard_true _ | exact guard_false _ | exact guard_if (guard_true _) | exact guard_if (guard_false _)) (fun s hs hg _ => loc_eql rfl rfl) (by first | exact .inl fun _ _ => rfl | exact .inr rfl) ?_
        refine dq_pure rfl (fun s => .op rfl (.op rfl (.nil))) (fun s hs _ => loc_and rfl rfl) (by first | exact .inl fun _ _ => rfl | exact .inr rfl) ?_
        refine dq_pure rfl (fun s => .op rfl (.nil)) (fun s hs _ => loc_move rfl) (by first | exact .inl fun _ _ => rfl | exact .inr rfl) ?_
        refine dq_gpure rfl (fun s => .g rfl (.nil)) rfl (fun _ => by first | exact guard_true _ | exact guard_false _ | exact guard_if (guard_true _) | exact guard_if (guard_false _)) (fun s hs hg _ => loc_move rfl) (by first | exact .inl fun _ _ => rfl | exact .inr rfl) ?_
        refine dq_gpure rfl (fun s => .opU rfl (.nil)) rfl (fun _ => by first | exact guard_true _ | exact guard_false _ | exact guard_if (guard_true _) | exact guard_if (guard_false _)) (fun s hs hg _ => loc_eql rfl rfl) (by first | exact .inl fun _ _ => rfl | exact .inr rfl) ?_
        refine dq_gpure rfl (fun s => .g rfl (.nil)) rfl (fun _ => by first | exact guard_true _ | exact guard_false _ | exact guard_if (guard_true _) | exact guard_if (guard_false _)) (fun s hs hg _ => loc_move rfl) (by first | exact .inl fun _ _ => rfl | exact .inr rfl) ?_
        refine dq_gpure rfl (fun s => .g rfl (.nil)) rfl (fun _ => by first | exact guard_true _ | exact guard_false _ | exact guard_if (guard_true _) | exact guard_if (guard_false _)) (fun s hs hg _ => loc_move rfl) (by first | exact .inl fun _ _ => rfl | exact .inr rfl) ?_
        first | refine dq_gpure rfl (fun s => .opU rfl (.opU rfl (.nil))) rfl (fun _ => by first | exact guard_true _ | exact guard_false _ | exact guard_if (guard_true _) | exact guard_if (guard_false _)) (fun s hs hg _ => loc_index rfl rfl (by first | omega | assumption)) (by first | exact .inl fun _ _ => rfl | exact .inr rfl) ?_ | refine dq_gpure rfl (fun s => .opU rfl (.opU rfl (.nil))) rfl (fun _ => by first | exact guard_true _ | exact guard_false _ | exact guard_if (guard_true _) | exact guard_if (guard_false _)) (fun s hs hg _ => loc_indexI rfl rfl (by first | omega | assumption)) (by first | exact .inl fun _ _ => rfl | exact .inr rfl) ?_
        refine dq_gpure rfl (fun s => .opU rfl (.nil)) rfl (fun _ => by first | exact guard_true _ | exact guard_false _ | exact guard_if (guard_true _) | exact guard_if (guard_false _)) (fun s hs hg _ => loc_load1 rfl) (by first | exact .inl fun _ _ => rfl | exact .inr rfl) ?_
        refine dq_gpure rfl (fun s => .g rfl (.nil)) rfl (fun _ => by first | exact guard_true _ | exact guard_false _ | exact guard_if (guard_true _) | exact guard_if (guard_false _)) (fun s hs hg _ => loc_move rfl) (by first | exact .inl fun _ _ => rfl | exact .inr rfl) ?_
        refine dq_gpure rfl (fun s => .g rfl (.nil)) rfl (fun _ => by first | exact guard_true _ | exact guard_false _ | exact guard_if (guard_true _) | exact guard_if (guard_false _)) (fun s hs hg _ => loc_move rfl) (by first | exact .inl fun _ _ => rfl | exact .inr rfl) ?_
        first | refine dq_gpure rfl (fun s => .opU rfl (.opU rfl (.nil))) rfl (fun _ => by first | exact guard_true _ | exact guard_false _ | exact guard_if (guard_true _) | exact guard_if (guard_false _)) (fun s hs hg _ => loc_index rfl rfl (by first | omega | assumption)) (by first | exact .inl fun _ _ => rfl | exact .inr rfl) ?_ | refine dq_gpure rfl (fun s => .opU rfl (.opU rfl (.nil))) rfl (fun _ => by first | exact guard_true _ | exact guard_false _ | exact guard_if (guard_true _) | exact guard_if (guard_false _)) (fun s hs hg _ => loc_indexI rfl rfl (by first | omega | assumption)) (by first | exact .inl fun _ _ => rfl | exact .inr rfl) ?_
        refine dq_gpure rfl (fun s => .opU rfl (.nil)) rfl (fun _ => by first | exact guard_true _ | exact guard_false _ | exact guard_if (guard_true _) | exact guard_if (guard_false _)) (fun s hs hg _ => loc_load1 rfl) (by first | exact .inl fun _ _ => rfl | exact .inr rfl) ?_
        refine dq_gpure rfl (fun s => .opU rfl (.opU rfl (.nil))) rfl (fun _ => by first | exact guard_true _ | exact guard_false _ | exact guard_if (guard_true _) | exact guard_if (guard_false _)) (fun s hs hg _ => loc_eql rfl rfl) (by first | exact .inl fun _ _ => rfl | exact .inr rfl) ?_
        refine dq_gpure rfl (fun s => .opU rfl (.opU rfl (.nil))) rfl (fun _ => by first | exact guard_true _ | exact guard_false _ | exact guard_if (guard_true _) | exact guard_if (guard_false _)) (fun s hs hg _ => loc_eqlB rfl rfl) (by first | exact .inl fun _ _ => rfl | exact .inr rfl) ?_
        refine dq_pure rfl (fun s => .op rfl (.op rfl (.nil))) (fun s hs _ => loc_and rfl rfl) (by first | exact .inl fun _ _ => rfl | exact .inr rfl) ?_
        refine dq_pure rfl (fun s => .op rfl (.nil)) (fun s hs _ => loc_move rfl) (by first | exact .inl fun _ _ => rfl | exact .inr rfl) ?_
        refine dq_gpure rfl (fun s => .g rfl (.nil)) rfl (fun _ => by first | exact guard_true _ | exact guard_false _ | exact guard_if (guard_true _) | exact guard_if (guard_false _)) (fun s hs hg _ => loc_move rfl) (by first | exact .inl fun _ _ => rfl | exact .inr rfl) ?_
        refine dq_gpure rfl (fun s => .opU rfl (.nil)) rfl (fun _ => by first | exact guard_true _ | exact guard_false _ | exact guard_if (guard_true _) | exact guard_if (guard_false _)) (fun s hs hg _ => loc_eql rfl rfl) (by first | exact .inl fun _ _ => rfl | exact .inr rfl) ?_
        refine dq_gpure rfl (fun s => .opU rfl (.nil)) rfl (fun _ => by first | exact guard_true _ | exact guard_false _ | exact guard_if (guard_true _) | exact guard_if (guard_false _)) (fun s hs hg _ => loc_move rfl) (by first | exact .inl fun _ _ => rfl | exact .inr rfl) ?_
        refine dq_gpure rfl (fun s => .g rfl (.nil)) rfl (fun _ => by first | exact guard_true _ | exact guard_false _ | exact guard_if (guard_true _) | exact guard_if (guard_false _)) (fun s hs hg _ => loc_move rfl) (by first | exact .inl fun _ _ => rfl | exact .inr rfl) ?_
        refine dq_gpure rfl (fun s => .opU rfl (.nil)) rfl (fun _ => by first | exact guard_true _ | exact guard_false _ | exact guard_if (guard_true _) | exact guard_if (guard_false _)) (fun s hs hg _ => loc_eql rfl rfl) (by first | exact .inl fun _ _ => rfl | exact .inr rfl) ?_
        first | refine dq_gpure rfl (fun s => .opU rfl (.op rfl (.nil))) rfl (fun _ => by first | exact guard_true _ | exact guard_false _ | exact guard_if (guard_true _) | exact guard_if (guard_false _)) (fun s hs hg _ => loc_or rfl rfl) (by first | exact .inl fun _ _ => rfl | exact .inr rfl) ?_ | refine dq_gpure rfl (fun s => .opU rfl (.op rfl (.nil))) rfl (fun _ => by first | exact guard_true _ | exact guard_false _ | exact guard_if (guard_true _) | exact guard_if (guard_false _)) (fun s hs hg _ => loc_orG hg rfl rfl) (by first | exact .inl fun _ _ => rfl | exact .inr rfl) ?_
        refine dq_pure rfl (fun s => .op rfl (.op rfl (.nil))) (fun s hs _ => loc_and rfl rfl) (by first | exact .inl fun _ _ => rfl | exact .inr rfl) ?_
        refine dq_pure rfl (fun s => .op rfl (.nil)) (fun s hs _ => loc_move rfl) (by first | exact .inl fun _ _ => rfl | exact .inr rfl) ?_
        refine dq_gread rfl (fun s => .g rfl (.nil)) rfl rfl rfl (fun _ => by first | exact guard_true _ | exact guard_false _ | exact guard_if (guard_true _) | exact guard_if (guard_false _)) (fun s hs hg _ hm => loc_loadOwnN rfl hm (by rfl)) (by first | exact .inl fun _ _ => rfl | exact .inr rfl) ?_
        refine dq_gpure rfl (fun s => .g rfl (.nil)) rfl (fun _ => by first | exact guard_true _ | exact guard_false _ | exact guard_if (guard_true _) | exact guard_if (guard_false _)) (fun s hs hg _ => loc_move rfl) (by first | exact .inl fun _ _ => rfl | exact .inr rfl) ?_
        refine dq_gpure rfl (fun s => .g rfl (.nil)) rfl (fun _ => by first | exact guard_true _ | exact guard_false _ | exact guard_if (guard_true _) | exact guard_if (guard_false _)) (fun s hs hg _ => loc_move rfl) (by first | exact .inl fun _ _ => rfl | exact .inr rfl) ?_
        refine dq_gpure rfl (fun s => .opU rfl (.nil)) rfl (fun _ => by first | exact guard_true _ | exact guard_false _ | exact guard_if (guard_true _) | exact guard_if (guard_false _)) (fun s hs hg _ => loc_len rfl) (by first | exact .inl fun _ _ => rfl | exact .inr rfl) ?_
        refine dq_gpure rfl (fun s => .g rfl (.nil)) rfl (fun _ => by first | exact guard_true _ | exact guard_false _ | exact guard_if (guard_true _) | exact guard_if (guard_false _)) (fun s hs hg _ => loc_fieldAddrOwn rfl) (by first | exact .inl fun _ _ => rfl | exact .inr rfl) ?_
        refine dq_gread rfl (fun s => .opU rfl (.nil)) rfl rfl rfl (fun _ => by first | exact guard_true _ | exact guard_false _ | exact guard_if (guard_true _) | exact guard_if (guard_false _)) (fun s hs hg _ hm => loc_loadOwn1 rfl hm (by rfl)) (by first | exact .inl fun _ _ => rfl | exact .inr rfl) ?_
        refine dq_gpure rfl (fun s => .g rfl (.nil)) rfl (fun _ => by first | exact guard_true _ | exact guard_false _ | exact guard_if (guard_true _) | exact guard_if (guard_false _)) (fun s hs hg _ => loc_move rfl) (by first | exact .inl fun _ _ => rfl | exact .inr rfl) ?_
        first | refine dq_gpure rfl (fun s => .opU rfl (.opU rfl (.nil))) rfl (fun _ => by first | exact guard_true _ | exact guard_false _ | exact guard_if (guard_true _) | exact guard_if (guard_false _)) (fun s hs hg _ => loc_index rfl rfl (by first | omega | assumption)) (by first | exact .inl fun _ _ => rfl | exact .inr rfl) ?_ | refine dq_gpure rfl (fun s => .opU rfl (.opU rfl (.nil))) rfl (fun _ => by first | exact guard_true _ | exact guard_false _ | exact guard_if (guard_true _) | exact guard_if (guard_false _)) (fun s hs hg _ => loc_indexI rfl rfl (by first | omega | assumption)) (by first | exact .inl fun _ _ => rfl | exact .inr rfl) ?_
        refine dq_gpure rfl (fun s => .opU rfl (.nil)) rfl (fun _ => by first | exact guard_true _ | exact guard_false _ | exact guard_if (guard_true _) | exact guard_if (guard_false _)) (fun s hs hg _ => loc_load1 rfl) (by first | exact .inl fun _ _ => rfl | exact .inr rfl) ?_
        refine dq_gpure rfl (fun s => .opU rfl (.opU rfl (.opU rfl (.opU rfl (.nil))))) rfl (fun _ => by first | exact guard_true _ | exact guard_false _ | exact guard_if (guard_true _) | exact guard_if (guard_false _)) (fun s hs hg _ => loc_call (verify_spec _ _ _ _) rfl) (by first | exact .inl fun _ _ => rfl | exact .inr rfl) ?_
        refine dq_gpure rfl (fun s => .opU rfl (.nil)) rfl (fun _ => by first | exact guard_true _ | exact guard_false _ | exact guard_if (guard_true _) | exact guard_if (guard_false _)) (fun s hs hg _ => loc_eql rfl rfl) (by first | exact .inl fun _ _ => rfl | exact .inr rfl) ?_
        refine dq_pure rfl (fun s => .op rfl (.op rfl (.nil))) (fun s hs _ => loc_and rfl rfl) (by first | exact .inl fun _ _ => rfl | exact .inr rfl) ?_
        refine dq_pure rfl (fun s => .op rfl (.nil)) (fun s hs _ => loc_move rfl) (by first | exact .inl fun _ _ => rfl | exact .inr rfl) ?_
        refine dq_gread rfl (fun s => .g rfl (.nil)) rfl rfl rfl (fun _ => by first | exact guard_true _ | exact guard_false _ | exact guard_if (guard_true _) | exact guard_if (guard_false _)) (fun s hs hg _ hm => loc_loadOwnN rfl hm (by rfl)) (by first | exact .inl fun _ _ => rfl | exact .inr rfl) ?_
        refine dq_gpure rfl (fun s => .g rfl (.nil)) rfl (fun _ => by first | exact guard_true _ | exact guard_false _ | exact guard_if (guard_true _) | exact guard_if (guard_false _)) (fun s hs hg _ => loc_move rfl) (by first | exact .inl fun _ _ => rfl | exact .inr rfl) ?_
        refine dq_gpure rfl (fun s => .opU rfl (.nil)) rfl (fun _ => by first | exact guard_true _ | exact guard_false _ | exact guard_if (guard_true _) | exact guard_if (guard_false _)) (fun s hs hg _ => loc_sliceFrom rfl rfl (by first | omega | assumption)) (by first | exact .inl fun _ _ => rfl | exact .inr rfl) ?_
        refine dq_gpure rfl (fun s => .g rfl (.nil)) rfl (fun _ => by first | exact guard_true _ | exact guard_false _ | exact guard_if (guard_true _) | exact guard_if (guard_false _)) (fun s hs hg _ => loc_fieldAddrOwn rfl) (by first | exact .inl fun _ _ => rfl | exact .inr rfl) ?_
        refine dq_gread rfl (fun s => .opU rfl (.nil)) rfl rfl rfl (fun _ => by first | exact guard_true _ | exact guard_false _ | exact guard_if (guard_true _) | exact guard_if (guard_false _)) (fun s hs hg _ hm => loc_loadOwn1 rfl hm (by rfl)) (by first | exact .inl fun _ _ => rfl | exact .inr rfl) ?_
        refine dq_gpure rfl (fun s => .g rfl (.nil)) rfl (fun _ => by first | exact guard_true _ | exact guard_false _ | exact guard_if (guard_true _) | exact guard_if (guard_false _)) (fun s hs hg _ => loc_move rfl) (by first | exact .inl fun _ _ => rfl | exact .inr rfl) ?_
        first | refine dq_gpure rfl (fun s => .opU rfl (.opU rfl (.nil))) rfl (fun _ => by first | exact guard_true _ | exact guard_false _ | exact guard_if (guard_true _) | exact guard_if (guard_false _)) (fun s hs hg _ => loc_index rfl rfl (by first | omega | assumption)) (by first | exact .inl fun _ _ => rfl | exact .inr rfl) ?_ | refine dq_gpure rfl (fun s => .opU rfl (.opU rfl (.nil))) rfl (fun _ => by first | exact guard_true _ | exact guard_false _ | exact guard_if (guard_true _) | exact guard_if (guard_false _)) (fun s hs hg _ => loc_indexI rfl rfl (by first | omega | assumption)) (by first | exact .inl fun _ _ => rfl | exact .inr rfl) ?_
        refine dq_gpure rfl (fun s => .opU rfl (.nil)) rfl (fun _ => by first | exact guard_true _ | exact guard_false _ | exact guard_if (guard_true _) | exact guard_if (guard_false _)) (fun s hs hg _ => loc_load1 rfl) (by first | exact .inl fun _ _ => rfl | exact .inr rfl) ?_
        refine dq_gpure rfl (fun s => .opU rfl (.opU rfl (.opU rfl (.nil)))) rfl (fun _ => by first | exact guard_true _ | exact guard_false _ | exact guard_if (guard_true _) | exact guard_if (guard_false _)) (fun s hs hg _ => loc_call (verify_spec _ _ _ _) rfl) (by first | exact .inl fun _ _ => rfl | exact .inr rfl) ?_
        refine dq_gpure rfl (fun s => .opU rfl (.nil)) rfl (fun _ => by first | exact guard_true _ | exact guard_false _ | exact guard_if (guard_true _) | exact guard_if (guard_false _)) (fun s hs hg _ => loc_eql rfl rfl) (by first | exact .inl fun _ _ => rfl | exact .inr rfl) ?_
        refine dq_pure rfl (fun s => .op rfl (.op rfl (.nil))) (fun s hs _ => loc_and rfl rfl) (by first | exact .inl fun _ _ => rfl | exact .inr rfl) ?_
        refine dq_pure rfl (fun s => .op rfl (.nil)) (fun s hs _ => loc_assign rfl) (by first | exact .inl fun _ _ => rfl | exact .inr rfl) ?_
        refine dq_end (rs := [_, _, _]) () rfl (fun _ => rfl) (fun _ _ => trivial) rfl (fun _ _ => ?_)
        dsimp only [outG, outM, List.map, List.set]
        refine run_drop (.cons _ (.cons _ (.cons _ (.refl _)))) ?_
        refine run_retP Try.func5 rfl rfl ?_
        exact d_B ⟨fun _ => trivial, fun _ => index_law hx ⟨hia, hib⟩ ⟨hka, hkb⟩⟩

end Go.Q
