/- The law of rows that pass, and of rows that were changed. -/
import Derived.Test.YtipjijlfpnjjfaaQSpecG
import Derived.Test.YtipjijlfpnjjfaaQKit10
import Derived.Test.YtipjijlfpnjjfaaQPlainD
set_option linter.unusedVariables false
set_option linter.unusedSimpArgs false
namespace Go.Q
open Go.Proofs

open Classical
theorem tableProves_spec (ts : List Int) (a m : Int) (ha : 0 ≤ a ∧ a ≤ 255) : SpecP Try.prog 6 [dInts ts, dInt .u8 a, dInt .i64 m] (dB True) := by
  refine specP_of_body Try.func6 rfl rfl (fun I M => ?_)
  refine run_seq ?_
  refine run_region ?_
  refine run_op (loc_assign rfl) rfl ?_
  refine run_nil ?_
  refine run_seq ?_
  refine run_seq ?_
  refine run_region ?_
  refine run_op (loc_call (sane_spec) rfl) rfl ?_
  refine run_op (loc_not rfl) rfl ?_
  refine run_nil ?_
  refine run_cond rfl (fun h1 => ?_) (fun h1 => ?_)
  · exfalso; exact h1 trivial
  ·
    refine run_skip ?_
    refine run_seq ?_
    refine run_seq ?_
    refine run_region ?_
    refine run_op (loc_move rfl) rfl ?_
    refine run_op (loc_call (few_spec _) rfl) rfl ?_
    refine run_op (loc_not rfl) rfl ?_
    refine run_nil ?_
    refine run_cond rfl (fun h2 => ?_) (fun h2 => ?_)
    ·
      refine run_seq ?_
      refine run_region ?_
      refine run_op (loc_assign rfl) rfl ?_
      refine run_nil ?_
      refine run_retP Try.func6 rfl rfl ?_
      exact d_B Iff.rfl
    ·
      refine run_skip ?_
      refine run_seq ?_
      refine run_region ?_
      refine run_op (loc_move rfl) rfl ?_
      refine run_callN rfl (deck_spec _) rfl (fun v3 hv3 => ?_)
      refine run_op (loc_assign rfl) rfl ?_
      refine run_nil ?_
      refine run_seq ?_
      refine run_region ?_
      refine run_op (loc_move rfl) rfl ?_
      refine run_callM rfl (by first | exact .here | exact .there .here | exact .there (.there .here) | exact .there (.there (.there .here)) | exact .there (.there (.there (.there .here))) | exact .there (.there (.there (.there (.there .here))))) (mtab_spec _ ⟨ts, 0⟩) rfl (fun s4 hs4 => ?_)
      refine run_new (loc_allocOwn (by simp)) rfl (fun b5 _ => ?_)
      refine run_storeN (ho := (by show OneAll [_, _, _, _]; infer_instance)) rfl rfl (by first | exact .here | exact .there .here | exact .there (.there .here) | exact .there (.there (.there .here)) | exact .there (.there (.there (.there .here))) | exact .there (.there (.there (.there (.there .here))))) (by rfl) ?_
      refine run_nil ?_
      refine run_freezeCells (s := 8) rfl (by first | exact .here | exact .there .here | exact .there (.there .here) | exact .there (.there (.there .here)) | exact .there (.there (.there (.there .here))) | exact .there (.there (.there (.there (.there .here))))) ?_
      have hx := Dk.tab_ok ⟨ts, 0⟩
      have hr := Dk.tab_rows ⟨ts, 0⟩
      generalize Dk.tab ⟨ts, 0⟩ = x at *
      generalize Dk.tab4 ⟨ts, 0⟩ = d0 at *
      have hxc := checkT_ok hx
      have hw := hxc.2.2.1
      have hp : 2 ≤ x.p ∧ x.p ≤ 65521 := ⟨hxc.2.1.1, hxc.2.1.2.1⟩
      have hdl := digs_len hx
      have hhx : (headT x).count = x.rows.length := by rw [head_ok hx]
      refine run_drop (.cons _ (.refl _)) ?_
      refine run_seq ?_
      refine run_region ?_
      refine run_op (loc_loadN rfl rfl) rfl ?_
      refine run_op (loc_call (head_spec x) rfl) rfl ?_
      refine run_op (loc_move rfl) rfl ?_
      refine run_op (loc_extract rfl rfl) rfl ?_
      refine run_op (loc_extract rfl rfl) rfl ?_
      refine run_new (loc_allocOwn (by simp)) rfl (fun b6 _ => ?_)
      refine run_storeN (ho := (by show OneAll [_, _, _, _, _]; infer_instance)) rfl rfl (by first | exact .here | exact .there .here | exact .there (.there .here) | exact .there (.there (.there .here)) | exact .there (.there (.there (.there .here))) | exact .there (.there (.there (.there (.there .here))))) (by rfl) ?_
      refine run_op (loc_assign rfl) rfl ?_
      refine run_nil ?_
      refine run_freezeCells (s := 9) rfl (by first | exact .here | exact .there .here | exact .there (.there .here) | exact .there (.there (.there .here)) | exact .there (.there (.there (.there .here))) | exact .there (.there (.there (.there (.there .here))))) ?_
      refine run_seq ?_
      refine run_region ?_
      refine run_op (loc_loadN rfl rfl) rfl ?_
      refine run_op (loc_call (digests_spec x) rfl) rfl ?_
      refine run_op (loc_move rfl) rfl ?_
      refine run_op (loc_extract rfl rfl) rfl ?_
      refine run_op (loc_extract rfl rfl) rfl ?_
      refine run_op (loc_assign rfl) rfl ?_
      refine run_op (loc_assign rfl) rfl ?_
      refine run_nil ?_
      refine run_seq ?_
      refine run_seq ?_
      refine run_region ?_
      refine run_op (loc_move rfl) rfl ?_
      refine run_op (loc_neq rfl rfl) rfl ?_
      refine run_op (loc_move rfl) rfl ?_
      refine run_gfirst rfl rfl (by first | exact guard_true _ | exact guard_false _ | exact guard_if (guard_true _) | exact guard_if (guard_false _)) (fun hg => loc_move rfl) rfl ?_
      refine run_gop rfl rfl (by first | exact guard_true _ | exact guard_false _ | exact guard_if (guard_true _) | exact guard_if (guard_false _)) (fun hg => loc_neq rfl rfl) rfl ?_
      refine run_gleave ?_
      refine run_op (loc_or rfl rfl) rfl ?_
      refine run_op (loc_move rfl) rfl ?_
      refine run_gfirst rfl rfl (by first | exact guard_true _ | exact guard_false _ | exact guard_if (guard_true _) | exact guard_if (guard_false _)) (fun hg => loc_move rfl) rfl ?_
      refine run_gop rfl rfl (by first | exact guard_true _ | exact guard_false _ | exact guard_if (guard_true _) | exact guard_if (guard_false _)) (fun hg => loc_len rfl) rfl ?_
      refine run_gop rfl rfl (by first | exact guard_true _ | exact guard_false _ | exact guard_if (guard_true _) | exact guard_if (guard_false _)) (fun hg => loc_fieldAddr rfl) rfl ?_
      refine run_gop rfl rfl (by first | exact guard_true _ | exact guard_false _ | exact guard_if (guard_true _) | exact guard_if (guard_false _)) (fun hg => loc_load1 rfl) rfl ?_
      refine run_gop rfl rfl (by first | exact guard_true _ | exact guard_false _ | exact guard_if (guard_true _) | exact guard_if (guard_false _)) (fun hg => loc_len rfl) rfl ?_
      refine run_gop rfl rfl (by first | exact guard_true _ | exact guard_false _ | exact guard_if (guard_true _) | exact guard_if (guard_false _)) (fun hg => loc_neq rfl rfl) rfl ?_
      refine run_gleave ?_
      refine run_op (loc_or rfl rfl) rfl ?_
      refine run_op (loc_move rfl) rfl ?_
      refine run_gfirst rfl rfl (by first | exact guard_true _ | exact guard_false _ | exact guard_if (guard_true _) | exact guard_if (guard_false _)) (fun hg => loc_fieldAddr rfl) rfl ?_
      refine run_gop rfl rfl (by first | exact guard_true _ | exact guard_false _ | exact guard_if (guard_true _) | exact guard_if (guard_false _)) (fun hg => loc_load1 rfl) rfl ?_
      refine run_gop rfl rfl (by first | exact guard_true _ | exact guard_false _ | exact guard_if (guard_true _) | exact guard_if (guard_false _)) (fun hg => loc_fieldAddr rfl) rfl ?_
      refine run_gop rfl rfl (by first | exact guard_true _ | exact guard_false _ | exact guard_if (guard_true _) | exact guard_if (guard_false _)) (fun hg => loc_load1 rfl) rfl ?_
      refine run_gop rfl rfl (by first | exact guard_true _ | exact guard_false _ | exact guard_if (guard_true _) | exact guard_if (guard_false _)) (fun hg => loc_len rfl) rfl ?_
      refine run_gop rfl rfl (by first | exact guard_true _ | exact guard_false _ | exact guard_if (guard_true _) | exact guard_if (guard_false _)) (fun hg => loc_neq rfl rfl) rfl ?_
      refine run_gleave ?_
      refine run_op (loc_or rfl rfl) rfl ?_
      refine run_op (loc_move rfl) rfl ?_
      refine run_gfirst rfl rfl (by first | exact guard_true _ | exact guard_false _ | exact guard_if (guard_true _) | exact guard_if (guard_false _)) (fun hg => loc_loadN rfl rfl) rfl ?_
      refine run_gop rfl rfl (by first | exact guard_true _ | exact guard_false _ | exact guard_if (guard_true _) | exact guard_if (guard_false _)) (fun hg => loc_move rfl) rfl ?_
      refine run_gop rfl rfl (by first | exact guard_true _ | exact guard_false _ | exact guard_if (guard_true _) | exact guard_if (guard_false _)) (fun hg => loc_call (holds_spec _ _) rfl) rfl ?_
      refine run_gop rfl rfl (by first | exact guard_true _ | exact guard_false _ | exact guard_if (guard_true _) | exact guard_if (guard_false _)) (fun hg => loc_neq rfl rfl) rfl ?_
      refine run_gleave ?_
      refine run_op (loc_or rfl rfl) rfl ?_
      refine run_nil ?_
      refine run_cond rfl (fun h7 => ?_) (fun h7 => ?_)
      · exfalso; have e1 : ((digs x).length : Int) = x.rows.length := (by rw [hdl]); simp [hx, e1, hhx, holds_ok hx] at h7
      ·
        refine run_skip ?_
        refine run_seq ?_
        refine run_seq ?_
        refine run_region ?_
        refine run_op (loc_fieldAddr rfl) rfl ?_
        refine run_op (loc_load1 rfl) rfl ?_
        refine run_op (loc_len rfl) rfl ?_
        refine run_op (loc_move rfl) rfl ?_
        refine run_nil ?_
        refine run_block ?_
        refine run_loop' (σ := Nat) (fun k => [(1, dInt .u8 a), (2, dInt .i64 m), (8, dBox [dInt .i64 x.number, dInt .i64 x.p, dInt .i64 x.width, dRows x.rows]), (9, dBox [dInt .i64 (headT x).number, dInt .i64 (headT x).p, dInt .i64 (headT x).count, dInt .i64 (headT x).width, dInt .i64 (headT x).root]), (11, dInts (digs x)), (66, dRows x.rows), (67, dInt .i64 x.rows.length), (68, dInt .i64 (k : Nat))]) (fun k => M) (fun k => k ≤ x.rows.length) (fun k => x.rows.length - k) (0) (Nat.zero_le _) (.cons rfl (by first | exact fun _ _ h => h | exact d_int (by omega) | exact d_int (by simp) | exact d_intN (by omega) | exact d_any) (.cons rfl (by first | exact fun _ _ h => h | exact d_int (by omega) | exact d_int (by simp) | exact d_intN (by omega) | exact d_any) (.cons rfl (by first | exact fun _ _ h => h | exact d_int (by omega) | exact d_int (by simp) | exact d_intN (by omega) | exact d_any) (.cons rfl (by first | exact fun _ _ h => h | exact d_int (by omega) | exact d_int (by simp) | exact d_intN (by omega) | exact d_any) (.cons rfl (by first | exact fun _ _ h => h | exact d_int (by omega) | exact d_int (by simp) | exact d_intN (by omega) | exact d_any) (.cons rfl (by first | exact fun _ _ h => h | exact d_int (by omega) | exact d_int (by simp) | exact d_intN (by omega) | exact d_any) (.cons rfl (by first | exact fun _ _ h => h | exact d_int (by omega) | exact d_int (by simp) | exact d_intN (by omega) | exact d_any) (.cons rfl (by first | exact fun _ _ h => h | exact d_int (by omega) | exact d_int (by simp) | exact d_intN (by omega) | exact d_any) .nil)))))))) rfl ?_
        intro k hk0 ih8
        refine run_seq ?_
        refine run_region ?_
        refine run_op (loc_lss rfl rfl) rfl ?_
        refine run_nil ?_
        refine run_seq ?_
        refine run_cond rfl (fun h9 => ?_) (fun h9 => ?_)
        ·
          refine run_skip ?_
          refine run_seq ?_
          refine run_block ?_
          refine run_seq ?_
          refine run_region ?_
          refine run_op (loc_move rfl) rfl ?_
          first | refine run_op (loc_index rfl rfl (by first | omega | assumption)) rfl ?_ | refine run_op (loc_indexI rfl rfl (by first | omega | assumption)) rfl ?_
          refine run_op (loc_load1 rfl) rfl ?_
          refine run_op (loc_assign rfl) rfl ?_
          refine run_op (loc_assign rfl) rfl ?_
          refine run_nil ?_
          refine run_seq ?_
          have hk : k < x.rows.length := by omega
          have hrow := hr.2 _ (getD_mem hk)
          refine run_region ?_
          refine run_op (loc_loadN rfl rfl) rfl ?_
          refine run_op (loc_move rfl) rfl ?_
          refine run_callN rfl (rowTM_spec x _) rfl (fun v10 hv10 => ?_)
          refine run_op (loc_move rfl) rfl ?_
          refine run_op (loc_extract rfl rfl) rfl ?_
          refine run_op (loc_extract rfl rfl) rfl ?_
          refine run_op (loc_assign rfl) rfl ?_
          refine run_op (loc_assign rfl) rfl ?_
          refine run_nil ?_
          rw [(rowT_at hx hk).1, (rowT_at hx hk).2]
          refine run_rowForm .here (by omega) (fun bq cq hvq => ?_)
          subst hvq
          refine run_seq ?_
          refine run_seq ?_
          refine run_region ?_
          refine run_op (loc_move rfl) rfl ?_
          refine run_op (loc_neq rfl rfl) rfl ?_
          refine run_op (loc_move rfl) rfl ?_
          refine run_gfirst rfl rfl (by first | exact guard_true _ | exact guard_false _ | exact guard_if (guard_true _) | exact guard_if (guard_false _)) (fun hg => loc_move rfl) rfl ?_
          refine run_gop rfl rfl (by first | exact guard_true _ | exact guard_false _ | exact guard_if (guard_true _) | exact guard_if (guard_false _)) (fun hg => loc_move rfl) rfl ?_
          refine run_gop rfl rfl (by first | exact guard_true _ | exact guard_false _ | exact guard_if (guard_true _) | exact guard_if (guard_false _)) (fun hg => loc_callB (same_spec _ _) rfl (.same (.row (by first | exact .here | exact .there .here | exact .there (.there .here) | exact .there (.there (.there .here)) | exact .there (.there (.there (.there .here))) | exact .there (.there (.there (.there (.there .here))))) .nil))) rfl ?_
          refine run_gop rfl rfl (by first | exact guard_true _ | exact guard_false _ | exact guard_if (guard_true _) | exact guard_if (guard_false _)) (fun hg => loc_not rfl) rfl ?_
          refine run_gleave ?_
          refine run_op (loc_or rfl rfl) rfl ?_
          refine run_op (loc_move rfl) rfl ?_
          refine run_gfirst rfl rfl (by first | exact guard_true _ | exact guard_false _ | exact guard_if (guard_true _) | exact guard_if (guard_false _)) (fun hg => loc_loadN rfl rfl) rfl ?_
          refine run_gop rfl rfl (by first | exact guard_true _ | exact guard_false _ | exact guard_if (guard_true _) | exact guard_if (guard_false _)) (fun hg => loc_move rfl) rfl ?_
          refine run_gop rfl rfl (by first | exact guard_true _ | exact guard_false _ | exact guard_if (guard_true _) | exact guard_if (guard_false _)) (fun hg => loc_move rfl) rfl ?_
          refine run_gop rfl rfl (by first | exact guard_true _ | exact guard_false _ | exact guard_if (guard_true _) | exact guard_if (guard_false _)) (fun hg => loc_move rfl) rfl ?_
          refine run_gop rfl rfl (by first | exact guard_true _ | exact guard_false _ | exact guard_if (guard_true _) | exact guard_if (guard_false _)) (fun hg => loc_callB (verify_spec _ _ _ _) rfl (.same (.same (.same (.row (by first | exact .here | exact .there .here | exact .there (.there .here) | exact .there (.there (.there .here)) | exact .there (.there (.there (.there .here))) | exact .there (.there (.there (.there (.there .here))))) .nil))))) rfl ?_
          refine run_gop rfl rfl (by first | exact guard_true _ | exact guard_false _ | exact guard_if (guard_true _) | exact guard_if (guard_false _)) (fun hg => loc_neq rfl rfl) rfl ?_
          refine run_gleave ?_
          refine run_op (loc_or rfl rfl) rfl ?_
          refine run_nil ?_
          refine run_cond rfl (fun h11 => ?_) (fun h11 => ?_)
          · exfalso; simp [verify_self hx k hk k hk] at h11
          ·
            refine run_skip ?_
            refine run_seq ?_
            have hm1 := Int.emod_nonneg a (b := (x.rows[k]?.getD default).length) (by omega)
            have hm2 := Int.emod_lt_of_pos a (b := (x.rows[k]?.getD default).length) (by omega)
            refine run_region ?_
            refine run_op (loc_move rfl) rfl ?_
            first | refine run_op (loc_conv rfl (by first | omega | assumption)) rfl ?_ | refine run_op (loc_convW rfl) rfl ?_
            refine run_op (loc_move rfl) rfl ?_
            refine run_op (loc_lenRow rfl (by first | exact .here | exact .there .here | exact .there (.there .here) | exact .there (.there (.there .here)) | exact .there (.there (.there (.there .here))) | exact .there (.there (.there (.there (.there .here)))))) rfl ?_
            first | refine run_op (loc_rem rfl rfl (by first | omega | assumption)) rfl ?_ | refine run_op (loc_remW rfl rfl (by first | omega | assumption)) rfl ?_
            refine run_op (loc_assign rfl) rfl ?_
            refine run_nil ?_
            refine run_seq ?_
            have hb1 := Int.emod_nonneg m (b := x.p) (by omega)
            have hb2 := Int.emod_lt_of_pos m (b := x.p) (by omega)
            refine run_region ?_
            refine run_op (loc_move rfl) rfl ?_
            refine run_op (loc_move rfl) rfl ?_
            refine run_op (loc_move rfl) rfl ?_
            refine run_op (loc_fieldAddr rfl) rfl ?_
            refine run_op (loc_fieldAddr rfl) rfl ?_
            refine run_op (loc_load1 rfl) rfl ?_
            refine run_op (loc_call (mmod_spec _ _ (by omega)) rfl) rfl ?_
            first | refine run_op (loc_indexRow rfl rfl (by first | omega | assumption)) rfl ?_ | refine run_op (loc_indexRowI rfl rfl (by first | omega | assumption)) rfl ?_
            refine run_storeRow1 rfl (by first | exact .here | exact .there .here | exact .there (.there .here) | exact .there (.there (.there .here)) | exact .there (.there (.there (.there .here))) | exact .there (.there (.there (.there (.there .here))))) rfl (by rfl) (by first | omega | assumption) ?_
            refine run_nil ?_
            refine run_seq ?_
            have hls : ((x.rows[k]?.getD default).set (a % (x.rows[k]?.getD default).length).toNat (m % x.p)).length = (x.rows[k]?.getD default).length := List.length_set ..
            refine dr_start (Unit) (fun _ => True) 16 [⟨[(9, none)], [], none⟩,
                ⟨[(11, none)], [], none⟩,
                ⟨[(13, none)], [], none⟩,
                ⟨[(15, none)], [], none⟩,
                ⟨[(108, some (0, false)), (109, some (1, false)), (110, some (2, false)), (111, some (3, false))], [0, 1, 2, 3], some (0, 0, false)⟩,
                ⟨[(112, some (4, false))], [0, 1, 2, 3, 4], none⟩,
                ⟨[(15, none)], [], none⟩,
                ⟨[(17, none)], [], none⟩,
                ⟨[(114, some (6, false)), (115, some (7, false))], [6, 7], none⟩,
                ⟨[(116, some (8, false))], [6, 7, 8], some (0, 0, false)⟩,
                ⟨[(14, none)], [], none⟩,
                ⟨[(17, none)], [], none⟩,
                ⟨[(118, some (10, false)), (119, some (11, false))], [10, 11], none⟩,
                ⟨[(120, some (12, false))], [10, 11, 12], none⟩,
                ⟨[(117, some (9, false)), (121, some (13, false))], [6, 7, 8, 9, 10, 11, 12, 13], none⟩,
                ⟨[(113, some (5, false)), (122, some (14, false))], [0, 1, 2, 3, 4, 5, 6, 7, 8, 9, 10, 11, 12, 13, 14], none⟩] [_] _ rfl rfl ?_
            refine dq_pure rfl (fun s => .g rfl (.nil)) (fun s hs _ => loc_loadN rfl rfl) (by first | exact .inl fun _ _ => rfl | exact .inr rfl) ?_
            refine dq_pure rfl (fun s => .g rfl (.nil)) (fun s hs _ => loc_move rfl) (by first | exact .inl fun _ _ => rfl | exact .inr rfl) ?_
            refine dq_pure rfl (fun s => .g rfl (.nil)) (fun s hs _ => loc_move rfl) (by first | exact .inl fun _ _ => rfl | exact .inr rfl) ?_
            refine dq_pure rfl (fun s => .g rfl (.nil)) (fun s hs _ => loc_move rfl) (by first | exact .inl fun _ _ => rfl | exact .inr rfl) ?_
            refine dq_read rfl (fun s => .op rfl (.op rfl (.op rfl (.op rfl (.nil))))) rfl rfl (fun s hs _ hm => loc_callB (verify_spec _ _ _ _) rfl (.same (.same (.same (.row hm .nil))))) (by first | exact .inl fun _ _ => rfl | exact .inr rfl) ?_
            refine dq_pure rfl (fun s => .op rfl (.nil)) (fun s hs _ => loc_eql rfl rfl) (by first | exact .inl fun _ _ => rfl | exact .inr rfl) ?_
            refine dq_pure rfl (fun s => .g rfl (.nil)) (fun s hs _ => loc_move rfl) (by first | exact .inl fun _ _ => rfl | exact .inr rfl) ?_
            refine dq_pure rfl (fun s => .g rfl (.nil)) (fun s hs _ => loc_move rfl) (by first | exact .inl fun _ _ => rfl | exact .inr rfl) ?_
            first | refine dq_pure rfl (fun s => .op rfl (.op rfl (.nil))) (fun s hs _ => loc_indexRow rfl rfl (by first | omega | assumption)) (by first | exact .inl fun _ _ => rfl | exact .inr rfl) ?_ | refine dq_pure rfl (fun s => .op rfl (.op rfl (.nil))) (fun s hs _ => loc_indexRowI rfl rfl (by first | omega | assumption)) (by first | exact .inl fun _ _ => rfl | exact .inr rfl) ?_
            refine dq_read rfl (fun s => .op rfl (.nil)) rfl rfl (fun s hs _ hm => loc_loadRow1 rfl hm (by first | omega | assumption)) (by first | exact .inl fun _ _ => rfl | exact .inr rfl) ?_
            refine dq_pure rfl (fun s => .g rfl (.nil)) (fun s hs _ => loc_move rfl) (by first | exact .inl fun _ _ => rfl | exact .inr rfl) ?_
            refine dq_pure rfl (fun s => .g rfl (.nil)) (fun s hs _ => loc_move rfl) (by first | exact .inl fun _ _ => rfl | exact .inr rfl) ?_
            first | refine dq_pure rfl (fun s => .op rfl (.op rfl (.nil))) (fun s hs _ => loc_index rfl rfl (by first | omega | assumption)) (by first | exact .inl fun _ _ => rfl | exact .inr rfl) ?_ | refine dq_pure rfl (fun s => .op rfl (.op rfl (.nil))) (fun s hs _ => loc_indexI rfl rfl (by first | omega | assumption)) (by first | exact .inl fun _ _ => rfl | exact .inr rfl) ?_
            refine dq_pure rfl (fun s => .op rfl (.nil)) (fun s hs _ => loc_load1 rfl) (by first | exact .inl fun _ _ => rfl | exact .inr rfl) ?_
            refine dq_pure rfl (fun s => .op rfl (.op rfl (.nil))) (fun s hs _ => loc_eql rfl rfl) (by first | exact .inl fun _ _ => rfl | exact .inr rfl) ?_
            refine dq_pure rfl (fun s => .op rfl (.op rfl (.nil))) (fun s hs _ => loc_neqB rfl rfl) (by first | exact .inl fun _ _ => rfl | exact .inr rfl) ?_
            refine dq_end (rs := [_]) () rfl (fun _ => rfl) (fun _ _ => trivial) rfl (fun _ _ => ?_)
            dsimp only [outG, outM, List.map, List.set]
            refine run_cond rfl (fun h12 => ?_) (fun h12 => ?_)
            · exfalso; exact h12 (by rw [verify_set hx hk (by omega) ⟨hb1, hb2⟩, List.getElem?_set_self (by omega)]; exact Iff.rfl)
            ·
              refine run_skip ?_
              refine run_inBlock ?_
              refine run_region ?_
              first | refine run_op (loc_add rfl rfl (by first | omega | assumption)) rfl ?_ | refine run_op (loc_addW rfl rfl) rfl ?_
              refine run_op (loc_move rfl) rfl ?_
              refine run_nil ?_
              refine run_drop (.cons _ (.refl _)) ?_
              exact run_again ih8 (k + 1) (by omega) (by omega) (.cons rfl (by first | exact fun _ _ h => h | exact d_int (by omega) | exact d_int (by simp) | exact d_intN (by omega) | exact d_any) (.cons rfl (by first | exact fun _ _ h => h | exact d_int (by omega) | exact d_int (by simp) | exact d_intN (by omega) | exact d_any) (.cons rfl (by first | exact fun _ _ h => h | exact d_int (by omega) | exact d_int (by simp) | exact d_intN (by omega) | exact d_any) (.cons rfl (by first | exact fun _ _ h => h | exact d_int (by omega) | exact d_int (by simp) | exact d_intN (by omega) | exact d_any) (.cons rfl (by first | exact fun _ _ h => h | exact d_int (by omega) | exact d_int (by simp) | exact d_intN (by omega) | exact d_any) (.cons rfl (by first | exact fun _ _ h => h | exact d_int (by omega) | exact d_int (by simp) | exact d_intN (by omega) | exact d_any) (.cons rfl (by first | exact fun _ _ h => h | exact d_int (by omega) | exact d_int (by simp) | exact d_intN (by omega) | exact d_any) (.cons rfl (by first | exact fun _ _ h => h | exact d_int (by omega) | exact d_int (by simp) | exact d_intN (by omega) | exact d_any) .nil)))))))) (rfl)
        ·
          refine run_exit rfl ?_
          refine run_seq ?_
          refine run_region ?_
          refine run_op (loc_assign rfl) rfl ?_
          refine run_nil ?_
          refine run_retP Try.func6 rfl rfl ?_
          exact d_B Iff.rfl

end Go.Q
