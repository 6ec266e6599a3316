/- Contracts of answers in the reference. -/
import Derived.Test.YtjcbhnlcbdmlfaaQServer6
set_option linter.unusedVariables false
set_option linter.unusedSimpArgs false
namespace Go.Q
open Go.Proofs

open Classical
theorem combine_spec (p w : Int) (rows : List (List Int)) (q : List Int) (hp : okP p) (hw : 0 ≤ w ∧ w ≤ 64) (hq : q.length = rows.length) (hr : ∀ r ∈ rows, (r.length : Int) = w ∧ allP p r) (hqa : allP p q) : SpecP Try.prog 77 [dAgg [dInt .i64 p], dInts q, dRows rows, dInt .i64 w] (dTup [dInts (combN p w.toNat rows q rows.length), dInt .i64 0]) := by
  have hp1 := hp.1
  have hp2 := hp.2.1
  refine specP_of_body Try.func77 rfl rfl (fun I M => ?_)
  refine run_seq ?_
  refine run_region ?_
  refine run_op (loc_boxN rfl) rfl ?_
  refine run_op (loc_assign rfl) rfl ?_
  refine run_op (loc_assign rfl) rfl ?_
  refine run_nil ?_
  refine run_seq ?_
  refine run_seq ?_
  refine run_region ?_
  refine run_op (loc_loadN rfl rfl) rfl ?_
  refine run_op (loc_call (rcheck3_spec _) rfl) rfl ?_
  refine run_op (loc_assign rfl) rfl ?_
  refine run_nil ?_
  refine run_seq ?_
  refine run_region ?_
  refine run_op (loc_move rfl) rfl ?_
  refine run_op (loc_neq rfl rfl) rfl ?_
  refine run_nil ?_
  refine run_cond rfl (fun h1 => ?_) (fun h1 => ?_)
  · exfalso; exact h1 (errP_zero.2 hp)
  ·
    refine run_skip ?_
    refine run_seq ?_
    refine run_seq ?_
    refine run_region ?_
    refine run_op (loc_move rfl) rfl ?_
    refine run_op (loc_lss rfl rfl) rfl ?_
    refine run_op (loc_move rfl) rfl ?_
    refine run_gfirst rfl rfl (by first | exact guard_true _ | exact guard_false _ | exact guard_if (guard_true _) | exact guard_if (guard_false _)) (fun hg => loc_move rfl) rfl ?_
    refine run_gop rfl rfl (by first | exact guard_true _ | exact guard_false _ | exact guard_if (guard_true _) | exact guard_if (guard_false _)) (fun hg => loc_gtr rfl rfl) rfl ?_
    refine run_gleave ?_
    refine run_op (loc_or rfl rfl) rfl ?_
    refine run_nil ?_
    refine run_cond rfl (fun h2 => ?_) (fun h2 => ?_)
    · exfalso; omega
    ·
      refine run_skip ?_
      refine run_seq ?_
      refine run_seq ?_
      refine run_region ?_
      refine run_op (loc_move rfl) rfl ?_
      first | refine runL_fact (s := 31) rfl (fun _ _ h => dSl_len h) (fun hlen3 => ?_) | skip
      refine run_op (loc_len rfl) rfl ?_
      refine run_op (loc_move rfl) rfl ?_
      first | refine runL_fact (s := 33) rfl (fun _ _ h => dSl_len h) (fun hlen4 => ?_) | skip
      refine run_op (loc_len rfl) rfl ?_
      refine run_op (loc_neq rfl rfl) rfl ?_
      refine run_nil ?_
      refine run_cond rfl (fun h5 => ?_) (fun h5 => ?_)
      · exfalso; omega
      ·
        refine run_skip ?_
        refine run_seq ?_
        refine run_seq ?_
        refine run_region ?_
        refine run_op (loc_move rfl) rfl ?_
        first | refine runL_fact (s := 36) rfl (fun _ _ h => dSl_len h) (fun hlen6 => ?_) | skip
        refine run_op (loc_len rfl) rfl ?_
        refine run_op (loc_move rfl) rfl ?_
        refine run_nil ?_
        refine run_block ?_
        refine run_loopC (σ := Nat) (ks := [1, 2, 3, 4, 36, 37]) (.cons rfl (.cons rfl (.cons rfl (.cons rfl (.cons rfl (.cons rfl (.nil))))))) (fun k => [(38, dInt .i64 (k : Nat))]) (fun k => k ≤ rows.length) (fun k => rows.length - k) (0) ((by omega)) (.cons rfl (by first | exact fun _ _ h => h | exact d_int (by omega) | exact d_int (by simp) | exact d_intN (by omega) | exact d_any) .nil) ?_
        intro k hk ih7
        refine run_seq ?_
        refine run_region ?_
        refine run_op (loc_lss rfl rfl) rfl ?_
        refine run_nil ?_
        refine run_seq ?_
        refine run_cond rfl (fun h8 => ?_) (fun h8 => ?_)
        ·
          have hrk := (hr _ (getD_mem (xs := rows) (k := k) (by omega))).1
          refine run_skip ?_
          refine run_seq ?_
          refine run_block ?_
          refine run_seq ?_
          refine run_region ?_
          first | refine run_op (loc_index rfl rfl (by first | omega | assumption)) rfl ?_ | refine run_op (loc_indexI rfl rfl (by first | omega | assumption)) rfl ?_
          refine run_op (loc_load1 rfl) rfl ?_
          refine run_op (loc_assign rfl) rfl ?_
          refine run_nil ?_
          refine run_seq ?_
          refine run_region ?_
          refine run_op (loc_move rfl) rfl ?_
          first | refine runL_fact (s := 42) rfl (fun _ _ h => dSl_len h) (fun hlen9 => ?_) | skip
          refine run_op (loc_len rfl) rfl ?_
          refine run_op (loc_move rfl) rfl ?_
          refine run_op (loc_neq rfl rfl) rfl ?_
          refine run_nil ?_
          refine run_cond rfl (fun h10 => ?_) (fun h10 => ?_)
          · exfalso; omega
          ·
            refine run_skip ?_
            refine run_inBlock ?_
            refine run_region ?_
            first | refine run_op (loc_add rfl rfl (by first | omega | assumption)) rfl ?_ | refine run_op (loc_addW rfl rfl) rfl ?_
            refine run_op (loc_move rfl) rfl ?_
            refine run_nil ?_
            exact run_againC ih7 (k + 1) (by omega) (by omega) (.cons rfl (by first | exact fun _ _ h => h | exact d_int (by omega) | exact d_int (by simp) | exact d_intN (by omega) | exact d_any) .nil) (.cons rfl (fun _ _ x => x) (.cons rfl (fun _ _ x => x) (.cons rfl (fun _ _ x => x) (.cons rfl (fun _ _ x => x) (.cons rfl (fun _ _ x => x) (.cons rfl (fun _ _ x => x) (.nil)))))))
        ·
          refine run_exit rfl ?_
          refine run_seq ?_
          refine run_seq ?_
          refine run_region ?_
          refine run_op (loc_loadN rfl rfl) rfl ?_
          refine run_op (loc_move rfl) rfl ?_
          refine run_op (loc_call (in3_spec _ _) rfl) rfl ?_
          refine run_op (loc_not rfl) rfl ?_
          refine run_nil ?_
          refine run_cond rfl (fun h11 => ?_) (fun h11 => ?_)
          · exfalso; exact h11 ⟨hp, hqa⟩
          ·
            refine run_skip ?_
            refine run_seq ?_
            refine run_seq ?_
            refine run_region ?_
            refine run_op (loc_move rfl) rfl ?_
            first | refine runL_fact (s := 51) rfl (fun _ _ h => dSl_len h) (fun hlen12 => ?_) | skip
            refine run_op (loc_len rfl) rfl ?_
            refine run_op (loc_move rfl) rfl ?_
            refine run_nil ?_
            refine run_block ?_
            refine run_loopC (σ := Nat) (ks := [1, 2, 3, 4, 51, 52]) (.cons rfl (.cons rfl (.cons rfl (.cons rfl (.cons rfl (.cons rfl (.nil))))))) (fun i => [(53, dInt .i64 (i : Nat))]) (fun i => i ≤ rows.length) (fun i => rows.length - i) (0) ((by omega)) (.cons rfl (by first | exact fun _ _ h => h | exact d_int (by omega) | exact d_int (by simp) | exact d_intN (by omega) | exact d_any) .nil) ?_
            intro i hi ih13
            refine run_seq ?_
            refine run_region ?_
            refine run_op (loc_lss rfl rfl) rfl ?_
            refine run_nil ?_
            refine run_seq ?_
            refine run_cond rfl (fun h14 => ?_) (fun h14 => ?_)
            ·
              have hri := (hr _ (getD_mem (xs := rows) (k := i) (by omega))).2
              refine run_skip ?_
              refine run_seq ?_
              refine run_block ?_
              refine run_seq ?_
              refine run_region ?_
              first | refine run_op (loc_index rfl rfl (by first | omega | assumption)) rfl ?_ | refine run_op (loc_indexI rfl rfl (by first | omega | assumption)) rfl ?_
              refine run_op (loc_load1 rfl) rfl ?_
              refine run_op (loc_assign rfl) rfl ?_
              refine run_nil ?_
              refine run_seq ?_
              refine run_region ?_
              refine run_op (loc_loadN rfl rfl) rfl ?_
              refine run_op (loc_move rfl) rfl ?_
              refine run_op (loc_call (in3_spec _ _) rfl) rfl ?_
              refine run_op (loc_not rfl) rfl ?_
              refine run_nil ?_
              refine run_cond rfl (fun h15 => ?_) (fun h15 => ?_)
              · exfalso; exact h15 ⟨hp, hri⟩
              ·
                refine run_skip ?_
                refine run_inBlock ?_
                refine run_region ?_
                first | refine run_op (loc_add rfl rfl (by first | omega | assumption)) rfl ?_ | refine run_op (loc_addW rfl rfl) rfl ?_
                refine run_op (loc_move rfl) rfl ?_
                refine run_nil ?_
                exact run_againC ih13 (i + 1) (by omega) (by omega) (.cons rfl (by first | exact fun _ _ h => h | exact d_int (by omega) | exact d_int (by simp) | exact d_intN (by omega) | exact d_any) .nil) (.cons rfl (fun _ _ x => x) (.cons rfl (fun _ _ x => x) (.cons rfl (fun _ _ x => x) (.cons rfl (fun _ _ x => x) (.cons rfl (fun _ _ x => x) (.cons rfl (fun _ _ x => x) (.nil)))))))
            ·
              refine run_exit rfl ?_
              refine run_seq ?_
              refine run_region ?_
              refine run_op (loc_move rfl) rfl ?_
              refine run_new (loc_makeSlice rfl rfl (by first | omega | assumption) (by first | omega | assumption) _ _ rfl (by simp)) rfl (fun b15 _ => ?_)
              refine run_op (loc_assign rfl) rfl ?_
              refine run_nil ?_
              refine run_seq ?_
              refine run_seq ?_
              refine run_region ?_
              refine run_op (loc_move rfl) rfl ?_
              first | refine runL_fact (s := 64) rfl (fun _ _ h => dSl_len h) (fun hlen16 => ?_) | skip
              refine run_op (loc_len rfl) rfl ?_
              refine run_op (loc_move rfl) rfl ?_
              refine run_nil ?_
              refine run_block ?_
              refine run_loopF (σ := Nat) (ks := [1, 4, 15, 64, 65]) (.cons rfl (.cons rfl (.cons rfl (.cons rfl (.cons rfl (.nil)))))) (fun k => [(66, dInt .i64 (k : Nat))]) (fun k => [rRow (.slice (some ⟨b15, 0, none⟩) w.toNat w.toNat) 3 1 fI (combN p w.toNat rows q k)]) (fun k => k ≤ rows.length) (fun k => rows.length - k) (0) (Nat.zero_le _) (.cons rfl (by first | exact fun _ _ h => h | exact d_int (by omega) | exact d_int (by simp) | exact d_intN (by omega) | exact d_any) .nil) (rfl) ?_
              intro k hk2 ih17
              obtain ⟨hcl, hca⟩ := combN_ok (p := p) (by omega) w.toNat rows q k
              refine run_seq ?_
              refine run_region ?_
              refine run_op (loc_lss rfl rfl) rfl ?_
              refine run_nil ?_
              refine run_seq ?_
              refine run_cond rfl (fun h18 => ?_) (fun h18 => ?_)
              ·
                have hrk := hr _ (getD_mem (xs := rows) (k := k) (by omega))
                have hrk1 := hrk.1
                have hqk := hqa _ (getD_mem (xs := q) (k := k) (by omega))
                unfold hasP at hqk
                refine run_skip ?_
                refine run_seq ?_
                refine run_block ?_
                refine run_seq ?_
                refine run_region ?_
                refine run_op (loc_move rfl) rfl ?_
                first | refine run_op (loc_index rfl rfl (by first | omega | assumption)) rfl ?_ | refine run_op (loc_indexI rfl rfl (by first | omega | assumption)) rfl ?_
                refine run_op (loc_load1 rfl) rfl ?_
                refine run_op (loc_assign rfl) rfl ?_
                refine run_op (loc_assign rfl) rfl ?_
                refine run_nil ?_
                refine run_seq ?_
                refine run_region ?_
                refine run_op (loc_move rfl) rfl ?_
                first | refine runL_fact (s := 71) rfl (fun _ _ h => dSl_len h) (fun hlen19 => ?_) | skip
                refine run_op (loc_len rfl) rfl ?_
                refine run_op (loc_move rfl) rfl ?_
                refine run_nil ?_
                refine run_block ?_
                refine run_loopF (σ := Nat) (ks := [1, 4, 15, 16, 64, 65, 66, 71, 72]) (.cons rfl (.cons rfl (.cons rfl (.cons rfl (.cons rfl (.cons rfl (.cons rfl (.cons rfl (.cons rfl (.nil)))))))))) (fun u => [(73, dInt .i64 (u : Nat))]) (fun u => [rRow (.slice (some ⟨b15, 0, none⟩) w.toNat w.toNat) 3 1 fI (addT p (q[k]?.getD default) (combN p w.toNat rows q k) ((rows[k]?.getD default).take u))]) (fun u => u ≤ (rows[k]?.getD default).length) (fun u => (rows[k]?.getD default).length - u) (0) (Nat.zero_le _) (.cons rfl (by first | exact fun _ _ h => h | exact d_int (by omega) | exact d_int (by simp) | exact d_intN (by omega) | exact d_any) .nil) (by simp only [appR]; rw [List.take_zero, addT_nil]) ?_
                intro u hu ih20
                have hal := addT_len p (q[k]?.getD default) (combN p w.toNat rows q k) ((rows[k]?.getD default).take u)
                refine run_seq ?_
                refine run_region ?_
                refine run_op (loc_lss rfl rfl) rfl ?_
                refine run_nil ?_
                refine run_seq ?_
                refine run_cond rfl (fun h21 => ?_) (fun h21 => ?_)
                ·
                  have hx1 := hrk.2 _ (getD_mem (xs := (rows[k]?.getD default)) (k := u) (by omega))
                  have hx2 := hca _ (getD_mem (xs := (combN p w.toNat rows q k)) (k := u) (by omega))
                  unfold hasP at hx1 hx2
                  have hx3 := addT_get p (q[k]?.getD default) (combN p w.toNat rows q k) ((rows[k]?.getD default).take u) u (by rw [List.length_take]; omega)
                  have hmm := mul_bd (a := (q[k]?.getD default)) (b := (rows[k]?.getD default)[u]?.getD default) (A := 65521) (B := 65521) (by omega) (by omega) (by omega) (by omega)
                  refine run_skip ?_
                  refine run_seq ?_
                  refine run_block ?_
                  refine run_seq ?_
                  refine run_region ?_
                  refine run_op (loc_move rfl) rfl ?_
                  first | refine run_op (loc_index rfl rfl (by first | omega | assumption)) rfl ?_ | refine run_op (loc_indexI rfl rfl (by first | omega | assumption)) rfl ?_
                  refine run_op (loc_load1 rfl) rfl ?_
                  refine run_op (loc_assign rfl) rfl ?_
                  refine run_op (loc_assign rfl) rfl ?_
                  refine run_nil ?_
                  refine dr_start _ (.none) [⟨[(15, none)], [], none⟩,
                      ⟨[(18, none)], [], none⟩,
                      ⟨[(15, none)], [], none⟩,
                      ⟨[(18, none)], [], none⟩,
                      ⟨[(80, some (2, false)), (81, some (3, false))], [2, 3], none⟩,
                      ⟨[(82, some (4, false))], [2, 3, 4], some (0, 0, false)⟩,
                      ⟨[(1, none)], [], none⟩,
                      ⟨[(16, none)], [], none⟩,
                      ⟨[(84, some (6, false)), (85, some (7, false))], [6, 7], none⟩,
                      ⟨[(86, some (8, false))], [6, 7, 8], none⟩,
                      ⟨[(19, none)], [], none⟩,
                      ⟨[(87, some (9, false)), (88, some (10, false))], [6, 7, 8, 9, 10], none⟩,
                      ⟨[(83, some (5, false)), (89, some (11, false))], [2, 3, 4, 5, 6, 7, 8, 9, 10, 11], none⟩,
                      ⟨[(4, none)], [], none⟩,
                      ⟨[(91, some (13, false))], [13], none⟩,
                      ⟨[(90, some (12, false)), (92, some (14, false))], [2, 3, 4, 5, 6, 7, 8, 9, 10, 11, 12, 13, 14], none⟩,
                      ⟨[(78, some (0, false)), (79, some (1, false))], [0, 1, 2, 3, 4, 5, 6, 7, 8, 9, 10, 11, 12, 13, 14, 15], none⟩,
                      ⟨[(94, some (16, false)), (93, some (15, false))], [0, 1, 2, 3, 4, 5, 6, 7, 8, 9, 10, 11, 12, 13, 14, 15, 16], some (0, 0, true)⟩] [_] _ rfl rfl ?_
                  refine dq_pure rfl (fun s => .g rfl (.nil)) (fun s hs _ => loc_move rfl) (by exact .nil) ?_
                  refine dq_pure rfl (fun s => .g rfl (.nil)) (fun s hs _ => loc_move rfl) (by exact .nil) ?_
                  refine dq_pure rfl (fun s => .g rfl (.nil)) (fun s hs _ => loc_move rfl) (by exact .nil) ?_
                  refine dq_pure rfl (fun s => .g rfl (.nil)) (fun s hs _ => loc_move rfl) (by exact .nil) ?_
                  first | refine dq_pure rfl (fun s => .op rfl (.op rfl (.nil))) (fun s hs _ => loc_indexRow rfl rfl (by first | omega | assumption)) (by exact .nil) ?_ | refine dq_pure rfl (fun s => .op rfl (.op rfl (.nil))) (fun s hs _ => loc_indexRowI rfl rfl (by first | omega | assumption)) (by exact .nil) ?_
                  refine dq_read rfl (fun s => .op rfl (.nil)) rfl rfl (fun s hs _ hm => loc_loadRow1 rfl hm (by first | omega | assumption)) (by exact .nil) ?_
                  refine dq_pure rfl (fun s => .g rfl (.nil)) (fun s hs _ => loc_move rfl) (by exact .nil) ?_
                  refine dq_pure rfl (fun s => .g rfl (.nil)) (fun s hs _ => loc_move rfl) (by exact .nil) ?_
                  first | refine dq_pure rfl (fun s => .op rfl (.op rfl (.nil))) (fun s hs _ => loc_index rfl rfl (by first | omega | assumption)) (by exact .nil) ?_ | refine dq_pure rfl (fun s => .op rfl (.op rfl (.nil))) (fun s hs _ => loc_indexI rfl rfl (by first | omega | assumption)) (by exact .nil) ?_
                  refine dq_pure rfl (fun s => .op rfl (.nil)) (fun s hs _ => loc_load1 rfl) (by exact .nil) ?_
                  refine dq_pure rfl (fun s => .g rfl (.nil)) (fun s hs _ => loc_move rfl) (by exact .nil) ?_
                  first | refine dq_pure rfl (fun s => .op rfl (.op rfl (.nil))) (fun s hs _ => loc_mul rfl rfl (by first | omega | assumption)) (by exact .nil) ?_ | refine dq_pure rfl (fun s => .op rfl (.op rfl (.nil))) (fun s hs _ => loc_mulW rfl rfl) (by exact .nil) ?_
                  first | refine dq_pure rfl (fun s => .op rfl (.op rfl (.nil))) (fun s hs _ => loc_add rfl rfl (by first | omega | assumption)) (by exact .nil) ?_ | refine dq_pure rfl (fun s => .op rfl (.op rfl (.nil))) (fun s hs _ => loc_addW rfl rfl) (by exact .nil) ?_
                  refine dq_pure rfl (fun s => .g rfl (.nil)) (fun s hs _ => loc_fieldAddr rfl) (by exact .nil) ?_
                  refine dq_pure rfl (fun s => .op rfl (.nil)) (fun s hs _ => loc_load1 rfl) (by exact .nil) ?_
                  first | refine dq_pure rfl (fun s => .op rfl (.op rfl (.nil))) (fun s hs _ => loc_rem rfl rfl (by first | omega | assumption)) (by exact .nil) ?_ | refine dq_pure rfl (fun s => .op rfl (.op rfl (.nil))) (fun s hs _ => loc_remW rfl rfl (by first | omega | assumption)) (by exact .nil) ?_
                  first | refine dq_pure rfl (fun s => .op rfl (.op rfl (.nil))) (fun s hs _ => loc_indexRow rfl rfl (by first | omega | assumption)) (by exact .nil) ?_ | refine dq_pure rfl (fun s => .op rfl (.op rfl (.nil))) (fun s hs _ => loc_indexRowI rfl rfl (by first | omega | assumption)) (by exact .nil) ?_
                  refine dq_write0 rfl (fun s => .op rfl (.op rfl (.nil))) rfl rfl (fun s hs => loc_storeRow1 _ rfl rfl rfl (by first | omega | assumption)) (by exact .nil) ?_
                  refine dq_end (rs := [_]) () rfl (fun _ => rfl) (.nil) rfl (fun _ _ => ?_)
                  dsimp only [outG, outM, List.map, List.set, id]
                  refine run_inBlock ?_
                  refine run_region ?_
                  first | refine run_op (loc_add rfl rfl (by first | omega | assumption)) rfl ?_ | refine run_op (loc_addW rfl rfl) rfl ?_
                  refine run_op (loc_move rfl) rfl ?_
                  refine run_nil ?_
                  exact run_againF ih20 (u + 1) (by omega) (by omega) (.cons rfl (by first | exact fun _ _ h => h | exact d_int (by omega) | exact d_int (by simp) | exact d_intN (by omega) | exact d_any) .nil) (.cons rfl (fun _ _ x => x) (.cons rfl (fun _ _ x => x) (.cons rfl (fun _ _ x => x) (.cons rfl (fun _ _ x => x) (.cons rfl (fun _ _ x => x) (.cons rfl (fun _ _ x => x) (.cons rfl (fun _ _ x => x) (.cons rfl (fun _ _ x => x) (.cons rfl (fun _ _ x => x) (.nil)))))))))) (by simp only [appR]; rw [addT_take p (q[k]?.getD default) (combN p w.toNat rows q k) (rows[k]?.getD default) u (by omega) (by omega), Int.add_emod_emod, hx3])
                ·
                  refine run_exit rfl ?_
                  refine run_inBlock ?_
                  refine run_region ?_
                  first | refine run_op (loc_add rfl rfl (by first | omega | assumption)) rfl ?_ | refine run_op (loc_addW rfl rfl) rfl ?_
                  refine run_op (loc_move rfl) rfl ?_
                  refine run_nil ?_
                  exact run_againF ih17 (k + 1) (by omega) (by omega) (.cons rfl (by first | exact fun _ _ h => h | exact d_int (by omega) | exact d_int (by simp) | exact d_intN (by omega) | exact d_any) .nil) (.cons rfl (fun _ _ x => x) (.cons rfl (fun _ _ x => x) (.cons rfl (fun _ _ x => x) (.cons rfl (fun _ _ x => x) (.cons rfl (fun _ _ x => x) (.nil)))))) (by simp only [appR]; rw [List.take_of_length_le (by omega)]; rfl)
              ·
                refine run_exit rfl ?_
                refine run_seq ?_
                refine run_freezeRow (s := 15) rfl (.here) ?_
                refine run_region ?_
                refine run_op (loc_move rfl) rfl ?_
                refine run_op (loc_assign rfl) rfl ?_
                refine run_op (loc_assign rfl) rfl ?_
                refine run_nil ?_
                refine run_ret2P Try.func77 rfl rfl rfl ?_
                exact d_tup2 (d_toInts (by rw [show rows.length = k by omega]) (fun _ _ h => h)) (fun _ _ h => h)

theorem answer16_spec (p w : Int) (rows : List (List Int)) (q : List Int) (hp : okP p) (hw : 0 ≤ w ∧ w ≤ 64) (hq : q.length = rows.length) (hr : ∀ r ∈ rows, (r.length : Int) = w ∧ allP p r) (hqa : allP p q) : SpecP Try.prog 44 [dAgg [dInt .i64 p], dInt .i64 w, dRows rows, dInts q] (dTup [dInts (combN p w.toNat rows q rows.length), dInt .i64 0]) := by
  refine specP_of_body Try.func44 rfl rfl (fun I M => ?_)
  refine run_seq ?_
  refine run_region ?_
  refine run_op (loc_boxN rfl) rfl ?_
  refine run_op (loc_assign rfl) rfl ?_
  refine run_op (loc_assign rfl) rfl ?_
  refine run_nil ?_
  refine run_seq ?_
  refine run_region ?_
  refine run_op (loc_loadN rfl rfl) rfl ?_
  refine run_op (loc_move rfl) rfl ?_
  refine run_op (loc_move rfl) rfl ?_
  refine run_op (loc_move rfl) rfl ?_
  refine run_op (loc_call (combine_spec p w rows q hp hw hq hr hqa) rfl) rfl ?_
  refine run_op (loc_extract rfl rfl) rfl ?_
  refine run_op (loc_extract rfl rfl) rfl ?_
  refine run_op (loc_assign rfl) rfl ?_
  refine run_op (loc_assign rfl) rfl ?_
  refine run_nil ?_
  refine run_ret2P Try.func44 rfl rfl rfl ?_
  exact fun _ _ h => h

theorem answer23_spec (p w : Int) (rows : List (List Int)) (q : List Int) (hp : okP p) (hw : 0 ≤ w ∧ w ≤ 64) (hq : q.length = rows.length) (hr : ∀ r ∈ rows, (r.length : Int) = w ∧ allP p r) (hqa : allP p q) : SpecP Try.prog 20 [dAgg [dInt .i64 p], dInt .i64 w, dRows rows, dInts q] (dTup [dInts (combN p w.toNat rows q rows.length), dInt .i64 0]) := by
  refine specP_of_body Try.func20 rfl rfl (fun I M => ?_)
  refine run_seq ?_
  refine run_region ?_
  refine run_op (loc_boxN rfl) rfl ?_
  refine run_op (loc_assign rfl) rfl ?_
  refine run_op (loc_assign rfl) rfl ?_
  refine run_nil ?_
  refine run_seq ?_
  refine run_region ?_
  refine run_op (loc_loadN rfl rfl) rfl ?_
  refine run_op (loc_move rfl) rfl ?_
  refine run_op (loc_move rfl) rfl ?_
  refine run_op (loc_move rfl) rfl ?_
  refine run_op (loc_call (answer16_spec p w rows q hp hw hq hr hqa) rfl) rfl ?_
  refine run_op (loc_extract rfl rfl) rfl ?_
  refine run_op (loc_extract rfl rfl) rfl ?_
  refine run_op (loc_assign rfl) rfl ?_
  refine run_op (loc_assign rfl) rfl ?_
  refine run_nil ?_
  refine run_ret2P Try.func20 rfl rfl rfl ?_
  exact fun _ _ h => h

end Go.Q

namespace Go.Q
open Go.Proofs

open Classical
theorem rpow_spec (p a : Int) (n : Nat) (h : 2 ≤ p ∧ p ≤ 65521) (ha : 0 ≤ a ∧ a ≤ 65521) (hn : n ≤ 65521) : SpecP Try.prog 76 [dAgg [dInt .i64 p], dInt .i64 a, dInt .i64 (n : Nat)] (dInt .i64 (powM p a n)) := by
  refine specP_of_body Try.func76 rfl rfl (fun I M => ?_)
  refine run_seq ?_
  refine run_region ?_
  refine run_op (loc_boxN rfl) rfl ?_
  refine run_op (loc_assign rfl) rfl ?_
  refine run_nil ?_
  refine run_seq ?_
  refine run_region ?_
  refine run_op (loc_fieldAddr rfl) rfl ?_
  refine run_op (loc_load1 rfl) rfl ?_
  first | refine run_op (loc_rem rfl rfl (by first | omega | assumption)) rfl ?_ | refine run_op (loc_remW rfl rfl (by first | omega | assumption)) rfl ?_
  refine run_op (loc_assign rfl) rfl ?_
  refine run_nil ?_
  refine run_seq ?_
  refine run_block ?_
  refine run_loopC (σ := Int × Int × Nat) (ks := [3]) (.cons rfl (.nil)) (fun s => [(1, dInt .i64 s.2.1), (2, dInt .i64 (s.2.2 : Nat)), (7, dInt .i64 s.1)]) (fun s => (0 ≤ s.1 ∧ s.1 < p) ∧ (0 ≤ s.2.1 ∧ s.2.1 ≤ 65521) ∧ s.2.2 ≤ 65521 ∧ s.1 * s.2.1 ^ s.2.2 % p = powM p a n) (fun s => s.2.2) ((1, a, n)) (⟨⟨by omega, by simp only; omega⟩, ha, hn, by rw [Int.one_mul]; rfl⟩) (.cons rfl (by first | exact fun _ _ h => h | exact d_int (by omega) | exact d_int (by simp) | exact d_intN (by omega) | exact d_any) (.cons rfl (by first | exact fun _ _ h => h | exact d_int (by omega) | exact d_int (by simp) | exact d_intN (by omega) | exact d_any) (.cons rfl (d_int (Int.emod_eq_of_lt (by omega) (by omega))) .nil))) ?_
  rintro s ⟨hx, hb, hm, he⟩ ih1
  have hbb := mod_bd (s.2.1 * s.2.1) (show 0 < p by omega)
  have hxb := mod_bd (s.1 * s.2.1) (show 0 < p by omega)
  have hm1 := mul_bd (a := s.1) (b := s.2.1) (A := 65521) (B := 65521) (by omega) (by omega) (by omega) (by omega)
  have hm2 := mul_bd (a := s.2.1) (b := s.2.1) (A := 65521) (B := 65521) (by omega) (by omega) (by omega) (by omega)
  refine run_seq ?_
  refine run_seq ?_
  refine run_region ?_
  refine run_op (loc_move rfl) rfl ?_
  refine run_op (loc_gtr rfl rfl) rfl ?_
  refine run_nil ?_
  refine run_cond rfl (fun h2 => ?_) (fun h2 => ?_)
  ·
    refine run_skip ?_
    refine run_seq ?_
    refine run_block ?_
    refine run_seq ?_
    refine run_seq ?_
    refine run_region ?_
    refine run_op (loc_move rfl) rfl ?_
    refine run_op (loc_and1 rfl rfl (by first | omega | assumption)) rfl ?_
    refine run_op (loc_eql rfl rfl) rfl ?_
    refine run_nil ?_
    refine run_joinC (σ := Int) (ks := [1, 2, 3]) (.cons rfl (.cons rfl (.cons rfl (.nil)))) (fun y => [(7, dInt .i64 y)]) (fun y => (0 ≤ y ∧ y < p) ∧ y * (s.2.1 * s.2.1 % p) ^ (s.2.2 / 2) % p = powM p a n) (fun j3 => ?_) ?_
    ·
      refine run_cond rfl (fun h4 => ?_) (fun h4 => ?_)
      ·
        refine run_region ?_
        refine run_op (loc_move rfl) rfl ?_
        refine run_op (loc_move rfl) rfl ?_
        first | refine run_op (loc_mul rfl rfl (by first | omega | assumption)) rfl ?_ | refine run_op (loc_mulW rfl rfl) rfl ?_
        refine run_op (loc_fieldAddr rfl) rfl ?_
        refine run_op (loc_load1 rfl) rfl ?_
        first | refine run_op (loc_rem rfl rfl (by first | omega | assumption)) rfl ?_ | refine run_op (loc_remW rfl rfl (by first | omega | assumption)) rfl ?_
        refine run_op (loc_assign rfl) rfl ?_
        refine run_nil ?_
        exact run_atC j3 (s.1 * s.2.1 % p) (⟨hxb, by rw [pow_step1 p s.1 s.2.1 s.2.2 (by omega), he]⟩) (.cons rfl (by first | exact fun _ _ h => h | exact d_int (by omega) | exact d_int (by simp) | exact d_intN (by omega) | exact d_any) .nil) (.cons rfl (fun _ _ x => x) (.cons rfl (fun _ _ x => x) (.cons rfl (fun _ _ x => x) (.nil))))
      ·
        refine run_skip ?_
        exact run_atC j3 (s.1) (⟨hx, by rw [pow_step0 p s.1 s.2.1 s.2.2 (by omega), he]⟩) (.cons rfl (by first | exact fun _ _ h => h | exact d_int (by omega) | exact d_int (by simp) | exact d_intN (by omega) | exact d_any) .nil) (.cons rfl (fun _ _ x => x) (.cons rfl (fun _ _ x => x) (.cons rfl (fun _ _ x => x) (.nil))))
    rintro y ⟨hy, hye⟩
    refine run_region ?_
    refine run_op (loc_move rfl) rfl ?_
    refine run_op (loc_move rfl) rfl ?_
    first | refine run_op (loc_mul rfl rfl (by first | omega | assumption)) rfl ?_ | refine run_op (loc_mulW rfl rfl) rfl ?_
    refine run_op (loc_fieldAddr rfl) rfl ?_
    refine run_op (loc_load1 rfl) rfl ?_
    first | refine run_op (loc_rem rfl rfl (by first | omega | assumption)) rfl ?_ | refine run_op (loc_remW rfl rfl (by first | omega | assumption)) rfl ?_
    refine run_op (loc_assign rfl) rfl ?_
    refine run_nil ?_
    refine run_inBlock ?_
    refine run_region ?_
    refine run_op (loc_move rfl) rfl ?_
    refine run_op (loc_shrN (c := 1) (q := 2) rfl rfl rfl (by decide) (by first | omega | assumption) (by decide)) rfl ?_
    refine run_op (loc_assign rfl) rfl ?_
    refine run_nil ?_
    exact run_againC ih1 ((y, s.2.1 * s.2.1 % p, s.2.2 / 2)) (⟨hy, by simp only; omega, by simp only; omega, hye⟩) (by simp only; omega) (.cons rfl (by first | exact fun _ _ h => h | exact d_int (by omega) | exact d_int (by simp) | exact d_intN (by omega) | exact d_any) (.cons rfl (by first | exact fun _ _ h => h | exact d_int (by omega) | exact d_int (by simp) | exact d_intN (by omega) | exact d_any) (.cons rfl (by first | exact fun _ _ h => h | exact d_int (by omega) | exact d_int (by simp) | exact d_intN (by omega) | exact d_any) .nil))) (.cons rfl (fun _ _ x => x) (.nil))
  ·
    refine run_exit rfl ?_
    refine run_seq ?_
    refine run_region ?_
    refine run_op (loc_move rfl) rfl ?_
    refine run_op (loc_assign rfl) rfl ?_
    refine run_nil ?_
    refine run_retP Try.func76 rfl rfl ?_
    exact d_int (by rw [← he, show s.2.2 = 0 by omega, Int.pow_zero, Int.mul_one, Int.emod_eq_of_lt hx.1 hx.2])

theorem rcodc_spec (p s d g : Int) (h : codE p s d g = 0) : SpecP Try.prog 74 [dAgg [dInt .i64 p], dAgg [dInt .i64 s, dInt .i64 d, dInt .i64 g]] (dInt .i64 0) := by
  have hz := codE_zero h
  have hz1 := hz.1.1
  have hz2 := hz.1.2.1
  refine specP_of_body Try.func74 rfl rfl (fun I M => ?_)
  refine run_seq ?_
  refine run_region ?_
  refine run_op (loc_boxN rfl) rfl ?_
  refine run_op (loc_boxN rfl) rfl ?_
  refine run_op (loc_assign rfl) rfl ?_
  refine run_nil ?_
  refine run_seq ?_
  refine run_seq ?_
  refine run_region ?_
  refine run_op (loc_loadN rfl rfl) rfl ?_
  refine run_op (loc_call (rcheck3_spec _) rfl) rfl ?_
  refine run_op (loc_assign rfl) rfl ?_
  refine run_nil ?_
  refine run_seq ?_
  refine run_region ?_
  refine run_op (loc_move rfl) rfl ?_
  refine run_op (loc_neq rfl rfl) rfl ?_
  refine run_nil ?_
  refine run_cond rfl (fun h1 => ?_) (fun h1 => ?_)
  · exfalso; exact h1 (errP_zero.2 hz.1)
  ·
    refine run_skip ?_
    refine run_seq ?_
    refine run_seq ?_
    refine run_region ?_
    refine run_op (loc_fieldAddr rfl) rfl ?_
    refine run_op (loc_load1 rfl) rfl ?_
    refine run_op (loc_lss rfl rfl) rfl ?_
    refine run_op (loc_move rfl) rfl ?_
    refine run_gfirst rfl rfl (by first | exact guard_true _ | exact guard_false _ | exact guard_if (guard_true _) | exact guard_if (guard_false _)) (fun hg => loc_fieldAddr rfl) rfl ?_
    refine run_gop rfl rfl (by first | exact guard_true _ | exact guard_false _ | exact guard_if (guard_true _) | exact guard_if (guard_false _)) (fun hg => loc_load1 rfl) rfl ?_
    refine run_gop rfl rfl (by first | exact guard_true _ | exact guard_false _ | exact guard_if (guard_true _) | exact guard_if (guard_false _)) (fun hg => loc_gtr rfl rfl) rfl ?_
    refine run_gleave ?_
    refine run_op (loc_or rfl rfl) rfl ?_
    refine run_op (loc_move rfl) rfl ?_
    refine run_gfirst rfl rfl (by first | exact guard_true _ | exact guard_false _ | exact guard_if (guard_true _) | exact guard_if (guard_false _)) (fun hg => loc_fieldAddr rfl) rfl ?_
    refine run_gop rfl rfl (by first | exact guard_true _ | exact guard_false _ | exact guard_if (guard_true _) | exact guard_if (guard_false _)) (fun hg => loc_load1 rfl) rfl ?_
    refine run_gop rfl rfl (by first | exact guard_true _ | exact guard_false _ | exact guard_if (guard_true _) | exact guard_if (guard_false _)) (fun hg => loc_fieldAddr rfl) rfl ?_
    refine run_gop rfl rfl (by first | exact guard_true _ | exact guard_false _ | exact guard_if (guard_true _) | exact guard_if (guard_false _)) (fun hg => loc_load1 rfl) rfl ?_
    refine run_gop rfl rfl (by first | exact guard_true _ | exact guard_false _ | exact guard_if (guard_true _) | exact guard_if (guard_false _)) (fun hg => loc_geq rfl rfl) rfl ?_
    refine run_gleave ?_
    refine run_op (loc_or rfl rfl) rfl ?_
    refine run_op (loc_move rfl) rfl ?_
    refine run_gfirst rfl rfl (by first | exact guard_true _ | exact guard_false _ | exact guard_if (guard_true _) | exact guard_if (guard_false _)) (fun hg => loc_fieldAddr rfl) rfl ?_
    refine run_gop rfl rfl (by first | exact guard_true _ | exact guard_false _ | exact guard_if (guard_true _) | exact guard_if (guard_false _)) (fun hg => loc_load1 rfl) rfl ?_
    refine run_gop rfl rfl (by first | exact guard_true _ | exact guard_false _ | exact guard_if (guard_true _) | exact guard_if (guard_false _)) (fun hg => loc_lss rfl rfl) rfl ?_
    refine run_gleave ?_
    refine run_op (loc_or rfl rfl) rfl ?_
    refine run_op (loc_move rfl) rfl ?_
    refine run_gfirst rfl rfl (by first | exact guard_true _ | exact guard_false _ | exact guard_if (guard_true _) | exact guard_if (guard_false _)) (fun hg => loc_fieldAddr rfl) rfl ?_
    refine run_gop rfl rfl (by first | exact guard_true _ | exact guard_false _ | exact guard_if (guard_true _) | exact guard_if (guard_false _)) (fun hg => loc_load1 rfl) rfl ?_
    refine run_gop rfl rfl (by first | exact guard_true _ | exact guard_false _ | exact guard_if (guard_true _) | exact guard_if (guard_false _)) (fun hg => loc_fieldAddr rfl) rfl ?_
    refine run_gop rfl rfl (by first | exact guard_true _ | exact guard_false _ | exact guard_if (guard_true _) | exact guard_if (guard_false _)) (fun hg => loc_load1 rfl) rfl ?_
    refine run_gop rfl rfl (by first | exact guard_true _ | exact guard_false _ | exact guard_if (guard_true _) | exact guard_if (guard_false _)) (fun hg => loc_gtr rfl rfl) rfl ?_
    refine run_gleave ?_
    refine run_op (loc_or rfl rfl) rfl ?_
    refine run_op (loc_move rfl) rfl ?_
    refine run_gfirst rfl rfl (by first | exact guard_true _ | exact guard_false _ | exact guard_if (guard_true _) | exact guard_if (guard_false _)) (fun hg => loc_fieldAddr rfl) rfl ?_
    refine run_gop rfl rfl (by first | exact guard_true _ | exact guard_false _ | exact guard_if (guard_true _) | exact guard_if (guard_false _)) (fun hg => loc_load1 rfl) rfl ?_
    refine run_gop rfl rfl (by first | exact guard_true _ | exact guard_false _ | exact guard_if (guard_true _) | exact guard_if (guard_false _)) (fun hg => loc_lss rfl rfl) rfl ?_
    refine run_gleave ?_
    refine run_op (loc_or rfl rfl) rfl ?_
    refine run_op (loc_move rfl) rfl ?_
    refine run_gfirst rfl rfl (by first | exact guard_true _ | exact guard_false _ | exact guard_if (guard_true _) | exact guard_if (guard_false _)) (fun hg => loc_fieldAddr rfl) rfl ?_
    refine run_gop rfl rfl (by first | exact guard_true _ | exact guard_false _ | exact guard_if (guard_true _) | exact guard_if (guard_false _)) (fun hg => loc_load1 rfl) rfl ?_
    refine run_gop rfl rfl (by first | exact guard_true _ | exact guard_false _ | exact guard_if (guard_true _) | exact guard_if (guard_false _)) (fun hg => loc_fieldAddr rfl) rfl ?_
    refine run_gop rfl rfl (by first | exact guard_true _ | exact guard_false _ | exact guard_if (guard_true _) | exact guard_if (guard_false _)) (fun hg => loc_load1 rfl) rfl ?_
    refine run_gop rfl rfl (by first | exact guard_true _ | exact guard_false _ | exact guard_if (guard_true _) | exact guard_if (guard_false _)) (fun hg => loc_gtr rfl rfl) rfl ?_
    refine run_gleave ?_
    refine run_op (loc_or rfl rfl) rfl ?_
    refine run_op (loc_move rfl) rfl ?_
    refine run_gfirst rfl rfl (by first | exact guard_true _ | exact guard_false _ | exact guard_if (guard_true _) | exact guard_if (guard_false _)) (fun hg => loc_fieldAddr rfl) rfl ?_
    refine run_gop rfl rfl (by first | exact guard_true _ | exact guard_false _ | exact guard_if (guard_true _) | exact guard_if (guard_false _)) (fun hg => loc_load1 rfl) rfl ?_
    first | refine run_gop rfl rfl (by first | exact guard_true _ | exact guard_false _ | exact guard_if (guard_true _) | exact guard_if (guard_false _)) (fun hg => loc_mul rfl rfl (by first | omega | assumption)) rfl ?_ | refine run_gop rfl rfl (by first | exact guard_true _ | exact guard_false _ | exact guard_if (guard_true _) | exact guard_if (guard_false _)) (fun hg => loc_mulW rfl rfl) rfl ?_
    refine run_gop rfl rfl (by first | exact guard_true _ | exact guard_false _ | exact guard_if (guard_true _) | exact guard_if (guard_false _)) (fun hg => loc_fieldAddr rfl) rfl ?_
    refine run_gop rfl rfl (by first | exact guard_true _ | exact guard_false _ | exact guard_if (guard_true _) | exact guard_if (guard_false _)) (fun hg => loc_load1 rfl) rfl ?_
    first | refine run_gop rfl rfl (by first | exact guard_true _ | exact guard_false _ | exact guard_if (guard_true _) | exact guard_if (guard_false _)) (fun hg => loc_add rfl rfl (by first | omega | assumption)) rfl ?_ | refine run_gop rfl rfl (by first | exact guard_true _ | exact guard_false _ | exact guard_if (guard_true _) | exact guard_if (guard_false _)) (fun hg => loc_addW rfl rfl) rfl ?_
    first | refine run_gop rfl rfl (by first | exact guard_true _ | exact guard_false _ | exact guard_if (guard_true _) | exact guard_if (guard_false _)) (fun hg => loc_sub rfl rfl (by first | omega | assumption)) rfl ?_ | refine run_gop rfl rfl (by first | exact guard_true _ | exact guard_false _ | exact guard_if (guard_true _) | exact guard_if (guard_false _)) (fun hg => loc_subW rfl rfl) rfl ?_
    refine run_gop rfl rfl (by first | exact guard_true _ | exact guard_false _ | exact guard_if (guard_true _) | exact guard_if (guard_false _)) (fun hg => loc_fieldAddr rfl) rfl ?_
    refine run_gop rfl rfl (by first | exact guard_true _ | exact guard_false _ | exact guard_if (guard_true _) | exact guard_if (guard_false _)) (fun hg => loc_load1 rfl) rfl ?_
    refine run_gop rfl rfl (by first | exact guard_true _ | exact guard_false _ | exact guard_if (guard_true _) | exact guard_if (guard_false _)) (fun hg => loc_gtr rfl rfl) rfl ?_
    refine run_gleave ?_
    refine run_op (loc_or rfl rfl) rfl ?_
    refine run_nil ?_
    refine run_cond rfl (fun h2 => ?_) (fun h2 => ?_)
    · exfalso; have h5 := h2; omega
    ·
      refine run_skip ?_
      refine run_seq ?_
      refine run_region ?_
      refine run_op (loc_assign rfl) rfl ?_
      refine run_nil ?_
      refine run_retP Try.func74 rfl rfl ?_
      exact d_int rfl

theorem rgroups_spec (s d g : Int) (n : Nat) (hg : 1 ≤ g ∧ g ≤ 10) (hn : n ≤ 1024) : SpecP Try.prog 75 [dAgg [dInt .i64 s, dInt .i64 d, dInt .i64 g], dInt .i64 (n : Nat)] (dTup [dInt .i64 (grpN n g.toNat : Nat), dInt .i64 0]) := by
  refine specP_of_body Try.func75 rfl rfl (fun I M => ?_)
  refine run_seq ?_
  refine run_region ?_
  refine run_op (loc_boxN rfl) rfl ?_
  refine run_op (loc_assign rfl) rfl ?_
  refine run_op (loc_assign rfl) rfl ?_
  refine run_nil ?_
  refine run_seq ?_
  refine run_seq ?_
  refine run_region ?_
  refine run_op (loc_fieldAddr rfl) rfl ?_
  refine run_op (loc_load1 rfl) rfl ?_
  refine run_op (loc_lss rfl rfl) rfl ?_
  refine run_op (loc_move rfl) rfl ?_
  refine run_gfirst rfl rfl (by first | exact guard_true _ | exact guard_false _ | exact guard_if (guard_true _) | exact guard_if (guard_false _)) (fun hg => loc_move rfl) rfl ?_
  refine run_gop rfl rfl (by first | exact guard_true _ | exact guard_false _ | exact guard_if (guard_true _) | exact guard_if (guard_false _)) (fun hg => loc_lss rfl rfl) rfl ?_
  refine run_gleave ?_
  refine run_op (loc_or rfl rfl) rfl ?_
  refine run_op (loc_move rfl) rfl ?_
  refine run_gfirst rfl rfl (by first | exact guard_true _ | exact guard_false _ | exact guard_if (guard_true _) | exact guard_if (guard_false _)) (fun hg => loc_move rfl) rfl ?_
  refine run_gop rfl rfl (by first | exact guard_true _ | exact guard_false _ | exact guard_if (guard_true _) | exact guard_if (guard_false _)) (fun hg => loc_gtr rfl rfl) rfl ?_
  refine run_gleave ?_
  refine run_op (loc_or rfl rfl) rfl ?_
  refine run_nil ?_
  refine run_cond rfl (fun h1 => ?_) (fun h1 => ?_)
  · exfalso; omega
  ·
    refine run_skip ?_
    refine run_seq ?_
    have hdb : 0 ≤ (n : Int) / g ∧ (n : Int) / g ≤ n := ⟨Int.ediv_nonneg (by omega) (by omega), Int.ediv_le_self _ (by omega)⟩
    have hmd := mod_bd (n : Int) (show 0 < g by omega)
    refine run_region ?_
    refine run_op (loc_move rfl) rfl ?_
    refine run_op (loc_fieldAddr rfl) rfl ?_
    refine run_op (loc_load1 rfl) rfl ?_
    first | refine run_op (loc_quo rfl rfl (by first | omega | assumption)) rfl ?_ | refine run_op (loc_quoW rfl rfl (by first | omega | assumption)) rfl ?_
    refine run_op (loc_assign rfl) rfl ?_
    refine run_nil ?_
    refine run_seq ?_
    refine run_seq ?_
    refine run_region ?_
    refine run_op (loc_move rfl) rfl ?_
    refine run_op (loc_fieldAddr rfl) rfl ?_
    refine run_op (loc_load1 rfl) rfl ?_
    first | refine run_op (loc_rem rfl rfl (by first | omega | assumption)) rfl ?_ | refine run_op (loc_remW rfl rfl (by first | omega | assumption)) rfl ?_
    refine run_op (loc_gtr rfl rfl) rfl ?_
    refine run_nil ?_
    refine run_joinC (σ := Int) (ks := []) (.nil) (fun y => [(6, dInt .i64 y)]) (fun y => y = (grpN n g.toNat : Nat)) (fun j2 => ?_) ?_
    ·
      refine run_cond rfl (fun h3 => ?_) (fun h3 => ?_)
      ·
        have h5 := h3
        refine run_region ?_
        refine run_op (loc_move rfl) rfl ?_
        first | refine run_op (loc_add rfl rfl (by first | omega | assumption)) rfl ?_ | refine run_op (loc_addW rfl rfl) rfl ?_
        refine run_op (loc_assign rfl) rfl ?_
        refine run_nil ?_
        exact run_atC j2 ((n : Int) / g + 1) (grp_quo1 hg.1 h5) (.cons rfl (by first | exact fun _ _ h => h | exact d_int (by omega) | exact d_int (by simp) | exact d_intN (by omega) | exact d_any) .nil) (.nil)
      ·
        have h5 := h3
        refine run_skip ?_
        exact run_atC j2 ((n : Int) / g) (grp_quo0 hg.1 h5) (.cons rfl (by first | exact fun _ _ h => h | exact d_int (by omega) | exact d_int (by simp) | exact d_intN (by omega) | exact d_any) .nil) (.nil)
    rintro y rfl
    refine run_seq ?_
    refine run_region ?_
    refine run_op (loc_move rfl) rfl ?_
    refine run_op (loc_assign rfl) rfl ?_
    refine run_op (loc_assign rfl) rfl ?_
    refine run_nil ?_
    refine run_ret2P Try.func75 rfl rfl rfl ?_
    exact fun _ _ h => h

theorem rhold18_spec (p s d g w : Int) (rows : List (List Int)) (j : Int) (hc : codE p s d g = 0) (hj : 1 ≤ j ∧ j ≤ s) (hw : 0 ≤ w ∧ w ≤ 64) (hn : rows.length ≤ 1024) (hr : ∀ r ∈ rows, (r.length : Int) = w ∧ allP p r) : SpecP Try.prog 42 [dAgg [dInt .i64 p], dAgg [dInt .i64 s, dInt .i64 d, dInt .i64 g], dInt .i64 w, dRows rows, dInt .i64 j] (dTup [dRows (holdG p s d g w rows j), dInt .i64 0]) := by
  obtain ⟨hp, hs, hsp, hd, hg, hgd⟩ := codE_zero hc
  have hpb := hp.1
  have hpb2 := hp.2.1
  have hE : holdE p s d g w rows j = 0 := by
    unfold holdE
    rw [if_neg (Classical.not_not.2 hc), if_neg (by omega), if_neg (by omega)]
    refine firstErr_none fun r h => ?_
    unfold rowErr
    rw [if_neg (by have := (hr r h).1; omega), if_neg (Classical.not_not.2 (hr r h).2)]
  refine specP_of_body Try.func42 rfl rfl (fun I M => ?_)
  refine run_seq ?_
  refine run_region ?_
  refine run_op (loc_boxN rfl) rfl ?_
  refine run_op (loc_boxN rfl) rfl ?_
  refine run_op (loc_assign rfl) rfl ?_
  refine run_op (loc_assign rfl) rfl ?_
  refine run_nil ?_
  refine run_seq ?_
  refine run_seq ?_
  refine run_region ?_
  refine run_op (loc_loadN rfl rfl) rfl ?_
  refine run_op (loc_loadN rfl rfl) rfl ?_
  refine run_op (loc_call (rcodc_spec _ _ _ _ hc) rfl) rfl ?_
  refine run_op (loc_assign rfl) rfl ?_
  refine run_nil ?_
  refine run_seq ?_
  refine run_region ?_
  refine run_op (loc_move rfl) rfl ?_
  refine run_op (loc_neq rfl rfl) rfl ?_
  refine run_nil ?_
  refine run_cond rfl (fun h1 => ?_) (fun h1 => ?_)
  · exfalso; exact h1 rfl
  ·
    refine run_skip ?_
    refine run_seq ?_
    refine run_seq ?_
    refine run_region ?_
    refine run_op (loc_move rfl) rfl ?_
    refine run_op (loc_lss rfl rfl) rfl ?_
    refine run_op (loc_move rfl) rfl ?_
    refine run_gfirst rfl rfl (by first | exact guard_true _ | exact guard_false _ | exact guard_if (guard_true _) | exact guard_if (guard_false _)) (fun hg => loc_move rfl) rfl ?_
    refine run_gop rfl rfl (by first | exact guard_true _ | exact guard_false _ | exact guard_if (guard_true _) | exact guard_if (guard_false _)) (fun hg => loc_fieldAddr rfl) rfl ?_
    refine run_gop rfl rfl (by first | exact guard_true _ | exact guard_false _ | exact guard_if (guard_true _) | exact guard_if (guard_false _)) (fun hg => loc_load1 rfl) rfl ?_
    refine run_gop rfl rfl (by first | exact guard_true _ | exact guard_false _ | exact guard_if (guard_true _) | exact guard_if (guard_false _)) (fun hg => loc_gtr rfl rfl) rfl ?_
    refine run_gleave ?_
    refine run_op (loc_or rfl rfl) rfl ?_
    refine run_nil ?_
    refine run_cond rfl (fun h2 => ?_) (fun h2 => ?_)
    · exfalso; omega
    ·
      refine run_skip ?_
      refine run_seq ?_
      refine run_seq ?_
      refine run_region ?_
      refine run_op (loc_move rfl) rfl ?_
      refine run_op (loc_lss rfl rfl) rfl ?_
      refine run_op (loc_move rfl) rfl ?_
      refine run_gfirst rfl rfl (by first | exact guard_true _ | exact guard_false _ | exact guard_if (guard_true _) | exact guard_if (guard_false _)) (fun hg => loc_move rfl) rfl ?_
      refine run_gop rfl rfl (by first | exact guard_true _ | exact guard_false _ | exact guard_if (guard_true _) | exact guard_if (guard_false _)) (fun hg => loc_gtr rfl rfl) rfl ?_
      refine run_gleave ?_
      refine run_op (loc_or rfl rfl) rfl ?_
      refine run_op (loc_move rfl) rfl ?_
      refine run_gfirst rfl rfl (by first | exact guard_true _ | exact guard_false _ | exact guard_if (guard_true _) | exact guard_if (guard_false _)) (fun hg => loc_move rfl) rfl ?_
      refine run_gop rfl rfl (by first | exact guard_true _ | exact guard_false _ | exact guard_if (guard_true _) | exact guard_if (guard_false _)) (fun hg => loc_len rfl) rfl ?_
      refine run_gop rfl rfl (by first | exact guard_true _ | exact guard_false _ | exact guard_if (guard_true _) | exact guard_if (guard_false _)) (fun hg => loc_gtr rfl rfl) rfl ?_
      refine run_gleave ?_
      refine run_op (loc_or rfl rfl) rfl ?_
      refine run_nil ?_
      refine run_cond rfl (fun h3 => ?_) (fun h3 => ?_)
      · exfalso; omega
      ·
        refine run_skip ?_
        refine run_seq ?_
        refine run_seq ?_
        refine run_region ?_
        refine run_op (loc_move rfl) rfl ?_
        first | refine runL_fact (s := 49) rfl (fun _ _ h => dSl_len h) (fun hlen4 => ?_) | skip
        refine run_op (loc_len rfl) rfl ?_
        refine run_op (loc_move rfl) rfl ?_
        refine run_nil ?_
        refine run_block ?_
        refine run_loopC (σ := Nat) (ks := [2, 3, 4, 5, 6, 49, 50]) (.cons rfl (.cons rfl (.cons rfl (.cons rfl (.cons rfl (.cons rfl (.cons rfl (.nil)))))))) (fun i => [(51, dInt .i64 (i : Nat))]) (fun i => i ≤ rows.length) (fun i => rows.length - i) (0) ((by omega)) (.cons rfl (by first | exact fun _ _ h => h | exact d_int (by omega) | exact d_int (by simp) | exact d_intN (by omega) | exact d_any) .nil) ?_
        intro i hi ih5
        refine run_seq ?_
        refine run_region ?_
        refine run_op (loc_lss rfl rfl) rfl ?_
        refine run_nil ?_
        refine run_seq ?_
        refine run_cond rfl (fun h6 => ?_) (fun h6 => ?_)
        ·
          have hri := hr _ (getD_mem (xs := rows) (k := i) (by omega))
          have hri1 := hri.1
          refine run_skip ?_
          refine run_seq ?_
          refine run_block ?_
          refine run_seq ?_
          refine run_region ?_
          first | refine run_op (loc_index rfl rfl (by first | omega | assumption)) rfl ?_ | refine run_op (loc_indexI rfl rfl (by first | omega | assumption)) rfl ?_
          refine run_op (loc_load1 rfl) rfl ?_
          refine run_op (loc_assign rfl) rfl ?_
          refine run_nil ?_
          refine run_seq ?_
          refine run_seq ?_
          refine run_region ?_
          refine run_op (loc_move rfl) rfl ?_
          first | refine runL_fact (s := 55) rfl (fun _ _ h => dSl_len h) (fun hlen7 => ?_) | skip
          refine run_op (loc_len rfl) rfl ?_
          refine run_op (loc_move rfl) rfl ?_
          refine run_op (loc_neq rfl rfl) rfl ?_
          refine run_nil ?_
          refine run_cond rfl (fun h8 => ?_) (fun h8 => ?_)
          · exfalso; omega
          ·
            refine run_skip ?_
            refine run_seq ?_
            refine run_region ?_
            refine run_op (loc_loadN rfl rfl) rfl ?_
            refine run_op (loc_move rfl) rfl ?_
            refine run_op (loc_call (in3_spec _ _) rfl) rfl ?_
            refine run_op (loc_not rfl) rfl ?_
            refine run_nil ?_
            refine run_cond rfl (fun h9 => ?_) (fun h9 => ?_)
            · exfalso; exact h9 ⟨hp, hri.2⟩
            ·
              refine run_skip ?_
              refine run_inBlock ?_
              refine run_region ?_
              first | refine run_op (loc_add rfl rfl (by first | omega | assumption)) rfl ?_ | refine run_op (loc_addW rfl rfl) rfl ?_
              refine run_op (loc_move rfl) rfl ?_
              refine run_nil ?_
              exact run_againC ih5 (i + 1) (by omega) (by omega) (.cons rfl (by first | exact fun _ _ h => h | exact d_int (by omega) | exact d_int (by simp) | exact d_intN (by omega) | exact d_any) .nil) (.cons rfl (fun _ _ x => x) (.cons rfl (fun _ _ x => x) (.cons rfl (fun _ _ x => x) (.cons rfl (fun _ _ x => x) (.cons rfl (fun _ _ x => x) (.cons rfl (fun _ _ x => x) (.cons rfl (fun _ _ x => x) (.nil))))))))
        ·
          refine run_exit rfl ?_
          refine run_seq ?_
          refine run_region ?_
          refine run_op (loc_loadN rfl rfl) rfl ?_
          refine run_op (loc_move rfl) rfl ?_
          first | refine runL_fact (s := 66) rfl (fun _ _ h => dSl_len h) (fun hlen10 => ?_) | skip
          refine run_op (loc_len rfl) rfl ?_
          refine run_op (loc_call (rgroups_spec _ _ _ _ ⟨by omega, by omega⟩ hn) rfl) rfl ?_
          refine run_op (loc_move rfl) rfl ?_
          refine run_op (loc_extract rfl rfl) rfl ?_
          refine run_op (loc_extract rfl rfl) rfl ?_
          refine run_op (loc_assign rfl) rfl ?_
          refine run_op (loc_assign rfl) rfl ?_
          refine run_nil ?_
          refine run_seq ?_
          refine run_region ?_
          refine run_op (loc_assign rfl) rfl ?_
          refine run_nil ?_
          refine run_seq ?_
          refine run_seq ?_
          refine run_region ?_
          refine run_op (loc_assign rfl) rfl ?_
          refine run_nil ?_
          refine run_block ?_
          refine run_rowNil 35 1 fR ?_
          refine run_loopF (σ := Value × Nat) (ks := [2, 3, 4, 5, 6, 15]) (.cons rfl (.cons rfl (.cons rfl (.cons rfl (.cons rfl (.cons rfl (.nil))))))) (fun q => [(17, dVal q.1), (18, dInt .i64 (q.2 : Nat))]) (fun q => [rRow q.1 35 1 fR (((grpL rows g.toNat).take q.2).map fun x => heldG p j w.toNat x.2)]) (fun q => q.2 ≤ grpN rows.length g.toNat) (fun q => grpN rows.length g.toNat - q.2) ((.slice none 0 0, 0)) (Nat.zero_le _) (.cons rfl (by first | exact fun _ _ h => h | exact d_int (by omega) | exact d_int (by simp) | exact d_intN (by omega) | exact d_any) (.cons rfl (by first | exact fun _ _ h => h | exact d_int (by omega) | exact d_int (by simp) | exact d_intN (by omega) | exact d_any) .nil)) (rfl) ?_
          intro q hq ih11
          have hml : (((grpL rows g.toNat).take q.2).map fun x => heldG p j w.toNat x.2).length = q.2 := by rw [List.length_map, List.length_take, grpL_len]; omega
          refine run_seq ?_
          refine run_seq ?_
          refine run_region ?_
          refine run_op (loc_move rfl) rfl ?_
          refine run_op (loc_move rfl) rfl ?_
          refine run_op (loc_lss rfl rfl) rfl ?_
          refine run_nil ?_
          refine run_cond rfl (fun h12 => ?_) (fun h12 => ?_)
          ·
            have hlt : q.2 * g.toNat < rows.length := (grpN_lt (by omega)).1 (by omega)
            have hig : ((q.2 * g.toNat : Nat) : Int) = (q.2 : Int) * g := by rw [Int.natCast_mul, show ((g.toNat : Nat) : Int) = g by omega]
            have hq3 : q.2 < 1024 := by have := Nat.le_mul_of_pos_right q.2 (show 0 < g.toNat by omega); omega
            have hi2 : (q.2 + 1) * g.toNat = q.2 * g.toNat + g.toNat := by rw [Nat.add_mul, Nat.one_mul]
            have hgl : ((rows.take (min ((q.2 + 1) * g.toNat) rows.length)).drop (q.2 * g.toNat)).length = min ((q.2 + 1) * g.toNat) rows.length - q.2 * g.toNat := by rw [List.length_drop, List.length_take]; omega
            refine run_skip ?_
            refine run_seq ?_
            refine run_block ?_
            refine run_seq ?_
            refine run_region ?_
            refine run_op (loc_move rfl) rfl ?_
            refine run_new (loc_makeSlice rfl rfl (by first | omega | assumption) (by first | omega | assumption) _ _ rfl (by simp)) rfl (fun b77 _ => ?_)
            refine run_op (loc_assign rfl) rfl ?_
            refine run_nil ?_
            refine run_seq ?_
            refine run_seq ?_
            refine run_region ?_
            refine run_op (loc_assign rfl) rfl ?_
            refine run_nil ?_
            refine run_block ?_
            refine run_loopF (σ := Nat) (ks := [2, 3, 4, 5, 6, 15, 17, 18, 19]) (.cons rfl (.cons rfl (.cons rfl (.cons rfl (.cons rfl (.cons rfl (.cons rfl (.cons rfl (.cons rfl (.nil)))))))))) (fun k => [(20, dInt .i64 (k : Nat))]) (fun k => [rRow (.slice (some ⟨b77, 0, none⟩) w.toNat w.toNat) 3 1 fI (heldN p j w.toNat ((rows.take (min ((q.2 + 1) * g.toNat) rows.length)).drop (q.2 * g.toNat)) k)]) (fun k => k ≤ ((rows.take (min ((q.2 + 1) * g.toNat) rows.length)).drop (q.2 * g.toNat)).length) (fun k => ((rows.take (min ((q.2 + 1) * g.toNat) rows.length)).drop (q.2 * g.toNat)).length - k) (0) (Nat.zero_le _) (.cons rfl (by first | exact fun _ _ h => h | exact d_int (by omega) | exact d_int (by simp) | exact d_intN (by omega) | exact d_any) .nil) (rfl) ?_
            intro k hk ih13
            obtain ⟨hcl, hca⟩ := heldN_ok hpb j w.toNat ((rows.take (min ((q.2 + 1) * g.toNat) rows.length)).drop (q.2 * g.toNat)) k
            refine run_seq ?_
            refine run_seq ?_
            have hmb := mul_bd (a := (q.2 : Int)) (b := g) (A := 1024) (B := 10) (by omega) (by have := Nat.le_mul_of_pos_right q.2 (show 0 < g.toNat by omega); omega) (by omega) (by omega)
            refine run_region ?_
            refine run_op (loc_move rfl) rfl ?_
            refine run_op (loc_fieldAddr rfl) rfl ?_
            refine run_op (loc_load1 rfl) rfl ?_
            refine run_op (loc_lss rfl rfl) rfl ?_
            refine run_op (loc_move rfl) rfl ?_
            refine run_gfirst rfl rfl (by first | exact guard_true _ | exact guard_false _ | exact guard_if (guard_true _) | exact guard_if (guard_false _)) (fun hg => loc_move rfl) rfl ?_
            refine run_gop rfl rfl (by first | exact guard_true _ | exact guard_false _ | exact guard_if (guard_true _) | exact guard_if (guard_false _)) (fun hg => loc_fieldAddr rfl) rfl ?_
            refine run_gop rfl rfl (by first | exact guard_true _ | exact guard_false _ | exact guard_if (guard_true _) | exact guard_if (guard_false _)) (fun hg => loc_load1 rfl) rfl ?_
            first | refine run_gop rfl rfl (by first | exact guard_true _ | exact guard_false _ | exact guard_if (guard_true _) | exact guard_if (guard_false _)) (fun hg => loc_mul rfl rfl (by first | omega | assumption)) rfl ?_ | refine run_gop rfl rfl (by first | exact guard_true _ | exact guard_false _ | exact guard_if (guard_true _) | exact guard_if (guard_false _)) (fun hg => loc_mulW rfl rfl) rfl ?_
            refine run_gop rfl rfl (by first | exact guard_true _ | exact guard_false _ | exact guard_if (guard_true _) | exact guard_if (guard_false _)) (fun hg => loc_move rfl) rfl ?_
            first | refine run_gop rfl rfl (by first | exact guard_true _ | exact guard_false _ | exact guard_if (guard_true _) | exact guard_if (guard_false _)) (fun hg => loc_add rfl rfl (by first | omega | assumption)) rfl ?_ | refine run_gop rfl rfl (by first | exact guard_true _ | exact guard_false _ | exact guard_if (guard_true _) | exact guard_if (guard_false _)) (fun hg => loc_addW rfl rfl) rfl ?_
            refine run_gop rfl rfl (by first | exact guard_true _ | exact guard_false _ | exact guard_if (guard_true _) | exact guard_if (guard_false _)) (fun hg => loc_move rfl) rfl ?_
            refine run_gop rfl rfl (by first | exact guard_true _ | exact guard_false _ | exact guard_if (guard_true _) | exact guard_if (guard_false _)) (fun hg => loc_len rfl) rfl ?_
            refine run_gop rfl rfl (by first | exact guard_true _ | exact guard_false _ | exact guard_if (guard_true _) | exact guard_if (guard_false _)) (fun hg => loc_lss rfl rfl) rfl ?_
            refine run_gleave ?_
            refine run_op (loc_and rfl rfl) rfl ?_
            refine run_nil ?_
            refine run_cond rfl (fun h14 => ?_) (fun h14 => ?_)
            ·
              have hkl : k < ((rows.take (min ((q.2 + 1) * g.toNat) rows.length)).drop (q.2 * g.toNat)).length := by omega
              have hgk : rows[((q.2 : Int) * g + (k : Int)).toNat]?.getD default = (((rows.take (min ((q.2 + 1) * g.toNat) rows.length)).drop (q.2 * g.toNat))[k]?.getD default) := by rw [List.getElem?_drop, List.getElem?_take, if_pos (by omega)]; congr 2; omega
              have hrk := hr (rows[((q.2 : Int) * g + (k : Int)).toNat]?.getD default) (getD_mem (by omega))
              rw [hgk] at hrk
              have hrk1 := hrk.1
              have hpw : 0 ≤ powM p j k ∧ powM p j k < p := mod_bd _ (by omega)
              refine run_skip ?_
              refine run_seq ?_
              refine run_block ?_
              refine run_seq ?_
              refine run_region ?_
              refine run_op (loc_loadN rfl rfl) rfl ?_
              refine run_op (loc_move rfl) rfl ?_
              refine run_op (loc_move rfl) rfl ?_
              refine run_op (loc_call (rpow_spec _ _ _ ⟨by omega, by omega⟩ ⟨by omega, by omega⟩ (by omega)) rfl) rfl ?_
              refine run_op (loc_assign rfl) rfl ?_
              refine run_nil ?_
              refine run_seq ?_
              refine run_region ?_
              refine run_op (loc_move rfl) rfl ?_
              refine run_op (loc_move rfl) rfl ?_
              refine run_op (loc_fieldAddr rfl) rfl ?_
              refine run_op (loc_load1 rfl) rfl ?_
              first | refine run_op (loc_mul rfl rfl (by first | omega | assumption)) rfl ?_ | refine run_op (loc_mulW rfl rfl) rfl ?_
              refine run_op (loc_move rfl) rfl ?_
              first | refine run_op (loc_add rfl rfl (by first | omega | assumption)) rfl ?_ | refine run_op (loc_addW rfl rfl) rfl ?_
              first | refine run_op (loc_index rfl rfl (by first | omega | assumption)) rfl ?_ | refine run_op (loc_indexI rfl rfl (by first | omega | assumption)) rfl ?_
              refine run_op (loc_load1 rfl) rfl ?_
              first | refine runL_fact (s := 107) rfl (fun _ _ h => dSl_len h) (fun hlen15 => ?_) | skip
              refine run_op (loc_len rfl) rfl ?_
              refine run_op (loc_move rfl) rfl ?_
              refine run_nil ?_
              rw [hgk]
              refine run_block ?_
              refine run_loopF (σ := Nat) (ks := [2, 3, 4, 5, 6, 15, 17, 18, 19, 20, 21, 107, 108]) (.cons rfl (.cons rfl (.cons rfl (.cons rfl (.cons rfl (.cons rfl (.cons rfl (.cons rfl (.cons rfl (.cons rfl (.cons rfl (.cons rfl (.cons rfl (.nil)))))))))))))) (fun u => [(109, dInt .i64 (u : Nat))]) (fun u => [rRow (.slice (some ⟨b77, 0, none⟩) w.toNat w.toNat) 3 1 fI (addT p (powM p j k) (heldN p j w.toNat ((rows.take (min ((q.2 + 1) * g.toNat) rows.length)).drop (q.2 * g.toNat)) k) ((((rows.take (min ((q.2 + 1) * g.toNat) rows.length)).drop (q.2 * g.toNat))[k]?.getD default).take u))]) (fun u => u ≤ (((rows.take (min ((q.2 + 1) * g.toNat) rows.length)).drop (q.2 * g.toNat))[k]?.getD default).length) (fun u => (((rows.take (min ((q.2 + 1) * g.toNat) rows.length)).drop (q.2 * g.toNat))[k]?.getD default).length - u) (0) (Nat.zero_le _) (.cons rfl (by first | exact fun _ _ h => h | exact d_int (by omega) | exact d_int (by simp) | exact d_intN (by omega) | exact d_any) .nil) (by simp only [appR]; rw [List.take_zero, addT_nil]) ?_
              intro u hu ih16
              have hal := addT_len p (powM p j k) (heldN p j w.toNat ((rows.take (min ((q.2 + 1) * g.toNat) rows.length)).drop (q.2 * g.toNat)) k) ((((rows.take (min ((q.2 + 1) * g.toNat) rows.length)).drop (q.2 * g.toNat))[k]?.getD default).take u)
              refine run_seq ?_
              refine run_region ?_
              refine run_op (loc_lss rfl rfl) rfl ?_
              refine run_nil ?_
              refine run_seq ?_
              refine run_cond rfl (fun h17 => ?_) (fun h17 => ?_)
              ·
                have hx1 := hrk.2 _ (getD_mem (xs := (((rows.take (min ((q.2 + 1) * g.toNat) rows.length)).drop (q.2 * g.toNat))[k]?.getD default)) (k := u) (by omega))
                have hx2 := hca _ (getD_mem (xs := (heldN p j w.toNat ((rows.take (min ((q.2 + 1) * g.toNat) rows.length)).drop (q.2 * g.toNat)) k)) (k := u) (by omega))
                unfold hasP at hx1 hx2
                have hx3 := addT_get p (powM p j k) (heldN p j w.toNat ((rows.take (min ((q.2 + 1) * g.toNat) rows.length)).drop (q.2 * g.toNat)) k) ((((rows.take (min ((q.2 + 1) * g.toNat) rows.length)).drop (q.2 * g.toNat))[k]?.getD default).take u) u (by rw [List.length_take]; omega)
                have hmm := mul_bd (a := (powM p j k)) (b := (((rows.take (min ((q.2 + 1) * g.toNat) rows.length)).drop (q.2 * g.toNat))[k]?.getD default)[u]?.getD default) (A := 65521) (B := 65521) (by omega) (by omega) (by omega) (by omega)
                refine run_skip ?_
                refine run_seq ?_
                refine run_block ?_
                refine run_seq ?_
                refine run_region ?_
                refine run_op (loc_move rfl) rfl ?_
                first | refine run_op (loc_index rfl rfl (by first | omega | assumption)) rfl ?_ | refine run_op (loc_indexI rfl rfl (by first | omega | assumption)) rfl ?_
                refine run_op (loc_load1 rfl) rfl ?_
                refine run_op (loc_assign rfl) rfl ?_
                refine run_op (loc_assign rfl) rfl ?_
                refine run_nil ?_
                refine dr_start _ (.none) [⟨[(19, none)], [], none⟩,
                    ⟨[(22, none)], [], none⟩,
                    ⟨[(19, none)], [], none⟩,
                    ⟨[(22, none)], [], none⟩,
                    ⟨[(116, some (2, false)), (117, some (3, false))], [2, 3], none⟩,
                    ⟨[(118, some (4, false))], [2, 3, 4], some (0, 0, false)⟩,
                    ⟨[(21, none)], [], none⟩,
                    ⟨[(23, none)], [], none⟩,
                    ⟨[(120, some (6, false)), (121, some (7, false))], [6, 7], none⟩,
                    ⟨[(119, some (5, false)), (122, some (8, false))], [2, 3, 4, 5, 6, 7, 8], none⟩,
                    ⟨[(5, none)], [], none⟩,
                    ⟨[(124, some (10, false))], [10], none⟩,
                    ⟨[(123, some (9, false)), (125, some (11, false))], [2, 3, 4, 5, 6, 7, 8, 9, 10, 11], none⟩,
                    ⟨[(114, some (0, false)), (115, some (1, false))], [0, 1, 2, 3, 4, 5, 6, 7, 8, 9, 10, 11, 12], none⟩,
                    ⟨[(127, some (13, false)), (126, some (12, false))], [0, 1, 2, 3, 4, 5, 6, 7, 8, 9, 10, 11, 12, 13], some (0, 0, true)⟩] [_, _] _ rfl rfl ?_
                refine dq_pure rfl (fun s => .g rfl (.nil)) (fun s hs _ => loc_move rfl) (by exact .nil) ?_
                refine dq_pure rfl (fun s => .g rfl (.nil)) (fun s hs _ => loc_move rfl) (by exact .nil) ?_
                refine dq_pure rfl (fun s => .g rfl (.nil)) (fun s hs _ => loc_move rfl) (by exact .nil) ?_
                refine dq_pure rfl (fun s => .g rfl (.nil)) (fun s hs _ => loc_move rfl) (by exact .nil) ?_
                first | refine dq_pure rfl (fun s => .op rfl (.op rfl (.nil))) (fun s hs _ => loc_indexRow rfl rfl (by first | omega | assumption)) (by exact .nil) ?_ | refine dq_pure rfl (fun s => .op rfl (.op rfl (.nil))) (fun s hs _ => loc_indexRowI rfl rfl (by first | omega | assumption)) (by exact .nil) ?_
                refine dq_read rfl (fun s => .op rfl (.nil)) rfl rfl (fun s hs _ hm => loc_loadRow1 rfl hm (by first | omega | assumption)) (by exact .nil) ?_
                refine dq_pure rfl (fun s => .g rfl (.nil)) (fun s hs _ => loc_move rfl) (by exact .nil) ?_
                refine dq_pure rfl (fun s => .g rfl (.nil)) (fun s hs _ => loc_move rfl) (by exact .nil) ?_
                first | refine dq_pure rfl (fun s => .op rfl (.op rfl (.nil))) (fun s hs _ => loc_mul rfl rfl (by first | omega | assumption)) (by exact .nil) ?_ | refine dq_pure rfl (fun s => .op rfl (.op rfl (.nil))) (fun s hs _ => loc_mulW rfl rfl) (by exact .nil) ?_
                first | refine dq_pure rfl (fun s => .op rfl (.op rfl (.nil))) (fun s hs _ => loc_add rfl rfl (by first | omega | assumption)) (by exact .nil) ?_ | refine dq_pure rfl (fun s => .op rfl (.op rfl (.nil))) (fun s hs _ => loc_addW rfl rfl) (by exact .nil) ?_
                refine dq_pure rfl (fun s => .g rfl (.nil)) (fun s hs _ => loc_fieldAddr rfl) (by exact .nil) ?_
                refine dq_pure rfl (fun s => .op rfl (.nil)) (fun s hs _ => loc_load1 rfl) (by exact .nil) ?_
                first | refine dq_pure rfl (fun s => .op rfl (.op rfl (.nil))) (fun s hs _ => loc_rem rfl rfl (by first | omega | assumption)) (by exact .nil) ?_ | refine dq_pure rfl (fun s => .op rfl (.op rfl (.nil))) (fun s hs _ => loc_remW rfl rfl (by first | omega | assumption)) (by exact .nil) ?_
                first | refine dq_pure rfl (fun s => .op rfl (.op rfl (.nil))) (fun s hs _ => loc_indexRow rfl rfl (by first | omega | assumption)) (by exact .nil) ?_ | refine dq_pure rfl (fun s => .op rfl (.op rfl (.nil))) (fun s hs _ => loc_indexRowI rfl rfl (by first | omega | assumption)) (by exact .nil) ?_
                refine dq_write0 rfl (fun s => .op rfl (.op rfl (.nil))) rfl rfl (fun s hs => loc_storeRow1 _ rfl rfl rfl (by first | omega | assumption)) (by exact .nil) ?_
                refine dq_end (rs := [_, _]) () rfl (fun _ => rfl) (.nil) rfl (fun _ _ => ?_)
                dsimp only [outG, outM, List.map, List.set, id]
                refine run_inBlock ?_
                refine run_region ?_
                first | refine run_op (loc_add rfl rfl (by first | omega | assumption)) rfl ?_ | refine run_op (loc_addW rfl rfl) rfl ?_
                refine run_op (loc_move rfl) rfl ?_
                refine run_nil ?_
                exact run_againF ih16 (u + 1) (by omega) (by omega) (.cons rfl (by first | exact fun _ _ h => h | exact d_int (by omega) | exact d_int (by simp) | exact d_intN (by omega) | exact d_any) .nil) (.cons rfl (fun _ _ x => x) (.cons rfl (fun _ _ x => x) (.cons rfl (fun _ _ x => x) (.cons rfl (fun _ _ x => x) (.cons rfl (fun _ _ x => x) (.cons rfl (fun _ _ x => x) (.cons rfl (fun _ _ x => x) (.cons rfl (fun _ _ x => x) (.cons rfl (fun _ _ x => x) (.cons rfl (fun _ _ x => x) (.cons rfl (fun _ _ x => x) (.cons rfl (fun _ _ x => x) (.cons rfl (fun _ _ x => x) (.nil)))))))))))))) (by simp only [appR]; rw [addT_take p (powM p j k) (heldN p j w.toNat ((rows.take (min ((q.2 + 1) * g.toNat) rows.length)).drop (q.2 * g.toNat)) k) (((rows.take (min ((q.2 + 1) * g.toNat) rows.length)).drop (q.2 * g.toNat))[k]?.getD default) u (by omega) (by omega), Int.add_emod_emod, hx3])
              ·
                refine run_exit rfl ?_
                refine run_inBlock ?_
                refine run_region ?_
                refine run_op (loc_move rfl) rfl ?_
                first | refine run_op (loc_add rfl rfl (by first | omega | assumption)) rfl ?_ | refine run_op (loc_addW rfl rfl) rfl ?_
                refine run_op (loc_assign rfl) rfl ?_
                refine run_nil ?_
                exact run_againF ih13 (k + 1) (by omega) (by omega) (.cons rfl (by first | exact fun _ _ h => h | exact d_int (by omega) | exact d_int (by simp) | exact d_intN (by omega) | exact d_any) .nil) (.cons rfl (fun _ _ x => x) (.cons rfl (fun _ _ x => x) (.cons rfl (fun _ _ x => x) (.cons rfl (fun _ _ x => x) (.cons rfl (fun _ _ x => x) (.cons rfl (fun _ _ x => x) (.cons rfl (fun _ _ x => x) (.cons rfl (fun _ _ x => x) (.cons rfl (fun _ _ x => x) (.nil)))))))))) (by simp only [appR]; rw [List.take_of_length_le (l := (((rows.take (min ((q.2 + 1) * g.toNat) rows.length)).drop (q.2 * g.toNat))[k]?.getD default)) (by omega), heldN_snoc])
            ·
              refine run_exit rfl ?_
              refine run_freezeRow (s := 19) rfl (.here) ?_
              refine run_region ?_
              refine run_op (loc_move rfl) rfl ?_
              refine run_op (loc_move rfl) rfl ?_
              refine run_op (loc_buildSlice rfl rfl (.one rfl (.nil)) rfl rfl) rfl ?_
              refine run_append1 rfl (.here) rfl (by rfl) (by rfl) (by first | omega | (unfold lenMax; omega) | assumption | (simp; omega) | (simp [lenMax]; omega)) (by first | omega | (unfold lenMax; omega) | assumption | (simp; omega) | (simp [lenMax]; omega)) rfl (fun v18 => ?_)
              refine run_op (loc_assign rfl) rfl ?_
              refine run_nil ?_
              refine run_inBlock ?_
              refine run_region ?_
              refine run_op (loc_move rfl) rfl ?_
              first | refine run_op (loc_add rfl rfl (by first | omega | assumption)) rfl ?_ | refine run_op (loc_addW rfl rfl) rfl ?_
              refine run_op (loc_assign rfl) rfl ?_
              refine run_nil ?_
              exact run_againF ih11 ((v18, q.2 + 1)) (by simp only; omega) (by simp only; omega) (.cons rfl (by first | exact fun _ _ h => h | exact d_int (by omega) | exact d_int (by simp) | exact d_intN (by omega) | exact d_any) (.cons rfl (by first | exact fun _ _ h => h | exact d_int (by omega) | exact d_int (by simp) | exact d_intN (by omega) | exact d_any) .nil)) (.cons rfl (fun _ _ x => x) (.cons rfl (fun _ _ x => x) (.cons rfl (fun _ _ x => x) (.cons rfl (fun _ _ x => x) (.cons rfl (fun _ _ x => x) (.cons rfl (fun _ _ x => x) (.nil))))))) (by simp only [appR]; rw [List.take_add_one, grpL_get (by omega) hlt, List.map_append, show k = ((rows.take (min ((q.2 + 1) * g.toNat) rows.length)).drop (q.2 * g.toNat)).length by omega]; rfl)
          ·
            refine run_exit rfl ?_
            refine run_seq ?_
            refine run_freezeRow (s := 17) rfl (.here) ?_
            refine run_region ?_
            refine run_op (loc_move rfl) rfl ?_
            refine run_op (loc_assign rfl) rfl ?_
            refine run_op (loc_assign rfl) rfl ?_
            refine run_nil ?_
            refine run_ret2P Try.func42 rfl rfl rfl ?_
            exact d_tup2 (d_toRows (by unfold holdG; rw [if_pos hE, List.take_of_length_le (by rw [grpL_len]; omega)]) (fun _ _ h => h)) (fun _ _ h => h)

end Go.Q

namespace Go.Q
open Go.Proofs

open Classical
theorem sto30_spec (s : Schm) : SpecP Try.prog 43 [dSchm s] (dAgg [dInt .i64 s.servers, dInt .i64 s.degree, dInt .i64 s.group]) := by
  refine specP_of_body Try.func43 rfl rfl (fun I M => ?_)
  refine run_seq ?_
  refine run_region ?_
  refine run_op (loc_boxN rfl) rfl ?_
  refine run_new (loc_allocOwn (by simp)) rfl (fun b1 _ => ?_)
  refine run_nil ?_
  refine run_seq ?_
  refine run_region ?_
  refine run_op (loc_fieldAddr rfl) rfl ?_
  refine run_op (loc_load1 rfl) rfl ?_
  refine run_op (loc_fieldAddr rfl) rfl ?_
  refine run_op (loc_load1 rfl) rfl ?_
  refine run_op (loc_fieldAddr rfl) rfl ?_
  refine run_op (loc_load1 rfl) rfl ?_
  refine run_op (loc_build (.one rfl rfl rfl (.one rfl rfl rfl (.one rfl rfl rfl (.nil))))) rfl ?_
  refine run_storeN (ho := (by show OneAll [_, _, _]; infer_instance)) rfl rfl (.here) (by rfl) ?_
  refine run_nil ?_
  refine run_retGP Try.func43 rfl (.cellN rfl (by first | exact .here | exact .there .here | exact .there (.there .here) | exact .there (.there (.there .here)) | exact .there (.there (.there (.there .here))) | exact .there (.there (.there (.there (.there .here))))) (by rfl) (.nil)) ?_ (fun _ _ h => inv_tail (h))
  exact fun _ _ h => h

theorem rhold23_spec (s : Schm) (t : Tab) (j : Int) (ht : checkT t = 0) (hv : validS s t.p) (hn1 : 1 ≤ t.rows.length) (hj : 1 ≤ j ∧ j ≤ s.servers) : SpecP Try.prog 18 [dSchm s, dTab t, dInt .i64 j] (dTup [dRows (hldL s t j), dInt .i64 0]) := by
  have hct := checkT_ok ht
  have hsh := hv.1
  have hctw := hct.2.2.1
  have hctn := hct.2.2.2.1
  have heq : hldL s t j = if s.kind = 3 then holdG t.p s.servers s.degree s.group t.width t.rows j else t.rows := by unfold hldL; rw [if_neg (hld_no ht hv hj)]
  refine specP_of_body Try.func18 rfl rfl (fun I M => ?_)
  refine run_seq ?_
  refine run_region ?_
  refine run_op (loc_boxN rfl) rfl ?_
  refine run_op (loc_boxN rfl) rfl ?_
  refine run_op (loc_assign rfl) rfl ?_
  refine run_op (loc_assign rfl) rfl ?_
  refine run_nil ?_
  refine run_seq ?_
  refine run_seq ?_
  refine run_region ?_
  refine run_op (loc_loadN rfl rfl) rfl ?_
  refine run_op (loc_call (rtcheck_spec _) rfl) rfl ?_
  refine run_op (loc_assign rfl) rfl ?_
  refine run_nil ?_
  refine run_seq ?_
  refine run_region ?_
  refine run_op (loc_move rfl) rfl ?_
  refine run_op (loc_neq rfl rfl) rfl ?_
  refine run_nil ?_
  refine run_cond rfl (fun h1 => ?_) (fun h1 => ?_)
  · exfalso; exact h1 ht
  ·
    refine run_skip ?_
    refine run_seq ?_
    refine run_seq ?_
    refine run_region ?_
    refine run_op (loc_loadN rfl rfl) rfl ?_
    refine run_op (loc_fieldAddr rfl) rfl ?_
    refine run_op (loc_loadN rfl rfl) rfl ?_
    refine run_op (loc_call (rvalid_spec _ _) rfl) rfl ?_
    refine run_op (loc_not rfl) rfl ?_
    refine run_nil ?_
    refine run_cond rfl (fun h2 => ?_) (fun h2 => ?_)
    · exfalso; exact h2 hv
    ·
      refine run_skip ?_
      refine run_seq ?_
      refine run_seq ?_
      refine run_region ?_
      refine run_op (loc_move rfl) rfl ?_
      refine run_op (loc_lss rfl rfl) rfl ?_
      refine run_op (loc_move rfl) rfl ?_
      refine run_gfirst rfl rfl (by first | exact guard_true _ | exact guard_false _ | exact guard_if (guard_true _) | exact guard_if (guard_false _)) (fun hg => loc_move rfl) rfl ?_
      refine run_gop rfl rfl (by first | exact guard_true _ | exact guard_false _ | exact guard_if (guard_true _) | exact guard_if (guard_false _)) (fun hg => loc_fieldAddr rfl) rfl ?_
      refine run_gop rfl rfl (by first | exact guard_true _ | exact guard_false _ | exact guard_if (guard_true _) | exact guard_if (guard_false _)) (fun hg => loc_load1 rfl) rfl ?_
      refine run_gop rfl rfl (by first | exact guard_true _ | exact guard_false _ | exact guard_if (guard_true _) | exact guard_if (guard_false _)) (fun hg => loc_gtr rfl rfl) rfl ?_
      refine run_gleave ?_
      refine run_op (loc_or rfl rfl) rfl ?_
      refine run_nil ?_
      refine run_cond rfl (fun h3 => ?_) (fun h3 => ?_)
      · exfalso; omega
      ·
        refine run_skip ?_
        refine run_seq ?_
        refine run_seq ?_
        refine run_region ?_
        refine run_op (loc_fieldAddr rfl) rfl ?_
        refine run_op (loc_load1 rfl) rfl ?_
        refine run_op (loc_eql rfl rfl) rfl ?_
        refine run_nil ?_
        refine run_cond rfl (fun h4 => ?_) (fun h4 => ?_)
        ·
          have c3 := h4
          have hcd : codE t.p s.servers s.degree s.group = 0 := codE_ok hv.2.1 (by unfold shapeS at hsh; omega) (hv.2.2.resolve_left (by omega)) (by unfold shapeS at hsh; omega) (by unfold shapeS at hsh; omega) (by unfold shapeS at hsh; omega)
          refine run_seq ?_
          refine dr_start _ (.none) [⟨[(4, none)], [], none⟩,
              ⟨[(32, some (0, false))], [0], none⟩,
              ⟨[(3, none)], [], none⟩,
              ⟨[(34, some (2, false))], [2], none⟩,
              ⟨[(4, none)], [], none⟩,
              ⟨[(36, some (4, false))], [4], none⟩,
              ⟨[(4, none)], [], none⟩,
              ⟨[(38, some (6, false))], [6], none⟩,
              ⟨[(2, none)], [], none⟩,
              ⟨[(33, some (1, false)), (35, some (3, false)), (37, some (5, false)), (39, some (7, false)), (40, some (8, false))], [0, 1, 2, 3, 4, 5, 6, 7, 8], none⟩,
              ⟨[(41, some (9, false))], [0, 1, 2, 3, 4, 5, 6, 7, 8, 9], none⟩,
              ⟨[(41, some (9, false))], [0, 1, 2, 3, 4, 5, 6, 7, 8, 9], none⟩,
              ⟨[(42, some (10, false))], [0, 1, 2, 3, 4, 5, 6, 7, 8, 9, 10, 11], none⟩,
              ⟨[(43, some (11, false))], [0, 1, 2, 3, 4, 5, 6, 7, 8, 9, 10, 11, 12], none⟩] [] _ rfl rfl ?_
          refine dq_pure rfl (fun s => .g rfl (.nil)) (fun s hs _ => loc_fieldAddr rfl) (by exact .nil) ?_
          refine dq_pure rfl (fun s => .op rfl (.nil)) (fun s hs _ => loc_loadN rfl rfl) (by exact .nil) ?_
          refine dq_pure rfl (fun s => .g rfl (.nil)) (fun s hs _ => loc_loadN rfl rfl) (by exact .nil) ?_
          refine dq_pure rfl (fun s => .op rfl (.nil)) (fun s hs _ => loc_call (sto30_spec _) rfl) (by exact .nil) ?_
          refine dq_pure rfl (fun s => .g rfl (.nil)) (fun s hs _ => loc_fieldAddr rfl) (by exact .nil) ?_
          refine dq_pure rfl (fun s => .op rfl (.nil)) (fun s hs _ => loc_load1 rfl) (by exact .nil) ?_
          refine dq_pure rfl (fun s => .g rfl (.nil)) (fun s hs _ => loc_fieldAddr rfl) (by exact .nil) ?_
          refine dq_pure rfl (fun s => .op rfl (.nil)) (fun s hs _ => loc_load1 rfl) (by exact .nil) ?_
          refine dq_pure rfl (fun s => .g rfl (.nil)) (fun s hs _ => loc_move rfl) (by exact .nil) ?_
          refine dq_pure rfl (fun s => .op rfl (.op rfl (.op rfl (.op rfl (.op rfl (.nil)))))) (fun s hs _ => loc_call (rhold18_spec _ _ _ _ _ _ _ hcd hj (by omega) (by omega) hct.2.2.2.2) rfl) (by exact .nil) ?_
          refine dq_pure rfl (fun s => .op rfl (.nil)) (fun s hs _ => loc_extract rfl rfl) (by exact .nil) ?_
          refine dq_pure rfl (fun s => .op rfl (.nil)) (fun s hs _ => loc_extract rfl rfl) (by exact .nil) ?_
          refine dq_pure rfl (fun s => .op rfl (.nil)) (fun s hs _ => loc_assign rfl) (by exact .nil) ?_
          refine dq_pure rfl (fun s => .op rfl (.nil)) (fun s hs _ => loc_assign rfl) (by exact .nil) ?_
          refine dq_end (rs := []) () rfl (fun _ => rfl) (.nil) rfl (fun _ _ => ?_)
          dsimp only [outG, outM, List.map, List.set, id]
          refine run_ret2P Try.func18 rfl rfl rfl ?_
          exact d_tup2 (d_toRows (by rw [heq, if_pos c3]) (fun _ _ h => h)) (fun _ _ h => h)
        ·
          have c3 := h4
          refine run_skip ?_
          refine run_seq ?_
          refine run_region ?_
          refine run_op (loc_assign rfl) rfl ?_
          refine run_nil ?_
          refine run_seq ?_
          refine run_seq ?_
          refine run_region ?_
          refine run_op (loc_assign rfl) rfl ?_
          refine run_nil ?_
          refine run_block ?_
          refine run_rowNil 35 1 fR ?_
          refine run_loopF (σ := Value × Nat) (ks := [4]) (.cons rfl (.nil)) (fun q => [(9, dVal q.1), (10, dInt .i64 (q.2 : Nat))]) (fun q => [rRow q.1 35 1 fR (t.rows.take q.2)]) (fun q => q.2 ≤ t.rows.length) (fun q => t.rows.length - q.2) ((.slice none 0 0, 0)) (Nat.zero_le _) (.cons rfl (by first | exact fun _ _ h => h | exact d_int (by omega) | exact d_int (by simp) | exact d_intN (by omega) | exact d_any) (.cons rfl (by first | exact fun _ _ h => h | exact d_int (by omega) | exact d_int (by simp) | exact d_intN (by omega) | exact d_any) .nil)) (rfl) ?_
          intro q hq ih5
          have hql : (t.rows.take q.2).length = q.2 := by rw [List.length_take]; omega
          refine run_seq ?_
          refine run_seq ?_
          refine run_region ?_
          refine run_op (loc_move rfl) rfl ?_
          refine run_op (loc_fieldAddr rfl) rfl ?_
          refine run_op (loc_load1 rfl) rfl ?_
          first | refine runL_fact (s := 46) rfl (fun _ _ h => dSl_len h) (fun hlen6 => ?_) | skip
          refine run_op (loc_len rfl) rfl ?_
          refine run_op (loc_lss rfl rfl) rfl ?_
          refine run_nil ?_
          refine run_cond rfl (fun h7 => ?_) (fun h7 => ?_)
          ·
            have hrl := (hct.2.2.2.2 _ (getD_mem (xs := t.rows) (k := q.2) (by omega))).1
            refine run_skip ?_
            refine run_seq ?_
            refine run_block ?_
            refine run_region ?_
            refine run_op (loc_move rfl) rfl ?_
            refine run_new (loc_build0 fI) rfl (fun b8 _ => ?_)
            refine run_op (loc_fieldAddr rfl) rfl ?_
            refine run_op (loc_load1 rfl) rfl ?_
            refine run_op (loc_move rfl) rfl ?_
            first | refine run_op (loc_index rfl rfl (by first | omega | assumption)) rfl ?_ | refine run_op (loc_indexI rfl rfl (by first | omega | assumption)) rfl ?_
            refine run_op (loc_load1 rfl) rfl ?_
            refine run_upd (LocM.frz (loc_append rfl rfl rfl (by first | omega | (unfold lenMax; omega) | assumption | (simp; omega) | (simp [lenMax]; omega)) (by first | omega | (unfold lenMax; omega) | assumption | (simp; omega) | (simp [lenMax]; omega))) rfl) rfl (.here) (fun v9 hv9 => ?_)
            refine run_op (loc_buildSlice rfl rfl (.one rfl (.nil)) rfl rfl) rfl ?_
            refine run_append1 (e0 := (t.rows[q.2]?.getD default)) rfl (.there (.here)) rfl (by rfl) (by rfl) (by first | omega | (unfold lenMax; omega) | assumption | (simp; omega) | (simp [lenMax]; omega)) (by first | omega | (unfold lenMax; omega) | assumption | (simp; omega) | (simp [lenMax]; omega)) rfl (fun v10 => ?_)
            refine run_op (loc_assign rfl) rfl ?_
            refine run_nil ?_
            refine run_inBlock ?_
            refine run_region ?_
            refine run_op (loc_move rfl) rfl ?_
            first | refine run_op (loc_add rfl rfl (by first | omega | assumption)) rfl ?_ | refine run_op (loc_addW rfl rfl) rfl ?_
            refine run_op (loc_assign rfl) rfl ?_
            refine run_nil ?_
            refine run_drop (.cons _ (.refl _)) ?_
            exact run_againF ih5 ((v10, q.2 + 1)) (by simp only; omega) (by simp only; omega) (.cons rfl (by first | exact fun _ _ h => h | exact d_int (by omega) | exact d_int (by simp) | exact d_intN (by omega) | exact d_any) (.cons rfl (by first | exact fun _ _ h => h | exact d_int (by omega) | exact d_int (by simp) | exact d_intN (by omega) | exact d_any) .nil)) (.cons rfl (fun _ _ x => x) (.nil)) (by simp only [appR]; rw [take_snocR (by omega)]; try rfl)
          ·
            refine run_exit rfl ?_
            refine run_seq ?_
            refine run_freezeRow (s := 9) rfl (.here) ?_
            refine run_region ?_
            refine run_op (loc_move rfl) rfl ?_
            refine run_op (loc_assign rfl) rfl ?_
            refine run_op (loc_assign rfl) rfl ?_
            refine run_nil ?_
            refine run_ret2P Try.func18 rfl rfl rfl ?_
            exact d_tup2 (d_toRows (by rw [heq, if_neg c3, List.take_of_length_le (by omega)]) (fun _ _ h => h)) (fun _ _ h => h)

end Go.Q
