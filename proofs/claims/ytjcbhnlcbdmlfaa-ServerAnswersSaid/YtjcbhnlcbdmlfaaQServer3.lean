/- Contracts of servers: versions and queries. -/
import Derived.Test.YtjcbhnlcbdmlfaaQServer
set_option linter.unusedVariables false
set_option linter.unusedSimpArgs false
namespace Go.Q
open Go.Proofs

open Classical
theorem finF_spec (p : Int) (xs : List Int) : SpecP Try.prog 33 [dAgg [dInt .i64 p], dInts xs] (dB (okP p ∧ allP p xs)) := by
  refine specP_of_body Try.func33 rfl rfl (fun I M => ?_)
  refine run_seq ?_
  refine run_region ?_
  refine run_op (loc_boxN rfl) rfl ?_
  refine run_op (loc_assign rfl) rfl ?_
  refine run_nil ?_
  refine run_seq ?_
  refine run_region ?_
  refine run_op (loc_loadN rfl rfl) rfl ?_
  refine run_op (loc_call (of_spec _) rfl) rfl ?_
  refine run_op (loc_move rfl) rfl ?_
  refine run_op (loc_extract rfl rfl) rfl ?_
  refine run_op (loc_extract rfl rfl) rfl ?_
  refine run_op (loc_assign rfl) rfl ?_
  refine run_op (loc_assign rfl) rfl ?_
  refine run_nil ?_
  refine run_seq ?_
  refine run_region ?_
  refine run_op (loc_move rfl) rfl ?_
  refine run_op (loc_move rfl) rfl ?_
  refine run_gfirst rfl rfl (by first | exact guard_true _ | exact guard_false _ | exact guard_if (guard_true _) | exact guard_if (guard_false _)) (fun hg => loc_move rfl) rfl ?_
  refine run_gop rfl rfl (by first | exact guard_true _ | exact guard_false _ | exact guard_if (guard_true _) | exact guard_if (guard_false _)) (fun hg => loc_move rfl) rfl ?_
  refine run_gop rfl rfl (by first | exact guard_true _ | exact guard_false _ | exact guard_if (guard_true _) | exact guard_if (guard_false _)) (fun hg => loc_call (all_spec _ _) rfl) rfl ?_
  refine run_gleave ?_
  refine run_op (loc_and rfl rfl) rfl ?_
  refine run_op (loc_assign rfl) rfl ?_
  refine run_nil ?_
  refine run_retP Try.func33 rfl rfl ?_
  exact d_B (by constructor; (· rintro ⟨a, b⟩; refine ⟨a, fun x hx => ?_⟩; have := b x hx; rwa [show ofP p = p by unfold ofP; rw [if_pos a]] at this); (· rintro ⟨a, b⟩; refine ⟨a, fun x hx => ?_⟩; rw [show ofP p = p by unfold ofP; rw [if_pos a]]; exact b x hx))

theorem reduceF_spec (p x : Int) (hp : okP p) : SpecP Try.prog 78 [dAgg [dInt .i64 p], dInt .i64 x] (dTup [dInt .i64 (x % p), dInt .i64 0]) := by
  have hp1 := hp.1
  have hp2 := hp.2.1
  have hb := tmod_bd x p (by omega)
  refine specP_of_body Try.func78 rfl rfl (fun I M => ?_)
  refine run_seq ?_
  refine run_region ?_
  refine run_op (loc_boxN rfl) rfl ?_
  refine run_op (loc_assign rfl) rfl ?_
  refine run_op (loc_assign rfl) rfl ?_
  refine run_nil ?_
  refine run_seq ?_
  refine run_seq ?_
  refine run_region ?_
  refine run_op (loc_loadN rfl rfl) rfl ?_
  refine run_op (loc_call (of_spec _) rfl) rfl ?_
  refine run_op (loc_move rfl) rfl ?_
  refine run_op (loc_extract rfl rfl) rfl ?_
  refine run_op (loc_extract rfl rfl) rfl ?_
  refine run_op (loc_assign rfl) rfl ?_
  refine run_op (loc_assign rfl) rfl ?_
  refine run_nil ?_
  refine run_seq ?_
  refine run_region ?_
  refine run_op (loc_move rfl) rfl ?_
  refine run_op (loc_not rfl) rfl ?_
  refine run_nil ?_
  refine run_cond rfl (fun h1 => ?_) (fun h1 => ?_)
  · exfalso; exact h1 hp
  ·
    refine run_skip ?_
    refine run_seq ?_
    refine dr_start _ (.none) [⟨[(1, none)], [], none⟩,
        ⟨[(2, none)], [], none⟩,
        ⟨[(16, some (1, false))], [1], none⟩,
        ⟨[(15, some (0, false)), (17, some (2, false))], [0, 1, 2], none⟩,
        ⟨[(2, none)], [], none⟩,
        ⟨[(19, some (4, false))], [4], none⟩,
        ⟨[(18, some (3, false)), (20, some (5, false))], [0, 1, 2, 3, 4, 5], none⟩,
        ⟨[(2, none)], [], none⟩,
        ⟨[(22, some (7, false))], [7], none⟩,
        ⟨[(21, some (6, false)), (23, some (8, false))], [0, 1, 2, 3, 4, 5, 6, 7, 8], none⟩,
        ⟨[(24, some (9, false))], [0, 1, 2, 3, 4, 5, 6, 7, 8, 9], none⟩,
        ⟨[], [0, 1, 2, 3, 4, 5, 6, 7, 8, 9, 10], none⟩] [] _ rfl rfl ?_
    refine dq_pure rfl (fun s => .g rfl (.nil)) (fun s hs _ => loc_move rfl) (by exact .nil) ?_
    refine dq_pure rfl (fun s => .g rfl (.nil)) (fun s hs _ => loc_fieldAddr rfl) (by exact .nil) ?_
    refine dq_pure rfl (fun s => .op rfl (.nil)) (fun s hs _ => loc_load1 rfl) (by exact .nil) ?_
    first | refine dq_pure rfl (fun s => .op rfl (.op rfl (.nil))) (fun s hs _ => loc_rem rfl rfl (by first | omega | assumption)) (by exact .nil) ?_ | refine dq_pure rfl (fun s => .op rfl (.op rfl (.nil))) (fun s hs _ => loc_remW rfl rfl (by first | omega | assumption)) (by exact .nil) ?_
    refine dq_pure rfl (fun s => .g rfl (.nil)) (fun s hs _ => loc_fieldAddr rfl) (by exact .nil) ?_
    refine dq_pure rfl (fun s => .op rfl (.nil)) (fun s hs _ => loc_load1 rfl) (by exact .nil) ?_
    first | refine dq_pure rfl (fun s => .op rfl (.op rfl (.nil))) (fun s hs _ => loc_add rfl rfl (by first | omega | assumption)) (by exact .nil) ?_ | refine dq_pure rfl (fun s => .op rfl (.op rfl (.nil))) (fun s hs _ => loc_addW rfl rfl) (by exact .nil) ?_
    refine dq_pure rfl (fun s => .g rfl (.nil)) (fun s hs _ => loc_fieldAddr rfl) (by exact .nil) ?_
    refine dq_pure rfl (fun s => .op rfl (.nil)) (fun s hs _ => loc_load1 rfl) (by exact .nil) ?_
    first | refine dq_pure rfl (fun s => .op rfl (.op rfl (.nil))) (fun s hs _ => loc_rem rfl rfl (by first | omega | assumption)) (by exact .nil) ?_ | refine dq_pure rfl (fun s => .op rfl (.op rfl (.nil))) (fun s hs _ => loc_remW rfl rfl (by first | omega | assumption)) (by exact .nil) ?_
    refine dq_pure rfl (fun s => .op rfl (.nil)) (fun s hs _ => loc_assign rfl) (by exact .nil) ?_
    refine dq_pure rfl (fun s => .nil) (fun s hs _ => loc_assign rfl) (by exact .nil) ?_
    refine dq_end (rs := []) () rfl (fun _ => rfl) (.nil) rfl (fun _ _ => ?_)
    dsimp only [outG, outM, List.map, List.set, id]
    refine run_ret2P Try.func78 rfl rfl rfl ?_
    exact d_tup2 (d_int (mod_twice x p (by omega))) (fun _ _ h => h)

theorem vfind1_spec (h : Held) (n : Int) : SpecP Try.prog 58 [dHeld h, dInt .i64 n] (dInt .i64 (cmpI h.head.number n)) := by
  refine specP_of_body Try.func58 rfl rfl (fun I M => ?_)
  refine run_seq ?_
  refine run_region ?_
  refine run_op (loc_boxN rfl) rfl ?_
  refine run_op (loc_assign rfl) rfl ?_
  refine run_nil ?_
  refine run_seq ?_
  refine run_region ?_
  refine run_op (loc_fieldAddr rfl) rfl ?_
  refine run_op (loc_fieldAddr rfl) rfl ?_
  refine run_op (loc_load1 rfl) rfl ?_
  refine run_op (loc_move rfl) rfl ?_
  refine run_op (loc_call (compare_spec _ _) rfl) rfl ?_
  refine run_op (loc_assign rfl) rfl ?_
  refine run_nil ?_
  refine run_retP Try.func58 rfl rfl ?_
  exact fun _ _ h => h

theorem bsV_spec (xs : List Held) (n : Int) : SpecP Try.prog 57 [dSl 6 cHeld xs, dInt .i64 n, dVal (.func (.func 58) #[] #[])] (dTup [dInt .i64 (bsF (fun h : Held => cmpI h.head.number n) xs : Nat), dB (bsF (fun h : Held => cmpI h.head.number n) xs < xs.length ∧ cmpI (xs[bsF (fun h : Held => cmpI h.head.number n) xs]?.getD default).head.number n = 0)]) :=
  specP_pre (binSearchHl_spec (fun h : Held => cmpI h.head.number n) xs n) (relL_last (ds := [dSl 6 cHeld xs, dInt .i64 n]) (val_fun (P := Try.prog) (Ds := fun h : Held => [dHeld h, dInt .i64 n]) (d := fun h => dInt .i64 (cmpI h.head.number n)) (fun h => vfind1_spec h n)))
theorem vfind_spec (v : Srv) (n : Int) : SpecP Try.prog 29 [dSrv v, dInt .i64 n] (dTup [dInt .i64 (atV v n : Nat), dB (thereV v n)]) := by
  refine specP_of_body Try.func29 rfl rfl (fun I M => ?_)
  refine run_seq ?_
  refine run_region ?_
  refine run_op (loc_boxN rfl) rfl ?_
  refine run_op (loc_assign rfl) rfl ?_
  refine run_op (loc_assign rfl) rfl ?_
  refine run_nil ?_
  refine run_seq ?_
  refine run_region ?_
  refine run_op (loc_fieldAddr rfl) rfl ?_
  refine run_op (loc_load1 rfl) rfl ?_
  refine run_op (loc_move rfl) rfl ?_
  refine run_op (loc_call (bsV_spec _ _) rfl) rfl ?_
  refine run_op (loc_extract rfl rfl) rfl ?_
  refine run_op (loc_extract rfl rfl) rfl ?_
  refine run_op (loc_assign rfl) rfl ?_
  refine run_op (loc_assign rfl) rfl ?_
  refine run_nil ?_
  refine run_ret2P Try.func29 rfl rfl rfl ?_
  exact fun _ _ h => h

theorem vload_spec (v : Srv) (t : Tab) (hv : szSrv v) : SpecP Try.prog 8 [dSrv v, dTab t] (dTup [dSrv (loadV v t), dInt .i64 (loadE v t)]) := by
  have hv1 := hv.1
  refine specP_of_body Try.func8 rfl rfl (fun I M => ?_)
  refine run_seq ?_
  refine run_region ?_
  refine run_op (loc_boxN rfl) rfl ?_
  refine run_op (loc_boxN rfl) rfl ?_
  refine run_new (loc_allocOwn (by simp)) rfl (fun b1 _ => ?_)
  refine run_op (loc_assign rfl) rfl ?_
  refine run_nil ?_
  refine run_seq ?_
  refine run_region ?_
  refine run_op (loc_loadN rfl rfl) rfl ?_
  refine run_callN rfl (ownV_spec v hv) rfl (fun v2 hv2 => ?_)
  refine run_new (loc_allocOwn (by simp)) rfl (fun b3 _ => ?_)
  refine run_storeN (ho := (by show OneAll [_, _, _, _, _, _, _, _]; infer_instance)) rfl rfl (.here) (by rfl) ?_
  refine run_nil ?_
  refine run_seq ?_
  refine run_seq ?_
  refine run_region ?_
  refine run_op (loc_fieldAddr rfl) rfl ?_
  refine run_op (loc_load1 rfl) rfl ?_
  refine run_op (loc_not rfl) rfl ?_
  refine run_nil ?_
  refine run_cond rfl (fun h4 => ?_) (fun h4 => ?_)
  ·
    have c1 := h4
    refine run_seq ?_
    first | refine run_freezeRowCellV (kk := 6) (.there (.here)) (.here) rfl ?_ | refine run_freezeRowCell (kk := 6) (.there (.here)) (.here) rfl ?_
    refine run_region ?_
    refine run_op (loc_loadOwnN rfl (.here) (by rfl)) rfl ?_
    refine run_storeN (ho := (by show OneAll [_, _, _, _, _, _, _, _]; infer_instance)) rfl rfl (.there (.here)) (by rfl) ?_
    refine run_op (loc_assign rfl) rfl ?_
    refine run_nil ?_
    have hE : loadE v t = 43 := by unfold loadE; rw [if_pos c1]
    refine run_retGP Try.func8 rfl (.cellN rfl (by first | exact .here | exact .there .here | exact .there (.there .here) | exact .there (.there (.there .here)) | exact .there (.there (.there (.there .here))) | exact .there (.there (.there (.there (.there .here))))) (by rfl) (.tmp rfl (.nil))) ?_ (fun _ _ h => inv_tail (inv_tail (h)))
    exact d_tup2 (d_toSrv (by unfold loadV; rw [if_neg (by rw [hE]; first | omega | assumption)]) (fun _ _ h => h)) (d_int hE.symm)
  ·
    have c1 := Classical.not_not.1 h4
    refine run_skip ?_
    refine run_seq ?_
    refine run_region ?_
    refine run_op (loc_loadN rfl rfl) rfl ?_
    refine run_op (loc_call (head_spec _) rfl) rfl ?_
    refine run_op (loc_move rfl) rfl ?_
    refine run_op (loc_extract rfl rfl) rfl ?_
    refine run_op (loc_extract rfl rfl) rfl ?_
    refine run_new (loc_allocOwn (by simp)) rfl (fun b5 _ => ?_)
    refine run_storeN (ho := (by show OneAll [_, _, _, _, _]; infer_instance)) rfl rfl (.here) (by rfl) ?_
    refine run_op (loc_assign rfl) rfl ?_
    refine run_nil ?_
    refine run_seq ?_
    refine run_seq ?_
    refine run_region ?_
    refine run_op (loc_move rfl) rfl ?_
    refine run_op (loc_neq rfl rfl) rfl ?_
    refine run_nil ?_
    refine run_cond rfl (fun h6 => ?_) (fun h6 => ?_)
    ·
      have c2 := h6
      refine run_seq ?_
      first | refine run_freezeRowCellV (kk := 6) (.there (.there (.here))) (.there (.here)) rfl ?_ | refine run_freezeRowCell (kk := 6) (.there (.there (.here))) (.there (.here)) rfl ?_
      refine run_region ?_
      refine run_op (loc_loadOwnN rfl (.there (.here)) (by rfl)) rfl ?_
      refine run_op (loc_move rfl) rfl ?_
      refine run_storeN (ho := (by show OneAll [_, _, _, _, _, _, _, _]; infer_instance)) rfl rfl (.there (.there (.here))) (by rfl) ?_
      refine run_op (loc_assign rfl) rfl ?_
      refine run_nil ?_
      have hE : loadE v t = checkT t := by unfold loadE; rw [if_neg (Classical.not_not.2 c1), if_pos c2]
      refine run_retGP Try.func8 rfl (.cellN rfl (by first | exact .here | exact .there .here | exact .there (.there .here) | exact .there (.there (.there .here)) | exact .there (.there (.there (.there .here))) | exact .there (.there (.there (.there (.there .here))))) (by rfl) (.tmp rfl (.nil))) ?_ (fun _ _ h => inv_tail (inv_tail (inv_tail (h))))
      exact d_tup2 (d_toSrv (by unfold loadV; rw [if_neg (by rw [hE]; first | omega | assumption)]) (fun _ _ h => h)) (d_int hE.symm)
    ·
      have c2 := Classical.not_not.1 h6
      refine run_skip ?_
      refine run_seq ?_
      refine run_region ?_
      refine run_op (loc_loadN rfl rfl) rfl ?_
      refine run_op (loc_fieldAddr rfl) rfl ?_
      refine run_op (loc_load1 rfl) rfl ?_
      refine run_op (loc_call (vfind_spec _ _) rfl) rfl ?_
      refine run_op (loc_move rfl) rfl ?_
      refine run_op (loc_extract rfl rfl) rfl ?_
      refine run_op (loc_extract rfl rfl) rfl ?_
      refine run_op (loc_assign rfl) rfl ?_
      refine run_op (loc_assign rfl) rfl ?_
      refine run_nil ?_
      refine run_seq ?_
      refine run_block ?_
      refine run_seq ?_
      refine run_region ?_
      refine run_op (loc_fieldAddr rfl) rfl ?_
      refine run_op (loc_loadN rfl rfl) rfl ?_
      refine run_op (loc_fieldAddr rfl) rfl ?_
      refine run_op (loc_loadN rfl rfl) rfl ?_
      refine run_op (loc_call (valid_spec _ _) rfl) rfl ?_
      refine run_op (loc_not rfl) rfl ?_
      refine run_op (loc_assign rfl) rfl ?_
      refine run_nil ?_
      refine run_cond rfl (fun h7 => ?_) (fun h7 => ?_)
      ·
        have c3 := h7
        refine run_seq ?_
        first | refine run_freezeRowCellV (kk := 6) (.there (.there (.here))) (.there (.here)) rfl ?_ | refine run_freezeRowCell (kk := 6) (.there (.there (.here))) (.there (.here)) rfl ?_
        refine run_region ?_
        refine run_op (loc_loadOwnN rfl (.there (.here)) (by rfl)) rfl ?_
        refine run_storeN (ho := (by show OneAll [_, _, _, _, _, _, _, _]; infer_instance)) rfl rfl (.there (.there (.here))) (by rfl) ?_
        refine run_op (loc_assign rfl) rfl ?_
        refine run_nil ?_
        have hE : loadE v t = 40 := by unfold loadE; rw [if_neg (Classical.not_not.2 c1), if_neg (Classical.not_not.2 c2), if_pos c3]
        refine run_retGP Try.func8 rfl (.cellN rfl (by first | exact .here | exact .there .here | exact .there (.there .here) | exact .there (.there (.there .here)) | exact .there (.there (.there (.there .here))) | exact .there (.there (.there (.there (.there .here))))) (by rfl) (.tmp rfl (.nil))) ?_ (fun _ _ h => inv_tail (inv_tail (inv_tail (h))))
        exact d_tup2 (d_toSrv (by unfold loadV; rw [if_neg (by rw [hE]; first | omega | assumption)]) (fun _ _ h => h)) (d_int hE.symm)
      ·
        have c3 := Classical.not_not.1 h7
        refine run_seq ?_
        refine run_region ?_
        refine run_op (loc_fieldAddr rfl) rfl ?_
        refine run_op (loc_load1 rfl) rfl ?_
        first | refine runL_fact (s := 44) rfl (fun _ _ h => dSl_len h) (fun hlen8 => ?_) | skip
        refine run_op (loc_len rfl) rfl ?_
        refine run_op (loc_eql rfl rfl) rfl ?_
        refine run_op (loc_assign rfl) rfl ?_
        refine run_nil ?_
        refine run_cond rfl (fun h9 => ?_) (fun h9 => ?_)
        ·
          have c4 := h9
          refine run_seq ?_
          first | refine run_freezeRowCellV (kk := 6) (.there (.there (.here))) (.there (.here)) rfl ?_ | refine run_freezeRowCell (kk := 6) (.there (.there (.here))) (.there (.here)) rfl ?_
          refine run_region ?_
          refine run_op (loc_loadOwnN rfl (.there (.here)) (by rfl)) rfl ?_
          refine run_storeN (ho := (by show OneAll [_, _, _, _, _, _, _, _]; infer_instance)) rfl rfl (.there (.there (.here))) (by rfl) ?_
          refine run_op (loc_assign rfl) rfl ?_
          refine run_nil ?_
          have hE : loadE v t = 2 := by unfold loadE; rw [if_neg (Classical.not_not.2 c1), if_neg (Classical.not_not.2 c2), if_neg (Classical.not_not.2 c3), if_pos (by omega)]
          refine run_retGP Try.func8 rfl (.cellN rfl (by first | exact .here | exact .there .here | exact .there (.there .here) | exact .there (.there (.there .here)) | exact .there (.there (.there (.there .here))) | exact .there (.there (.there (.there (.there .here))))) (by rfl) (.tmp rfl (.nil))) ?_ (fun _ _ h => inv_tail (inv_tail (inv_tail (h))))
          exact d_tup2 (d_toSrv (by unfold loadV; rw [if_neg (by rw [hE]; first | omega | assumption)]) (fun _ _ h => h)) (d_int hE.symm)
        ·
          have c4 := h9
          refine run_seq ?_
          refine run_region ?_
          refine run_op (loc_move rfl) rfl ?_
          refine run_op (loc_assign rfl) rfl ?_
          refine run_nil ?_
          refine run_cond rfl (fun h10 => ?_) (fun h10 => ?_)
          ·
            have c5 := h10
            refine run_seq ?_
            first | refine run_freezeRowCellV (kk := 6) (.there (.there (.here))) (.there (.here)) rfl ?_ | refine run_freezeRowCell (kk := 6) (.there (.there (.here))) (.there (.here)) rfl ?_
            refine run_region ?_
            refine run_op (loc_loadOwnN rfl (.there (.here)) (by rfl)) rfl ?_
            refine run_storeN (ho := (by show OneAll [_, _, _, _, _, _, _, _]; infer_instance)) rfl rfl (.there (.there (.here))) (by rfl) ?_
            refine run_op (loc_assign rfl) rfl ?_
            refine run_nil ?_
            have hE : loadE v t = 7 := by unfold loadE; rw [if_neg (Classical.not_not.2 c1), if_neg (Classical.not_not.2 c2), if_neg (Classical.not_not.2 c3), if_neg (by omega), if_pos c5]
            refine run_retGP Try.func8 rfl (.cellN rfl (by first | exact .here | exact .there .here | exact .there (.there .here) | exact .there (.there (.there .here)) | exact .there (.there (.there (.there .here))) | exact .there (.there (.there (.there (.there .here))))) (by rfl) (.tmp rfl (.nil))) ?_ (fun _ _ h => inv_tail (inv_tail (inv_tail (h))))
            exact d_tup2 (d_toSrv (by unfold loadV; rw [if_neg (by rw [hE]; first | omega | assumption)]) (fun _ _ h => h)) (d_int hE.symm)
          ·
            have c5 := h10
            refine run_seq ?_
            refine run_region ?_
            refine run_op (loc_fieldAddr rfl) rfl ?_
            refine run_op (loc_load1 rfl) rfl ?_
            first | refine runL_fact (s := 53) rfl (fun _ _ h => dSl_len h) (fun hlen11 => ?_) | skip
            refine run_op (loc_len rfl) rfl ?_
            refine run_op (loc_geq rfl rfl) rfl ?_
            refine run_op (loc_assign rfl) rfl ?_
            refine run_nil ?_
            refine run_cond rfl (fun h12 => ?_) (fun h12 => ?_)
            ·
              have c6 := h12
              refine run_seq ?_
              first | refine run_freezeRowCellV (kk := 6) (.there (.there (.here))) (.there (.here)) rfl ?_ | refine run_freezeRowCell (kk := 6) (.there (.there (.here))) (.there (.here)) rfl ?_
              refine run_region ?_
              refine run_op (loc_loadOwnN rfl (.there (.here)) (by rfl)) rfl ?_
              refine run_storeN (ho := (by show OneAll [_, _, _, _, _, _, _, _]; infer_instance)) rfl rfl (.there (.there (.here))) (by rfl) ?_
              refine run_op (loc_assign rfl) rfl ?_
              refine run_nil ?_
              have hE : loadE v t = 4 := by unfold loadE; rw [if_neg (Classical.not_not.2 c1), if_neg (Classical.not_not.2 c2), if_neg (Classical.not_not.2 c3), if_neg (by omega), if_neg c5, if_pos (by omega)]
              refine run_retGP Try.func8 rfl (.cellN rfl (by first | exact .here | exact .there .here | exact .there (.there .here) | exact .there (.there (.there .here)) | exact .there (.there (.there (.there .here))) | exact .there (.there (.there (.there (.there .here))))) (by rfl) (.tmp rfl (.nil))) ?_ (fun _ _ h => inv_tail (inv_tail (inv_tail (h))))
              exact d_tup2 (d_toSrv (by unfold loadV; rw [if_neg (by rw [hE]; first | omega | assumption)]) (fun _ _ h => h)) (d_int hE.symm)
            ·
              have c6 := h12
              refine run_skip ?_
              refine run_inBlock ?_
              refine run_seq ?_
              refine run_region ?_
              refine run_op (loc_fieldAddr rfl) rfl ?_
              refine run_op (loc_loadN rfl rfl) rfl ?_
              refine run_op (loc_loadN rfl rfl) rfl ?_
              refine run_op (loc_fieldAddr rfl) rfl ?_
              refine run_op (loc_load1 rfl) rfl ?_
              refine run_op (loc_call (shold_spec _ _ _) rfl) rfl ?_
              refine run_op (loc_move rfl) rfl ?_
              refine run_op (loc_extract rfl rfl) rfl ?_
              refine run_op (loc_extract rfl rfl) rfl ?_
              refine run_op (loc_assign rfl) rfl ?_
              refine run_op (loc_assign rfl) rfl ?_
              refine run_nil ?_
              refine run_seq ?_
              refine run_seq ?_
              refine run_region ?_
              refine run_op (loc_move rfl) rfl ?_
              refine run_op (loc_neq rfl rfl) rfl ?_
              refine run_nil ?_
              refine run_cond rfl (fun h13 => ?_) (fun h13 => ?_)
              ·
                have c7 := h13
                refine run_seq ?_
                first | refine run_freezeRowCellV (kk := 6) (.there (.there (.here))) (.there (.here)) rfl ?_ | refine run_freezeRowCell (kk := 6) (.there (.there (.here))) (.there (.here)) rfl ?_
                refine run_region ?_
                refine run_op (loc_loadOwnN rfl (.there (.here)) (by rfl)) rfl ?_
                refine run_op (loc_move rfl) rfl ?_
                refine run_storeN (ho := (by show OneAll [_, _, _, _, _, _, _, _]; infer_instance)) rfl rfl (.there (.there (.here))) (by rfl) ?_
                refine run_op (loc_assign rfl) rfl ?_
                refine run_nil ?_
                have hE : loadE v t = hldE v.scheme t v.id := by unfold loadE; rw [if_neg (Classical.not_not.2 c1), if_neg (Classical.not_not.2 c2), if_neg (Classical.not_not.2 c3), if_neg (by omega), if_neg c5, if_neg (by omega)]
                refine run_retGP Try.func8 rfl (.cellN rfl (by first | exact .here | exact .there .here | exact .there (.there .here) | exact .there (.there (.there .here)) | exact .there (.there (.there (.there .here))) | exact .there (.there (.there (.there (.there .here))))) (by rfl) (.tmp rfl (.nil))) ?_ (fun _ _ h => inv_tail (inv_tail (inv_tail (h))))
                exact d_tup2 (d_toSrv (by unfold loadV; rw [if_neg (by rw [hE]; first | omega | assumption)]) (fun _ _ h => h)) (d_int hE.symm)
              ·
                have c7 := Classical.not_not.1 h13
                refine run_skip ?_
                refine run_seq ?_
                refine run_region ?_
                refine run_op (loc_fieldAddrOwn rfl) rfl ?_
                first | refine run_op (LocP.upV (loc_loadOwn1 rfl (.there (.here)) (by rfl))) rfl ?_ | refine run_op (loc_loadOwn1 rfl (.there (.here)) (by rfl)) rfl ?_
                refine run_op (loc_move rfl) rfl ?_
                refine run_op (loc_loadOwnN rfl (.here) (by rfl)) rfl ?_
                refine run_op (loc_move rfl) rfl ?_
                refine run_op (loc_build (.agg rfl rfl rfl rfl (.one rfl rfl rfl (.nil)))) rfl ?_
                refine run_op (loc_buildSlice rfl rfl (.agg rfl (.nil)) rfl rfl) rfl ?_
                refine run_callM rfl (.there (.there (.here))) (spec_rowV (insertHl_spec _ v.versions (atV v t.number) ⟨headT t, hldL v.scheme t v.id⟩ (atV_le v t.number) (by omega) (by omega))) rfl (fun s14 hs14 => ?_)
                refine run_op (loc_fieldAddrOwn rfl) rfl ?_
                refine run_store1 rfl rfl (.there (.here)) (by rfl) ?_
                refine run_nil ?_
                refine run_seq ?_
                first | refine run_freezeRowCellV (kk := 6) (.there (.there (.here))) (.there (.here)) rfl ?_ | refine run_freezeRowCell (kk := 6) (.there (.there (.here))) (.there (.here)) rfl ?_
                refine run_region ?_
                refine run_op (loc_loadOwnN rfl (.there (.here)) (by rfl)) rfl ?_
                refine run_storeN (ho := (by show OneAll [_, _, _, _, _, _, _, _]; infer_instance)) rfl rfl (.there (.there (.here))) (by rfl) ?_
                refine run_op (loc_assign rfl) rfl ?_
                refine run_nil ?_
                have hE : loadE v t = 0 := by unfold loadE; rw [if_neg (Classical.not_not.2 c1), if_neg (Classical.not_not.2 c2), if_neg (Classical.not_not.2 c3), if_neg (by omega), if_neg c5, if_neg (by omega)]; exact c7
                refine run_retGP Try.func8 rfl (.cellN rfl (by first | exact .here | exact .there .here | exact .there (.there .here) | exact .there (.there (.there .here)) | exact .there (.there (.there (.there .here))) | exact .there (.there (.there (.there (.there .here))))) (by rfl) (.tmp rfl (.nil))) ?_ (fun _ _ h => inv_tail (inv_tail (inv_tail (h))))
                exact d_tup2 (d_toSrv (t' := { v with versions := v.versions.take (atV v t.number) ++ [⟨headT t, hldL v.scheme t v.id⟩] ++ v.versions.drop (atV v t.number) }) (by unfold loadV; rw [if_pos hE]) (fun _ _ h => h)) (d_int hE.symm)

theorem vask1_spec0 : True := trivial
theorem vask1_spec (n : Nte) (j : Job) : SpecP Try.prog 35 [dJob j, dBox (cNte n)] (dB (j.read = n.read ∧ j.probe = n.probe)) := by
  refine specP_of_body Try.func35 rfl rfl (fun I M => ?_)
  refine run_seq ?_
  refine run_region ?_
  refine run_op (loc_boxN rfl) rfl ?_
  refine run_op (loc_assign rfl) rfl ?_
  refine run_nil ?_
  refine run_seq ?_
  refine run_region ?_
  refine run_op (loc_fieldAddr rfl) rfl ?_
  refine run_op (loc_load1 rfl) rfl ?_
  refine run_op (loc_fieldAddr rfl) rfl ?_
  refine run_op (loc_load1 rfl) rfl ?_
  refine run_op (loc_eql rfl rfl) rfl ?_
  refine run_op (loc_move rfl) rfl ?_
  refine run_gfirst rfl rfl (by first | exact guard_true _ | exact guard_false _ | exact guard_if (guard_true _) | exact guard_if (guard_false _)) (fun hg => loc_fieldAddr rfl) rfl ?_
  refine run_gop rfl rfl (by first | exact guard_true _ | exact guard_false _ | exact guard_if (guard_true _) | exact guard_if (guard_false _)) (fun hg => loc_load1 rfl) rfl ?_
  refine run_gop rfl rfl (by first | exact guard_true _ | exact guard_false _ | exact guard_if (guard_true _) | exact guard_if (guard_false _)) (fun hg => loc_fieldAddr rfl) rfl ?_
  refine run_gop rfl rfl (by first | exact guard_true _ | exact guard_false _ | exact guard_if (guard_true _) | exact guard_if (guard_false _)) (fun hg => loc_load1 rfl) rfl ?_
  refine run_gop rfl rfl (by first | exact guard_true _ | exact guard_false _ | exact guard_if (guard_true _) | exact guard_if (guard_false _)) (fun hg => loc_eql rfl rfl) rfl ?_
  refine run_gleave ?_
  refine run_op (loc_and rfl rfl) rfl ?_
  refine run_op (loc_assign rfl) rfl ?_
  refine run_nil ?_
  refine run_retP Try.func35 rfl rfl ?_
  exact fun _ _ h => h

theorem cfAsk_spec (n : Nte) (ls : List Job) : SpecP Try.prog 34 [dSl 5 cJob ls, dClo 35 [dBox (cNte n)]] (dB (∃ j ∈ ls, j.read = n.read ∧ j.probe = n.probe)) :=
  specP_pre (containsFuncJb_spec (fun j : Job => j.read = n.read ∧ j.probe = n.probe) ls) (relL_last (ds := [dSl 5 cJob ls]) (clo_fun (P := Try.prog) (Ds := fun j : Job => [dJob j]) (d := fun j => dB (j.read = n.read ∧ j.probe = n.probe)) (fun j => vask1_spec n j)))
theorem vdrop1_spec (n : Int) (j : Job) : SpecP Try.prog 37 [dJob j, dBox [dInt .i64 n]] (dB (j.version = n)) := by
  refine specP_of_body Try.func37 rfl rfl (fun I M => ?_)
  refine run_seq ?_
  refine run_region ?_
  refine run_op (loc_boxN rfl) rfl ?_
  refine run_op (loc_assign rfl) rfl ?_
  refine run_nil ?_
  refine run_seq ?_
  refine run_region ?_
  refine run_op (loc_fieldAddr rfl) rfl ?_
  refine run_op (loc_load1 rfl) rfl ?_
  refine run_op (loc_load1 rfl) rfl ?_
  refine run_op (loc_eql rfl rfl) rfl ?_
  refine run_op (loc_assign rfl) rfl ?_
  refine run_nil ?_
  refine run_retP Try.func37 rfl rfl ?_
  exact fun _ _ h => h

theorem cfDrop_spec (n : Int) (ls : List Job) : SpecP Try.prog 34 [dSl 5 cJob ls, dClo 37 [dBox [dInt .i64 n]]] (dB (∃ j ∈ ls, j.version = n)) :=
  specP_pre (containsFuncJb_spec (fun j : Job => j.version = n) ls) (relL_last (ds := [dSl 5 cJob ls]) (clo_fun (P := Try.prog) (Ds := fun j : Job => [dJob j]) (d := fun j => dB (j.version = n)) (fun j => vdrop1_spec n j)))
theorem vask_spec (v : Srv) (n : Nte) (hv : szSrv v) (hq : n.query.length ≤ 100000) : SpecP Try.prog 9 [dSrv v, dNte n] (dTup [dSrv (askV v n), dInt .i64 (askE v n)]) := by
  have hv2 := hv.2.1
  refine specP_of_body Try.func9 rfl rfl (fun I M => ?_)
  refine run_seq ?_
  refine run_region ?_
  refine run_op (loc_boxN rfl) rfl ?_
  refine run_op (loc_boxN rfl) rfl ?_
  refine run_new (loc_allocOwn (by simp)) rfl (fun b1 _ => ?_)
  refine run_op (loc_assign rfl) rfl ?_
  refine run_nil ?_
  refine run_seq ?_
  refine run_region ?_
  refine run_op (loc_loadN rfl rfl) rfl ?_
  refine run_callN rfl (ownJ_spec v hv) rfl (fun v2 hv2 => ?_)
  refine run_new (loc_allocOwn (by simp)) rfl (fun b3 _ => ?_)
  refine run_storeN (ho := (by show OneAll [_, _, _, _, _, _, _, _]; infer_instance)) rfl rfl (.here) (by rfl) ?_
  refine run_nil ?_
  refine run_seq ?_
  refine run_block ?_
  refine run_seq ?_
  refine run_region ?_
  refine run_op (loc_fieldAddr rfl) rfl ?_
  refine run_op (loc_load1 rfl) rfl ?_
  refine run_op (loc_not rfl) rfl ?_
  refine run_op (loc_assign rfl) rfl ?_
  refine run_nil ?_
  refine run_cond rfl (fun h4 => ?_) (fun h4 => ?_)
  ·
    have c1 := h4
    refine run_seq ?_
    first | refine run_freezeRowCellV (kk := 7) (.there (.here)) (.here) rfl ?_ | refine run_freezeRowCell (kk := 7) (.there (.here)) (.here) rfl ?_
    refine run_region ?_
    refine run_op (loc_loadOwnN rfl (.here) (by rfl)) rfl ?_
    refine run_storeN (ho := (by show OneAll [_, _, _, _, _, _, _, _]; infer_instance)) rfl rfl (.there (.here)) (by rfl) ?_
    refine run_op (loc_assign rfl) rfl ?_
    refine run_nil ?_
    have hE : askE v n = 43 := by unfold askE; rw [if_pos c1]
    refine run_retGP Try.func9 rfl (.cellN rfl (by first | exact .here | exact .there .here | exact .there (.there .here) | exact .there (.there (.there .here)) | exact .there (.there (.there (.there .here))) | exact .there (.there (.there (.there (.there .here))))) (by rfl) (.tmp rfl (.nil))) ?_ (fun _ _ h => inv_tail (inv_tail (h)))
    exact d_tup2 (d_toSrv (by unfold askV; rw [if_neg (by rw [hE]; first | omega | assumption)]) (fun _ _ h => h)) (d_int hE.symm)
  ·
    have c1 := Classical.not_not.1 h4
    refine run_seq ?_
    refine run_region ?_
    refine run_op (loc_fieldAddr rfl) rfl ?_
    refine run_op (loc_load1 rfl) rfl ?_
    refine run_op (loc_neq rfl rfl) rfl ?_
    refine run_op (loc_move rfl) rfl ?_
    refine run_gfirst rfl rfl (by first | exact guard_true _ | exact guard_false _ | exact guard_if (guard_true _) | exact guard_if (guard_false _)) (fun hg => loc_fieldAddr rfl) rfl ?_
    refine run_gop rfl rfl (by first | exact guard_true _ | exact guard_false _ | exact guard_if (guard_true _) | exact guard_if (guard_false _)) (fun hg => loc_load1 rfl) rfl ?_
    refine run_gop rfl rfl (by first | exact guard_true _ | exact guard_false _ | exact guard_if (guard_true _) | exact guard_if (guard_false _)) (fun hg => loc_fieldAddr rfl) rfl ?_
    refine run_gop rfl rfl (by first | exact guard_true _ | exact guard_false _ | exact guard_if (guard_true _) | exact guard_if (guard_false _)) (fun hg => loc_load1 rfl) rfl ?_
    refine run_gop rfl rfl (by first | exact guard_true _ | exact guard_false _ | exact guard_if (guard_true _) | exact guard_if (guard_false _)) (fun hg => loc_neq rfl rfl) rfl ?_
    refine run_gleave ?_
    refine run_op (loc_or rfl rfl) rfl ?_
    refine run_op (loc_assign rfl) rfl ?_
    refine run_nil ?_
    refine run_cond rfl (fun h5 => ?_) (fun h5 => ?_)
    ·
      have c2 := h5
      refine run_seq ?_
      first | refine run_freezeRowCellV (kk := 7) (.there (.here)) (.here) rfl ?_ | refine run_freezeRowCell (kk := 7) (.there (.here)) (.here) rfl ?_
      refine run_region ?_
      refine run_op (loc_loadOwnN rfl (.here) (by rfl)) rfl ?_
      refine run_storeN (ho := (by show OneAll [_, _, _, _, _, _, _, _]; infer_instance)) rfl rfl (.there (.here)) (by rfl) ?_
      refine run_op (loc_assign rfl) rfl ?_
      refine run_nil ?_
      have hE : askE v n = 2 := by unfold askE; rw [if_neg (Classical.not_not.2 c1), if_pos c2]
      refine run_retGP Try.func9 rfl (.cellN rfl (by first | exact .here | exact .there .here | exact .there (.there .here) | exact .there (.there (.there .here)) | exact .there (.there (.there (.there .here))) | exact .there (.there (.there (.there (.there .here))))) (by rfl) (.tmp rfl (.nil))) ?_ (fun _ _ h => inv_tail (inv_tail (h)))
      exact d_tup2 (d_toSrv (by unfold askV; rw [if_neg (by rw [hE]; first | omega | assumption)]) (fun _ _ h => h)) (d_int hE.symm)
    ·
      have c2 := h5
      refine run_skip ?_
      refine run_inBlock ?_
      refine run_seq ?_
      refine run_region ?_
      refine run_op (loc_loadN rfl rfl) rfl ?_
      refine run_op (loc_fieldAddr rfl) rfl ?_
      refine run_op (loc_load1 rfl) rfl ?_
      refine run_op (loc_call (vfind_spec _ _) rfl) rfl ?_
      refine run_op (loc_move rfl) rfl ?_
      refine run_op (loc_extract rfl rfl) rfl ?_
      refine run_op (loc_extract rfl rfl) rfl ?_
      refine run_op (loc_assign rfl) rfl ?_
      refine run_op (loc_assign rfl) rfl ?_
      refine run_nil ?_
      refine run_seq ?_
      refine run_seq ?_
      refine run_region ?_
      refine run_op (loc_move rfl) rfl ?_
      refine run_op (loc_not rfl) rfl ?_
      refine run_nil ?_
      refine run_cond rfl (fun h6 => ?_) (fun h6 => ?_)
      ·
        have c3 := h6
        refine run_seq ?_
        first | refine run_freezeRowCellV (kk := 7) (.there (.here)) (.here) rfl ?_ | refine run_freezeRowCell (kk := 7) (.there (.here)) (.here) rfl ?_
        refine run_region ?_
        refine run_op (loc_loadOwnN rfl (.here) (by rfl)) rfl ?_
        refine run_storeN (ho := (by show OneAll [_, _, _, _, _, _, _, _]; infer_instance)) rfl rfl (.there (.here)) (by rfl) ?_
        refine run_op (loc_assign rfl) rfl ?_
        refine run_nil ?_
        have hE : askE v n = 6 := by unfold askE; rw [if_neg (Classical.not_not.2 c1), if_neg c2, if_pos c3]
        refine run_retGP Try.func9 rfl (.cellN rfl (by first | exact .here | exact .there .here | exact .there (.there .here) | exact .there (.there (.there .here)) | exact .there (.there (.there (.there .here))) | exact .there (.there (.there (.there (.there .here))))) (by rfl) (.tmp rfl (.nil))) ?_ (fun _ _ h => inv_tail (inv_tail (h)))
        exact d_tup2 (d_toSrv (by unfold askV; rw [if_neg (by rw [hE]; first | omega | assumption)]) (fun _ _ h => h)) (d_int hE.symm)
      ·
        have c3 := Classical.not_not.1 h6
        refine run_skip ?_
        refine run_seq ?_
        have hat := c3.1
        refine run_region ?_
        refine run_op (loc_fieldAddr rfl) rfl ?_
        refine run_op (loc_load1 rfl) rfl ?_
        refine run_op (loc_move rfl) rfl ?_
        first | refine run_op (loc_index rfl rfl (by first | omega | assumption)) rfl ?_ | refine run_op (loc_indexI rfl rfl (by first | omega | assumption)) rfl ?_
        refine run_op (loc_loadN rfl rfl) rfl ?_
        refine run_new (loc_allocOwn (by simp)) rfl (fun b7 _ => ?_)
        refine run_storeN (ho := (by show OneAll [_, _, _, _, _, _]; infer_instance)) rfl rfl (.here) (by rfl) ?_
        refine run_nil ?_
        refine run_seq ?_
        refine run_block ?_
        refine run_seq ?_
        refine run_region ?_
        refine run_op (loc_fieldAddr rfl) rfl ?_
        refine run_op (loc_load1 rfl) rfl ?_
        first | refine runL_fact (s := 46) rfl (fun _ _ h => dSl_len h) (fun hlen8 => ?_) | skip
        refine run_op (loc_len rfl) rfl ?_
        refine run_op (loc_fieldAddrOwn rfl) rfl ?_
        refine run_op (loc_loadOwn1 rfl (.here) (by rfl)) rfl ?_
        first | refine runL_fact (s := 49) rfl (fun _ _ h => dSl_len h) (fun hlen9 => ?_) | skip
        refine run_op (loc_len rfl) rfl ?_
        refine run_op (loc_neq rfl rfl) rfl ?_
        refine run_op (loc_move rfl) rfl ?_
        refine run_gfirst rfl rfl (by first | exact guard_true _ | exact guard_false _ | exact guard_if (guard_true _) | exact guard_if (guard_false _)) (fun hg => loc_fieldAddrOwn rfl) rfl ?_
        refine run_gop rfl rfl (by first | exact guard_true _ | exact guard_false _ | exact guard_if (guard_true _) | exact guard_if (guard_false _)) (fun hg => loc_fieldAddrOwn rfl) rfl ?_
        refine run_gop rfl rfl (by first | exact guard_true _ | exact guard_false _ | exact guard_if (guard_true _) | exact guard_if (guard_false _)) (fun hg => loc_loadOwn1 rfl (.here) (by rfl)) rfl ?_
        refine run_gop rfl rfl (by first | exact guard_true _ | exact guard_false _ | exact guard_if (guard_true _) | exact guard_if (guard_false _)) (fun hg => loc_build (.one rfl rfl rfl (.nil))) rfl ?_
        refine run_gop rfl rfl (by first | exact guard_true _ | exact guard_false _ | exact guard_if (guard_true _) | exact guard_if (guard_false _)) (fun hg => loc_fieldAddr rfl) rfl ?_
        refine run_gop rfl rfl (by first | exact guard_true _ | exact guard_false _ | exact guard_if (guard_true _) | exact guard_if (guard_false _)) (fun hg => loc_load1 rfl) rfl ?_
        refine run_gop rfl rfl (by first | exact guard_true _ | exact guard_false _ | exact guard_if (guard_true _) | exact guard_if (guard_false _)) (fun hg => loc_call (finF_spec _ _) rfl) rfl ?_
        refine run_gop rfl rfl (by first | exact guard_true _ | exact guard_false _ | exact guard_if (guard_true _) | exact guard_if (guard_false _)) (fun hg => loc_not rfl) rfl ?_
        refine run_gleave ?_
        refine run_op (loc_or rfl rfl) rfl ?_
        refine run_op (loc_assign rfl) rfl ?_
        refine run_nil ?_
        refine run_cond rfl (fun h10 => ?_) (fun h10 => ?_)
        ·
          have c4 : n.query.length ≠ (heldV v n.version).rows.length ∨ ¬ (okP (heldV v n.version).head.p ∧ allP (heldV v n.version).head.p n.query) := by rcases h10 with h | h; (· left; unfold heldV; omega); (· right; exact h)
          refine run_seq ?_
          first | refine run_freezeRowCellV (kk := 7) (.there (.there (.here))) (.there (.here)) rfl ?_ | refine run_freezeRowCell (kk := 7) (.there (.there (.here))) (.there (.here)) rfl ?_
          refine run_region ?_
          refine run_op (loc_loadOwnN rfl (.there (.here)) (by rfl)) rfl ?_
          refine run_storeN (ho := (by show OneAll [_, _, _, _, _, _, _, _]; infer_instance)) rfl rfl (.there (.there (.here))) (by rfl) ?_
          refine run_op (loc_assign rfl) rfl ?_
          refine run_nil ?_
          have hE : askE v n = 2 := by unfold askE; rw [if_neg (Classical.not_not.2 c1), if_neg c2, if_neg (Classical.not_not.2 c3), if_pos c4]
          refine run_retGP Try.func9 rfl (.cellN rfl (by first | exact .here | exact .there .here | exact .there (.there .here) | exact .there (.there (.there .here)) | exact .there (.there (.there (.there .here))) | exact .there (.there (.there (.there (.there .here))))) (by rfl) (.tmp rfl (.nil))) ?_ (fun _ _ h => inv_tail (inv_tail (inv_tail (h))))
          exact d_tup2 (d_toSrv (by unfold askV; rw [if_neg (by rw [hE]; first | omega | assumption)]) (fun _ _ h => h)) (d_int hE.symm)
        ·
          have c4 : ¬ (n.query.length ≠ (heldV v n.version).rows.length ∨ ¬ (okP (heldV v n.version).head.p ∧ allP (heldV v n.version).head.p n.query)) := fun hc => h10 (by rcases hc with h | h; (· left; unfold heldV at h; omega); (· right; exact h))
          refine run_seq ?_
          refine run_region ?_
          refine run_op (loc_fieldAddr rfl) rfl ?_
          refine run_op (loc_load1 rfl) rfl ?_
          refine run_op (loc_makeFunc rfl) rfl ?_
          refine run_op (loc_call (cfAsk_spec n _) rfl) rfl ?_
          refine run_op (loc_assign rfl) rfl ?_
          refine run_nil ?_
          refine run_cond rfl (fun h11 => ?_) (fun h11 => ?_)
          ·
            have c5 := h11
            refine run_seq ?_
            first | refine run_freezeRowCellV (kk := 7) (.there (.there (.here))) (.there (.here)) rfl ?_ | refine run_freezeRowCell (kk := 7) (.there (.there (.here))) (.there (.here)) rfl ?_
            refine run_region ?_
            refine run_op (loc_loadOwnN rfl (.there (.here)) (by rfl)) rfl ?_
            refine run_storeN (ho := (by show OneAll [_, _, _, _, _, _, _, _]; infer_instance)) rfl rfl (.there (.there (.here))) (by rfl) ?_
            refine run_op (loc_assign rfl) rfl ?_
            refine run_nil ?_
            have hE : askE v n = 7 := by unfold askE; rw [if_neg (Classical.not_not.2 c1), if_neg c2, if_neg (Classical.not_not.2 c3), if_neg c4, if_pos c5]
            refine run_retGP Try.func9 rfl (.cellN rfl (by first | exact .here | exact .there .here | exact .there (.there .here) | exact .there (.there (.there .here)) | exact .there (.there (.there (.there .here))) | exact .there (.there (.there (.there (.there .here))))) (by rfl) (.tmp rfl (.nil))) ?_ (fun _ _ h => inv_tail (inv_tail (inv_tail (h))))
            exact d_tup2 (d_toSrv (by unfold askV; rw [if_neg (by rw [hE]; first | omega | assumption)]) (fun _ _ h => h)) (d_int hE.symm)
          ·
            have c5 := h11
            refine run_seq ?_
            refine run_region ?_
            refine run_op (loc_fieldAddr rfl) rfl ?_
            refine run_op (loc_load1 rfl) rfl ?_
            first | refine runL_fact (s := 71) rfl (fun _ _ h => dSl_len h) (fun hlen12 => ?_) | skip
            refine run_op (loc_len rfl) rfl ?_
            refine run_op (loc_geq rfl rfl) rfl ?_
            refine run_op (loc_assign rfl) rfl ?_
            refine run_nil ?_
            refine run_cond rfl (fun h13 => ?_) (fun h13 => ?_)
            ·
              have c6 := h13
              refine run_seq ?_
              first | refine run_freezeRowCellV (kk := 7) (.there (.there (.here))) (.there (.here)) rfl ?_ | refine run_freezeRowCell (kk := 7) (.there (.there (.here))) (.there (.here)) rfl ?_
              refine run_region ?_
              refine run_op (loc_loadOwnN rfl (.there (.here)) (by rfl)) rfl ?_
              refine run_storeN (ho := (by show OneAll [_, _, _, _, _, _, _, _]; infer_instance)) rfl rfl (.there (.there (.here))) (by rfl) ?_
              refine run_op (loc_assign rfl) rfl ?_
              refine run_nil ?_
              have hE : askE v n = 4 := by unfold askE; rw [if_neg (Classical.not_not.2 c1), if_neg c2, if_neg (Classical.not_not.2 c3), if_neg c4, if_neg c5, if_pos (by omega)]
              refine run_retGP Try.func9 rfl (.cellN rfl (by first | exact .here | exact .there .here | exact .there (.there .here) | exact .there (.there (.there .here)) | exact .there (.there (.there (.there .here))) | exact .there (.there (.there (.there (.there .here))))) (by rfl) (.tmp rfl (.nil))) ?_ (fun _ _ h => inv_tail (inv_tail (inv_tail (h))))
              exact d_tup2 (d_toSrv (by unfold askV; rw [if_neg (by rw [hE]; first | omega | assumption)]) (fun _ _ h => h)) (d_int hE.symm)
            ·
              have c6 := h13
              refine run_skip ?_
              refine run_inBlock ?_
              refine run_seq ?_
              refine dr_start _ (.one (σ := Value) 13 (fun _ => True)) [⟨[(6, none)], [], none⟩,
                  ⟨[(75, some (0, false))], [0], some (1, 0, false)⟩,
                  ⟨[(3, none)], [], none⟩,
                  ⟨[(77, some (2, false))], [2], none⟩,
                  ⟨[(3, none)], [], none⟩,
                  ⟨[(79, some (4, false))], [4], none⟩,
                  ⟨[(3, none)], [], none⟩,
                  ⟨[(81, some (6, false))], [6], none⟩,
                  ⟨[(3, none)], [], none⟩,
                  ⟨[(83, some (8, false))], [8], none⟩,
                  ⟨[(78, some (3, false)), (80, some (5, false)), (82, some (7, false)), (84, some (9, false))], [2, 3, 4, 5, 6, 7, 8, 9], none⟩,
                  ⟨[(85, some (10, false))], [2, 3, 4, 5, 6, 7, 8, 9, 10], none⟩,
                  ⟨[(86, some (11, false))], [2, 3, 4, 5, 6, 7, 8, 9, 10, 11], none⟩,
                  ⟨[(76, some (1, false)), (87, some (12, false))], [0, 1, 2, 3, 4, 5, 6, 7, 8, 9, 10, 11, 12], some (2, 0, true)⟩,
                  ⟨[(6, none)], [0, 1, 2, 3, 4, 5, 6, 7, 8, 9, 10, 11, 12, 13], none⟩,
                  ⟨[(89, some (14, false)), (88, some (13, false))], [0, 1, 2, 3, 4, 5, 6, 7, 8, 9, 10, 11, 12, 13, 14], some (1, 0, true)⟩] [_, _, _, _] _ rfl rfl ?_
              refine dq_pure rfl (fun s => .g rfl (.nil)) (fun s hs _ => loc_fieldAddrOwn rfl) (by exact .cons (.inr fun _ _ _ => rfl) (.nil)) ?_
              first | refine dq_read rfl (fun s => .op rfl (.nil)) rfl rfl (fun s hs _ hm => LocP.upV (loc_loadOwn1 rfl hm (by rfl))) (by exact .cons (.inr fun _ _ _ => rfl) (.nil)) ?_ | refine dq_read rfl (fun s => .op rfl (.nil)) rfl rfl (fun s hs _ hm => loc_loadOwn1 rfl hm (by rfl)) (by exact .cons (.inr fun _ _ _ => rfl) (.nil)) ?_
              refine dq_pure rfl (fun s => .g rfl (.nil)) (fun s hs _ => loc_fieldAddr rfl) (by exact .cons (.inr fun _ _ _ => rfl) (.nil)) ?_
              refine dq_pure rfl (fun s => .op rfl (.nil)) (fun s hs _ => loc_load1 rfl) (by exact .cons (.inr fun _ _ _ => rfl) (.nil)) ?_
              refine dq_pure rfl (fun s => .g rfl (.nil)) (fun s hs _ => loc_fieldAddr rfl) (by exact .cons (.inr fun _ _ _ => rfl) (.nil)) ?_
              refine dq_pure rfl (fun s => .op rfl (.nil)) (fun s hs _ => loc_load1 rfl) (by exact .cons (.inr fun _ _ _ => rfl) (.nil)) ?_
              refine dq_pure rfl (fun s => .g rfl (.nil)) (fun s hs _ => loc_fieldAddr rfl) (by exact .cons (.inr fun _ _ _ => rfl) (.nil)) ?_
              refine dq_pure rfl (fun s => .op rfl (.nil)) (fun s hs _ => loc_load1 rfl) (by exact .cons (.inr fun _ _ _ => rfl) (.nil)) ?_
              refine dq_pure rfl (fun s => .g rfl (.nil)) (fun s hs _ => loc_fieldAddr rfl) (by exact .cons (.inr fun _ _ _ => rfl) (.nil)) ?_
              refine dq_pure rfl (fun s => .op rfl (.nil)) (fun s hs _ => loc_load1 rfl) (by exact .cons (.inr fun _ _ _ => rfl) (.nil)) ?_
              refine dq_pure rfl (fun s => .op rfl (.op rfl (.op rfl (.op rfl (.nil))))) (fun s hs _ => LocP.imp (d' := dJob ⟨n.read, n.probe, n.version, n.query, []⟩) (loc_build (.one rfl rfl rfl (.one rfl rfl rfl (.one rfl rfl rfl (.one rfl rfl rfl (.nil)))))) (by exact d_aggU (.cons (fun _ _ h => h) (.cons (fun _ _ h => h) (.cons (fun _ _ h => h) (.cons (fun _ _ h => h) (.cons d_nil .nil))))))) (by exact .cons (.inr fun _ _ _ => rfl) (.nil)) ?_
              refine dq_pure rfl (fun s => .op rfl (.nil)) (fun s hs _ => loc_call (ownJob_spec ⟨n.read, n.probe, n.version, n.query, []⟩ ⟨hq, by simp⟩) rfl) (by exact .cons (.inr fun _ _ _ => rfl) (.nil)) ?_
              refine dq_pure rfl (fun s => .op rfl (.nil)) (fun s hs _ => loc_buildSlice rfl rfl (.agg rfl (.nil)) rfl rfl) (by exact .cons (.inr fun _ _ _ => rfl) (.nil)) ?_
              refine dq_choose id (fun _ t => t) rfl (fun _ _ => ⟨rfl, id, trivial⟩) (fun s => .op rfl (.op rfl (.nil))) rfl rfl (fun s hs => LocM.rowV (loc_append1 _ rfl rfl rfl rfl (by first | omega | (unfold lenMax; omega) | assumption | (simp; omega) | (simp [lenMax]; omega)) (by first | omega | (unfold lenMax; omega) | assumption | (simp; omega) | (simp [lenMax]; omega)))) (by exact .cons (.inl rfl) (.nil)) ?_
              refine dq_pure rfl (fun s => .g rfl (.nil)) (fun s hs _ => loc_fieldAddrOwn rfl) (by exact .cons (.inl rfl) (.nil)) ?_
              refine dq_write0 rfl (fun s => .op rfl (.op rfl (.nil))) rfl rfl (fun s hs => loc_store1 rfl rfl rfl) (by exact .cons (.inl rfl) (.nil)) ?_
              refine dq_end (rs := [_, _, _, _]) (.bool true) rfl (fun _ => rfl) (.cons rfl (.nil)) rfl (fun v14 _ => ?_)
              dsimp only [outG, outM, List.map, List.set, id]
              refine run_seq ?_
              first | refine run_freezeRowCellV (kk := 7) (.there (.there (.here))) (.there (.here)) rfl ?_ | refine run_freezeRowCell (kk := 7) (.there (.there (.here))) (.there (.here)) rfl ?_
              refine run_region ?_
              refine run_op (loc_loadOwnN rfl (.there (.here)) (by rfl)) rfl ?_
              refine run_storeN (ho := (by show OneAll [_, _, _, _, _, _, _, _]; infer_instance)) rfl rfl (.there (.there (.here))) (by rfl) ?_
              refine run_op (loc_assign rfl) rfl ?_
              refine run_nil ?_
              have hE : askE v n = 0 := by unfold askE; rw [if_neg (Classical.not_not.2 c1), if_neg c2, if_neg (Classical.not_not.2 c3), if_neg c4, if_neg c5, if_neg (by omega)]
              refine run_retGP Try.func9 rfl (.cellN rfl (by first | exact .here | exact .there .here | exact .there (.there .here) | exact .there (.there (.there .here)) | exact .there (.there (.there (.there .here))) | exact .there (.there (.there (.there (.there .here))))) (by rfl) (.tmp rfl (.nil))) ?_ (fun _ _ h => inv_tail (inv_tail (inv_tail (h))))
              exact d_tup2 (d_toSrv (t' := { v with jobs := v.jobs ++ [⟨n.read, n.probe, n.version, n.query, []⟩] }) (by unfold askV; rw [if_pos hE]) (fun _ _ h => h)) (d_int hE.symm)

theorem vdrop_spec (v : Srv) (n : Int) (hv : szSrv v) : SpecP Try.prog 10 [dSrv v, dInt .i64 n] (dTup [dSrv (dropV v n), dInt .i64 (dropE v n)]) := by
  refine specP_of_body Try.func10 rfl rfl (fun I M => ?_)
  refine run_seq ?_
  refine run_region ?_
  refine run_op (loc_boxN rfl) rfl ?_
  refine run_op (loc_box1 rfl) rfl ?_
  refine run_new (loc_allocOwn (by simp)) rfl (fun b1 _ => ?_)
  refine run_op (loc_assign rfl) rfl ?_
  refine run_nil ?_
  refine run_seq ?_
  refine run_region ?_
  refine run_op (loc_loadN rfl rfl) rfl ?_
  refine run_callN rfl (ownV_spec v hv) rfl (fun v2 hv2 => ?_)
  refine run_new (loc_allocOwn (by simp)) rfl (fun b3 _ => ?_)
  refine run_storeN (ho := (by show OneAll [_, _, _, _, _, _, _, _]; infer_instance)) rfl rfl (.here) (by rfl) ?_
  refine run_nil ?_
  refine run_seq ?_
  refine run_region ?_
  refine run_op (loc_loadN rfl rfl) rfl ?_
  refine run_op (loc_load1 rfl) rfl ?_
  refine run_op (loc_call (vfind_spec _ _) rfl) rfl ?_
  refine run_op (loc_move rfl) rfl ?_
  refine run_op (loc_extract rfl rfl) rfl ?_
  refine run_op (loc_extract rfl rfl) rfl ?_
  refine run_op (loc_assign rfl) rfl ?_
  refine run_op (loc_assign rfl) rfl ?_
  refine run_nil ?_
  refine run_seq ?_
  refine run_block ?_
  refine run_seq ?_
  refine run_region ?_
  refine run_op (loc_fieldAddr rfl) rfl ?_
  refine run_op (loc_load1 rfl) rfl ?_
  refine run_op (loc_not rfl) rfl ?_
  refine run_op (loc_assign rfl) rfl ?_
  refine run_nil ?_
  refine run_cond rfl (fun h4 => ?_) (fun h4 => ?_)
  ·
    have c1 := h4
    refine run_seq ?_
    first | refine run_freezeRowCellV (kk := 6) (.there (.here)) (.here) rfl ?_ | refine run_freezeRowCell (kk := 6) (.there (.here)) (.here) rfl ?_
    refine run_region ?_
    refine run_op (loc_loadOwnN rfl (.here) (by rfl)) rfl ?_
    refine run_storeN (ho := (by show OneAll [_, _, _, _, _, _, _, _]; infer_instance)) rfl rfl (.there (.here)) (by rfl) ?_
    refine run_op (loc_assign rfl) rfl ?_
    refine run_nil ?_
    have hE : dropE v n = 43 := by unfold dropE; rw [if_pos c1]
    refine run_retGP Try.func10 rfl (.cellN rfl (by first | exact .here | exact .there .here | exact .there (.there .here) | exact .there (.there (.there .here)) | exact .there (.there (.there (.there .here))) | exact .there (.there (.there (.there (.there .here))))) (by rfl) (.tmp rfl (.nil))) ?_ (fun _ _ h => inv_tail (inv_tail (h)))
    exact d_tup2 (d_toSrv (by unfold dropV; rw [if_neg (by rw [hE]; first | omega | assumption)]) (fun _ _ h => h)) (d_int hE.symm)
  ·
    have c1 := Classical.not_not.1 h4
    refine run_seq ?_
    refine run_region ?_
    refine run_op (loc_move rfl) rfl ?_
    refine run_op (loc_not rfl) rfl ?_
    refine run_op (loc_assign rfl) rfl ?_
    refine run_nil ?_
    refine run_cond rfl (fun h5 => ?_) (fun h5 => ?_)
    ·
      have c2 := h5
      refine run_seq ?_
      first | refine run_freezeRowCellV (kk := 6) (.there (.here)) (.here) rfl ?_ | refine run_freezeRowCell (kk := 6) (.there (.here)) (.here) rfl ?_
      refine run_region ?_
      refine run_op (loc_loadOwnN rfl (.here) (by rfl)) rfl ?_
      refine run_storeN (ho := (by show OneAll [_, _, _, _, _, _, _, _]; infer_instance)) rfl rfl (.there (.here)) (by rfl) ?_
      refine run_op (loc_assign rfl) rfl ?_
      refine run_nil ?_
      have hE : dropE v n = 6 := by unfold dropE; rw [if_neg (Classical.not_not.2 c1), if_pos c2]
      refine run_retGP Try.func10 rfl (.cellN rfl (by first | exact .here | exact .there .here | exact .there (.there .here) | exact .there (.there (.there .here)) | exact .there (.there (.there (.there .here))) | exact .there (.there (.there (.there (.there .here))))) (by rfl) (.tmp rfl (.nil))) ?_ (fun _ _ h => inv_tail (inv_tail (h)))
      exact d_tup2 (d_toSrv (by unfold dropV; rw [if_neg (by rw [hE]; first | omega | assumption)]) (fun _ _ h => h)) (d_int hE.symm)
    ·
      have c2 := Classical.not_not.1 h5
      refine run_seq ?_
      refine run_region ?_
      refine run_op (loc_fieldAddr rfl) rfl ?_
      refine run_op (loc_load1 rfl) rfl ?_
      refine run_op (loc_makeFunc rfl) rfl ?_
      refine run_op (loc_call (cfDrop_spec n _) rfl) rfl ?_
      refine run_op (loc_assign rfl) rfl ?_
      refine run_nil ?_
      refine run_cond rfl (fun h6 => ?_) (fun h6 => ?_)
      ·
        have c3 := h6
        refine run_seq ?_
        first | refine run_freezeRowCellV (kk := 6) (.there (.here)) (.here) rfl ?_ | refine run_freezeRowCell (kk := 6) (.there (.here)) (.here) rfl ?_
        refine run_region ?_
        refine run_op (loc_loadOwnN rfl (.here) (by rfl)) rfl ?_
        refine run_storeN (ho := (by show OneAll [_, _, _, _, _, _, _, _]; infer_instance)) rfl rfl (.there (.here)) (by rfl) ?_
        refine run_op (loc_assign rfl) rfl ?_
        refine run_nil ?_
        have hE : dropE v n = 45 := by unfold dropE; rw [if_neg (Classical.not_not.2 c1), if_neg (Classical.not_not.2 c2), if_pos c3]
        refine run_retGP Try.func10 rfl (.cellN rfl (by first | exact .here | exact .there .here | exact .there (.there .here) | exact .there (.there (.there .here)) | exact .there (.there (.there (.there .here))) | exact .there (.there (.there (.there (.there .here))))) (by rfl) (.tmp rfl (.nil))) ?_ (fun _ _ h => inv_tail (inv_tail (h)))
        exact d_tup2 (d_toSrv (by unfold dropV; rw [if_neg (by rw [hE]; first | omega | assumption)]) (fun _ _ h => h)) (d_int hE.symm)
      ·
        have c3 := h6
        refine run_skip ?_
        refine run_inBlock ?_
        refine run_seq ?_
        have hat := c2.1
        have hv1 := hv.1
        refine run_region ?_
        refine run_op (loc_fieldAddrOwn rfl) rfl ?_
        first | refine run_op (LocP.upV (loc_loadOwn1 rfl (.here) (by rfl))) rfl ?_ | refine run_op (loc_loadOwn1 rfl (.here) (by rfl)) rfl ?_
        refine run_op (loc_move rfl) rfl ?_
        refine run_op (loc_move rfl) rfl ?_
        first | refine run_op (loc_add rfl rfl (by first | omega | assumption)) rfl ?_ | refine run_op (loc_addW rfl rfl) rfl ?_
        refine run_callM rfl (.there (.here)) (spec_rowV (deleteHl_spec _ v.versions (atV v n) (atV v n + 1) (by omega) (by omega))) rfl (fun s7 hs7 => ?_)
        refine run_op (loc_fieldAddrOwn rfl) rfl ?_
        refine run_store1 rfl rfl (.here) (by rfl) ?_
        refine run_nil ?_
        refine run_seq ?_
        first | refine run_freezeRowCellV (kk := 6) (.there (.here)) (.here) rfl ?_ | refine run_freezeRowCell (kk := 6) (.there (.here)) (.here) rfl ?_
        refine run_region ?_
        refine run_op (loc_loadOwnN rfl (.here) (by rfl)) rfl ?_
        refine run_storeN (ho := (by show OneAll [_, _, _, _, _, _, _, _]; infer_instance)) rfl rfl (.there (.here)) (by rfl) ?_
        refine run_op (loc_assign rfl) rfl ?_
        refine run_nil ?_
        have hE : dropE v n = 0 := by unfold dropE; rw [if_neg (Classical.not_not.2 c1), if_neg (Classical.not_not.2 c2), if_neg c3]
        refine run_retGP Try.func10 rfl (.cellN rfl (by first | exact .here | exact .there .here | exact .there (.there .here) | exact .there (.there (.there .here)) | exact .there (.there (.there (.there .here))) | exact .there (.there (.there (.there (.there .here))))) (by rfl) (.tmp rfl (.nil))) ?_ (fun _ _ h => inv_tail (inv_tail (h)))
        exact d_tup2 (d_toSrv (t' := { v with versions := v.versions.take (atV v n) ++ v.versions.drop (atV v n + 1) }) (by unfold dropV; rw [if_pos hE]) (fun _ _ h => h)) (d_int hE.symm)

end Go.Q

namespace Go.Q
variable {P : Program} {f : FuncId} {N : Nat} {I0 : Imm} {R : Goal} {g : G} {M : List Res} {k : List Item}

theorem run_rowLen {α : Type} {v : Value} {T n : Nat} {f' : α → List D} {xs : List α} (hm : In (rRow v T n f' xs) M) (h : ∀ ad cap, v = .slice ad xs.length cap → Run P f N I0 R g M k) : Run P f N I0 R g M k := by
  constructor
  intro I a w b cs hb hk hl hs hi
  obtain ⟨s, t, e⟩ := List.append_of_mem hm.mem
  have hi' := hi
  rw [e] at hi'
  rcases row_cases (hi'.perm List.perm_middle) with ⟨h1, h2⟩ | ⟨b', cap, cs', h2, _⟩
  · exact (h none 0 (by rw [h1, h2]; rfl)).go I a w b cs hb hk hl hs hi
  · exact (h _ cap h2).go I a w b cs hb hk hl hs hi

theorem loc_lenV {dst : Option Tmp} {ty : TypeId} {pos : String} {after : Array Edge} {gd : Option (Nat × Bool)} {t : TypeId} {e : TypeId} [ht : TySl P t e] {x : Operand} {ad : Option Addr} {n cap : Nat} (hx : opd g x = some (dSlV (.slice ad n cap))) :
    LocP P ⟨dst, .call ⟨.builtin .len, #[x], #[t]⟩, ty, pos, after, gd⟩ g N M (dInt .i64 (n : Nat)) :=
  locP_of_run fun I a w hs hi => by
    have hp : a.eval x = .slice ad n cap := (opd_sound hs hx).1
    refine ⟨.int .i64 n, ?_, rfl⟩
    simp [execOp, resolve, invoke, builtin, Builtin.len_, hp, run_underlying ht.eq, goInt]

theorem relL_bufAt {els : List (List D)} {ds : List D} {q o : Nat} {v : Value} {d : D} {J : Imm} {vs : List Value} (hq : els[q]? = some ds) (ho : ds[o]? = some (dSlV v)) (hd : d.rel J v) (h : relL els.flatten J vs) : relL (els.set q (ds.set o d)).flatten J vs := by
  obtain ⟨hq1, hq2⟩ := List.getElem?_eq_some_iff.1 hq
  obtain ⟨ho1, ho2⟩ := List.getElem?_eq_some_iff.1 ho
  have e1 : els = els.take q ++ ds :: els.drop (q + 1) := by
    conv => lhs; rw [← List.take_append_drop q els, List.drop_eq_getElem_cons hq1, hq2]
  have e2 : ds = ds.take o ++ dSlV v :: ds.drop (o + 1) := by
    conv => lhs; rw [← List.take_append_drop o ds, List.drop_eq_getElem_cons ho1, ho2]
  have e3 : ds.set o d = ds.take o ++ d :: ds.drop (o + 1) := by rw [List.set_eq_take_append_cons_drop, if_pos ho1]
  have e4 : els.set q (ds.set o d) = els.take q ++ (ds.set o d) :: els.drop (q + 1) := by rw [List.set_eq_take_append_cons_drop, if_pos hq1]
  rw [e4, List.flatten_append, List.flatten_cons, e3]
  rw [e1, List.flatten_append, List.flatten_cons] at h
  rw [e2] at h
  simp only [List.append_assoc, List.cons_append] at h ⊢
  have h5 := relL_swap (A := (els.take q).flatten ++ ds.take o) (B := ds.drop (o + 1) ++ (els.drop (q + 1)).flatten) (Imm.le_refl J) hd (by simpa using h)
  simpa using h5

theorem run_freezeRowBuf {b T' n' q o : Nat} {els : List (List D)} {ds : List D} {C C' : Res → List Res} {F F' : List Res} {α : Type} {T n : Nat} {f' : α → List D} {xs : List α} {v : Value} (hm : Sel (rRow v T n f' xs) M C F) (hc : Sel (rBuf b T' n' els) F C' F') (hq : els[q]? = some ds) (ho : ds[o]? = some (dSlV v))
    (h : Run P f N I0 R g (C' (rBuf b T' n' (els.set q (ds.set o (dSl n f' xs))))) k) : Run P f N I0 R g M k := by
  refine run_turn (fun I a w hsl hi => ?_) h
  obtain ⟨J, hle, hd, hi'⟩ := row_freeze (hi.perm hm.perm.1)
  refine ⟨J, hle, hsl.mono hle, ?_⟩
  have h2 := hi'.perm hc.perm.1
  refine Inv.perm ?_ (hc.perm.2 _)
  refine ⟨h2.os, h2.tape, h2.output, h2.imm, fun r hr => ?_, h2.apart⟩
  rcases List.mem_cons.1 hr with rfl | hr
  · obtain ⟨hb, ob, h3, cs, h4, h5, h6⟩ := h2.own _ (List.mem_cons_self ..)
    refine ⟨hb, ob, h3, cs, h4, fun e he => ?_, relL_bufAt hq ho hd h6⟩
    rcases List.mem_or_eq_of_mem_set he with he | rfl
    · exact h5 e he
    · rw [List.length_set]; exact h5 ds (List.mem_of_getElem? hq)
  · exact h2.own r (List.mem_cons_of_mem _ hr)
/-- A row of values told asL lists of descriptors. -/
theorem row_ids {α : Type} {v : Value} {T n : Nat} {f' : α → List D} {xs : List α} {I : Imm} {F : List Res} {w : World} (h : Inv I (rRow v T n f' xs :: F) w) : Inv I (rRow v T n (fun l : List D => l) (xs.map f') :: F) w := by
  have e : rRow v T n f' xs = rRow v T n (fun l : List D => l) (xs.map f') := by
    unfold rRow
    simp only [List.length_map, List.flatMap_map, List.mem_map, forall_exists_index, and_imp, forall_apply_eq_imp_iff₂, List.map_eq_nil_iff]
  rw [← e]; exact h
/-- A call that makes two resources. -/
theorem run_callN2 {ops : Array Oper} {rest : List Oper} {dst : Tmp} {ty : TypeId} {pos : String} {after : Array Edge} {fn : FuncId} [hf : TyFn P fn] {xs : List Operand} {ats : Array TypeId} {Ds : List D} {σ τ : Type} {d : σ × τ → D} {r1 r2 : σ × τ → Res} (hx : opds g xs = some Ds) (hsp : Spec P fn Ds [] (σ := σ × τ) (fun _ => True) d (fun s => [r1 s, r2 s])) (hN : Nat.blt dst N = true)
    (h : ∀ a b, RunL P f N I0 R ((dst, d (a, b)) :: g) (r1 (a, b) :: r2 (a, b) :: M) ops rest k) : RunL P f N I0 R g M ops (⟨some dst, .call ⟨.value (.func fn), xs.toArray, ats⟩, ty, pos, after, none⟩ :: rest) k :=
  run_opM (Min := []) (F := M) (loc_callM hsp hx) hN (fun s _ => h s.1 s.2)
end Go.Q

namespace Go.Q
open Go.Proofs

open Classical
theorem mwithin_spec (n : Int) : SpecP Try.prog 79 [dInt .i64 n] (dB (1 ≤ n ∧ n < 2147483647)) := by
  refine specP_of_body Try.func79 rfl rfl (fun I M => ?_)
  refine run_seq ?_
  refine run_region ?_
  refine run_op (loc_assign rfl) rfl ?_
  refine run_nil ?_
  refine run_seq ?_
  refine run_region ?_
  refine run_op (loc_move rfl) rfl ?_
  refine run_op (loc_geq rfl rfl) rfl ?_
  refine run_op (loc_move rfl) rfl ?_
  refine run_gfirst rfl rfl (by first | exact guard_true _ | exact guard_false _ | exact guard_if (guard_true _) | exact guard_if (guard_false _)) (fun hg => loc_move rfl) rfl ?_
  refine run_gop rfl rfl (by first | exact guard_true _ | exact guard_false _ | exact guard_if (guard_true _) | exact guard_if (guard_false _)) (fun hg => loc_lss rfl rfl) rfl ?_
  refine run_gleave ?_
  refine run_op (loc_and rfl rfl) rfl ?_
  refine run_op (loc_assign rfl) rfl ?_
  refine run_nil ?_
  refine run_retP Try.func79 rfl rfl ?_
  exact fun _ _ h => h

theorem sign_spec (s : Int) (l : List Int) : SpecP Try.prog 46 [dInt .i64 s, dInts l] (dTup [dInt .i64 (signM s l), dInt .i64 (signE s l)]) := by
  refine specP_of_body Try.func46 rfl rfl (fun I M => ?_)
  refine run_seq ?_
  refine run_region ?_
  refine run_op (loc_assign rfl) rfl ?_
  refine run_op (loc_assign rfl) rfl ?_
  refine run_nil ?_
  refine run_seq ?_
  refine run_seq ?_
  refine run_region ?_
  refine run_op (loc_move rfl) rfl ?_
  refine run_op (loc_call (mwithin_spec _) rfl) rfl ?_
  refine run_op (loc_not rfl) rfl ?_
  refine run_nil ?_
  refine run_cond rfl (fun h1 => ?_) (fun h1 => ?_)
  ·
    have hE : signE s l = 1 := by unfold signE; rw [if_pos h1]
    refine run_seq ?_
    refine run_region ?_
    refine run_op (loc_assign rfl) rfl ?_
    refine run_op (loc_assign rfl) rfl ?_
    refine run_nil ?_
    refine run_ret2P Try.func46 rfl rfl rfl ?_
    exact d_tup2 (d_int (by unfold signM; rw [if_neg (by omega)])) (d_int hE.symm)
  ·
    have c1 := Classical.not_not.1 h1
    refine run_skip ?_
    refine run_seq ?_
    refine run_seq ?_
    refine run_region ?_
    refine run_op (loc_move rfl) rfl ?_
    first | refine runL_fact (s := 9) rfl (fun _ _ h => dSl_len h) (fun hlen2 => ?_) | skip
    refine run_op (loc_len rfl) rfl ?_
    refine run_op (loc_gtr rfl rfl) rfl ?_
    refine run_nil ?_
    refine run_cond rfl (fun h3 => ?_) (fun h3 => ?_)
    ·
      have hE : signE s l = 4 := by unfold signE; rw [if_neg (Classical.not_not.2 c1), if_pos (by omega)]
      refine run_seq ?_
      refine run_region ?_
      refine run_op (loc_assign rfl) rfl ?_
      refine run_op (loc_assign rfl) rfl ?_
      refine run_nil ?_
      refine run_ret2P Try.func46 rfl rfl rfl ?_
      exact d_tup2 (d_int (by unfold signM; rw [if_neg (by omega)])) (d_int hE.symm)
    ·
      have hE : signE s l = 0 := by unfold signE; rw [if_neg (Classical.not_not.2 c1), if_neg (by omega)]
      refine run_skip ?_
      refine run_seq ?_
      refine run_region ?_
      refine run_op (loc_move rfl) rfl ?_
      refine run_new (loc_buildOwn (f' := fI) (xs := [s]) rfl rfl (.one rfl (.nil)) rfl rfl rfl) rfl (fun b4 _ => ?_)
      refine run_op (loc_move rfl) rfl ?_
      refine run_upd (LocM.frz (loc_append rfl rfl rfl (by first | omega | (unfold lenMax; omega) | assumption | (simp; omega) | (simp [lenMax]; omega)) (by first | omega | (unfold lenMax; omega) | assumption | (simp; omega) | (simp [lenMax]; omega))) rfl) rfl (.here) (fun v5 hv5 => ?_)
      refine run_op (loc_call (row_spec _) rfl) rfl ?_
      refine run_op (loc_assign rfl) rfl ?_
      refine run_op (loc_assign rfl) rfl ?_
      refine run_nil ?_
      refine run_drop (.cons _ (.refl _)) ?_
      refine run_ret2P Try.func46 rfl rfl rfl ?_
      exact d_tup2 (d_int (by unfold signM; rw [if_pos hE]; rfl)) (d_int hE.symm)

def flatL (ls : List (List Int)) : List Int := ls.flatMap fun l => (l.length : Int) :: l
theorem flatL_snoc {ls : List (List Int)} {k : Nat} (h : k < ls.length) : flatL (ls.take (k + 1)) = flatL (ls.take k) ++ [((ls[k]?.getD default).length : Int)] ++ (ls[k]?.getD default) := by
  unfold flatL
  rw [take_snoc h, List.flatMap_append]; simp
theorem flatL_le {ls : List (List Int)} (h : ls.length ≤ 10 ∧ ∀ l ∈ ls, l.length ≤ 100000) : ∀ k, k ≤ ls.length → (flatL (ls.take k)).length ≤ k * 100001
  | 0, _ => by simp [flatL]
  | k + 1, hk => by
    have h1 := flatL_le h k (by omega)
    have h2 := h.2 _ (getD_mem (xs := ls) (k := k) (by omega))
    rw [flatL_snoc (by omega), List.length_append, List.length_append, List.length_singleton]; omega
theorem withLists_spec (v : Value) (out : List Int) (ls : List (List Int)) (h : ls.length ≤ 10 ∧ ∀ l ∈ ls, l.length ≤ 100000) (ho : out.length ≤ 100) : Spec Try.prog 50 [dVal v, dRows ls] [rRow v 3 1 fI out] (σ := Value) (fun _ => True) (fun u => dVal u) (fun u => [rRow u 3 1 fI (out ++ flatL ls)]) := by
  refine spec_of_body Try.func50 rfl rfl (fun I F => ?_)
  refine run_seq ?_
  refine run_region ?_
  refine run_op (loc_assign rfl) rfl ?_
  refine run_nil ?_
  refine run_seq ?_
  refine run_seq ?_
  refine run_region ?_
  refine run_op (loc_move rfl) rfl ?_
  first | refine runL_fact (s := 7) rfl (fun _ _ h => dSl_len h) (fun hlen1 => ?_) | skip
  refine run_op (loc_len rfl) rfl ?_
  refine run_op (loc_move rfl) rfl ?_
  refine run_nil ?_
  refine run_block ?_
  refine run_loopF (σ := Value × Nat) (ks := [7, 8]) (.cons rfl (.cons rfl (.nil))) (fun q => [(0, dVal q.1), (9, dInt .i64 (q.2 : Nat))]) (fun q => [rRow q.1 3 1 fI (out ++ flatL (ls.take q.2))]) (fun q => q.2 ≤ ls.length) (fun q => ls.length - q.2) ((v, 0)) (Nat.zero_le _) (.cons rfl (by first | exact fun _ _ h => h | exact d_int (by omega) | exact d_int (by simp) | exact d_intN (by omega) | exact d_any) (.cons rfl (by first | exact fun _ _ h => h | exact d_int (by omega) | exact d_int (by simp) | exact d_intN (by omega) | exact d_any) .nil)) (by simp only [appR]; rw [List.take_zero, show flatL [] = [] from rfl, List.append_nil]; rfl) ?_
  intro q hq ih2
  have hfl := flatL_le h q.2 hq
  have hol : (out ++ flatL (ls.take q.2)).length ≤ 2000000 := by rw [List.length_append]; omega
  refine run_seq ?_
  refine run_region ?_
  refine run_op (loc_lss rfl rfl) rfl ?_
  refine run_nil ?_
  refine run_seq ?_
  refine run_cond rfl (fun h3 => ?_) (fun h3 => ?_)
  ·
    have hlk := h.2 _ (getD_mem (xs := ls) (k := q.2) (by omega))
    have hol2 : (out ++ flatL (ls.take q.2) ++ [((ls[q.2]?.getD default).length : Int)]).length ≤ 2000001 := by rw [List.length_append, List.length_singleton]; omega
    refine run_skip ?_
    refine run_seq ?_
    refine run_block ?_
    refine run_seq ?_
    refine run_region ?_
    first | refine run_op (loc_index rfl rfl (by first | omega | assumption)) rfl ?_ | refine run_op (loc_indexI rfl rfl (by first | omega | assumption)) rfl ?_
    refine run_op (loc_load1 rfl) rfl ?_
    refine run_op (loc_assign rfl) rfl ?_
    refine run_nil ?_
    refine run_region ?_
    refine run_op (loc_move rfl) rfl ?_
    refine run_op (loc_move rfl) rfl ?_
    first | refine runL_fact (s := 14) rfl (fun _ _ h => dSl_len h) (fun hlen4 => ?_) | skip
    refine run_op (loc_len rfl) rfl ?_
    refine run_op (loc_buildSlice rfl rfl (.one rfl (.nil)) rfl rfl) rfl ?_
    refine run_append1 rfl (.here) rfl (by rfl) (by rfl) (by first | omega | (unfold lenMax; omega) | assumption | (simp; omega) | (simp [lenMax]; omega)) (by first | omega | (unfold lenMax; omega) | assumption | (simp; omega) | (simp [lenMax]; omega)) rfl (fun v5 => ?_)
    refine run_op (loc_move rfl) rfl ?_
    refine run_append rfl (.here) rfl (by rfl) (by first | omega | (unfold lenMax; omega) | assumption | (simp; omega) | (simp [lenMax]; omega)) (by first | omega | (unfold lenMax; omega) | assumption | (simp; omega) | (simp [lenMax]; omega)) rfl (fun v6 => ?_)
    refine run_op (loc_assign rfl) rfl ?_
    refine run_nil ?_
    refine run_inBlock ?_
    refine run_region ?_
    first | refine run_op (loc_add rfl rfl (by first | omega | assumption)) rfl ?_ | refine run_op (loc_addW rfl rfl) rfl ?_
    refine run_op (loc_move rfl) rfl ?_
    refine run_nil ?_
    exact run_againF ih2 ((v6, q.2 + 1)) (by simp only; omega) (by simp only; omega) (.cons rfl (by first | exact fun _ _ h => h | exact d_int (by omega) | exact d_int (by simp) | exact d_intN (by omega) | exact d_any) (.cons rfl (by first | exact fun _ _ h => h | exact d_int (by omega) | exact d_int (by simp) | exact d_intN (by omega) | exact d_any) .nil)) (.cons rfl (fun _ _ x => x) (.cons rfl (fun _ _ x => x) (.nil))) (by simp only [appR]; rw [flatL_snoc (by omega)]; simp only [List.append_assoc])
  ·
    refine run_exit rfl ?_
    refine run_seq ?_
    refine run_region ?_
    refine run_op (loc_move rfl) rfl ?_
    refine run_op (loc_assign rfl) rfl ?_
    refine run_nil ?_
    refine run_ret (q.1) Try.func50 rfl rfl ?_ (trivial) (fun I w h => by rw [List.take_of_length_le (by omega)] at h; exact h)
    exact fun _ _ h => h

theorem numbers_spec (n : Nte) (hn : n.query.length ≤ 100000 ∧ n.values.length ≤ 100000) : SpecP Try.prog 25 [dNte n] (dInts (numsN n)) := by
  refine specP_of_body Try.func25 rfl rfl (fun I M => ?_)
  refine run_seq ?_
  refine run_region ?_
  refine run_op (loc_boxN rfl) rfl ?_
  refine run_op (loc_assign rfl) rfl ?_
  refine run_nil ?_
  refine run_seq ?_
  refine run_region ?_
  refine run_op (loc_fieldAddr rfl) rfl ?_
  refine run_op (loc_load1 rfl) rfl ?_
  refine run_op (loc_fieldAddr rfl) rfl ?_
  refine run_op (loc_load1 rfl) rfl ?_
  refine run_op (loc_fieldAddr rfl) rfl ?_
  refine run_op (loc_load1 rfl) rfl ?_
  refine run_op (loc_fieldAddr rfl) rfl ?_
  refine run_op (loc_load1 rfl) rfl ?_
  refine run_op (loc_fieldAddr rfl) rfl ?_
  refine run_op (loc_load1 rfl) rfl ?_
  refine run_new (loc_buildOwn (f' := fI) (xs := [n.kind, n.read, n.probe, n.server, n.version]) rfl rfl (.one rfl (.one rfl (.one rfl (.one rfl (.one rfl (.nil)))))) rfl rfl rfl) rfl (fun b1 _ => ?_)
  refine run_op (loc_fieldAddr rfl) rfl ?_
  refine run_op (loc_load1 rfl) rfl ?_
  refine run_op (loc_fieldAddr rfl) rfl ?_
  refine run_op (loc_load1 rfl) rfl ?_
  refine run_op (loc_buildSlice rfl rfl (.one rfl (.one rfl (.nil))) rfl rfl) rfl ?_
  refine runL_recast (s := 18) rfl (d_sl (ys := [n.query, n.values]) (h := fR) rfl) ?_
  refine run_callM rfl (.here) (withLists_spec _ _ [n.query, n.values] ⟨by simp, fun l hl => by rcases List.mem_cons.1 hl with rfl | hl; (· exact hn.1); (· rw [List.mem_singleton.1 hl]; exact hn.2)⟩ (by simp)) rfl (fun s2 hs2 => ?_)
  refine run_op (loc_assign rfl) rfl ?_
  refine run_nil ?_
  refine run_freezeRow (s := 2) rfl (.here) ?_
  refine run_retP Try.func25 rfl rfl ?_
  exact d_eq (by unfold numsN flatL; simp)

noncomputable def wordQ (h : Held) (q : List Int) (n : Nat) (lie : Int) : Int := if n = 0 then (dotK h.head.p n h.rows q h.rows.length + lie % h.head.p) % h.head.p else dotK h.head.p n h.rows q h.rows.length
theorem dotK_bd {p : Int} (hp : 0 < p) (d : Nat) (rows : List (List Int)) (q : List Int) (k : Nat) : 0 ≤ dotK p d rows q k ∧ dotK p d rows q k < p := by
  cases k with
  | zero => exact ⟨Int.le_refl _, hp⟩
  | succ k => exact mod_bd _ hp
theorem sword_spec (h : Held) (rd pr ve : Int) (q : List Int) (ad : Option Addr) (n cap : Nat) (lie : Int) (hh : okHeld h) (hq : q.length = h.rows.length) (hn : (n : Int) < h.head.width) (hqa : allP h.head.p q) : SpecP Try.prog 45 [dHeld h, dAgg [dInt .i64 rd, dInt .i64 pr, dInt .i64 ve, dInts q, dSlV (.slice ad n cap)], dInt .i64 lie] (dInt .i64 (wordQ h q n lie)) := by
  obtain ⟨hh1, hh2, hh3, hh4⟩ := hh
  have hp1 := hh1.1
  have hp2 := hh1.2.1
  refine specP_of_body Try.func45 rfl rfl (fun I M => ?_)
  refine run_seq ?_
  refine run_region ?_
  refine run_op (loc_boxN rfl) rfl ?_
  refine run_op (loc_boxN rfl) rfl ?_
  refine run_op (loc_assign rfl) rfl ?_
  refine run_nil ?_
  refine run_seq ?_
  refine run_region ?_
  refine run_op (loc_fieldAddr rfl) rfl ?_
  refine run_op (loc_fieldAddr rfl) rfl ?_
  refine run_op (loc_load1 rfl) rfl ?_
  refine run_op (loc_build (.one rfl rfl rfl (.nil))) rfl ?_
  refine run_new (loc_allocOwn (by simp)) rfl (fun b1 _ => ?_)
  refine run_storeN (ho := (by show OneAll [_]; infer_instance)) rfl rfl (.here) (by rfl) ?_
  refine run_nil ?_
  refine run_seq ?_
  refine run_region ?_
  refine run_op (loc_assign rfl) rfl ?_
  refine run_nil ?_
  refine run_seq ?_
  refine run_seq ?_
  refine run_region ?_
  refine run_op (loc_fieldAddr rfl) rfl ?_
  refine run_op (loc_load1 rfl) rfl ?_
  first | refine runL_fact (s := 16) rfl (fun _ _ h => dSl_len h) (fun hlen2 => ?_) | skip
  refine run_op (loc_len rfl) rfl ?_
  refine run_op (loc_move rfl) rfl ?_
  refine run_nil ?_
  refine run_block ?_
  refine run_loopC (σ := Nat) (ks := [2, 4, 7, 16, 17]) (.cons rfl (.cons rfl (.cons rfl (.cons rfl (.cons rfl (.nil)))))) (fun k => [(8, dInt .i64 (dotK h.head.p n h.rows q k)), (18, dInt .i64 (k : Nat))]) (fun k => k ≤ h.rows.length) (fun k => h.rows.length - k) (0) (Nat.zero_le _) (.cons rfl (by first | exact fun _ _ h => h | exact d_int (by omega) | exact d_int (by simp) | exact d_intN (by omega) | exact d_any) (.cons rfl (by first | exact fun _ _ h => h | exact d_int (by omega) | exact d_int (by simp) | exact d_intN (by omega) | exact d_any) .nil)) ?_
  intro k hk ih3
  have hdb := dotK_bd (show 0 < h.head.p by omega) n h.rows q k
  refine run_seq ?_
  refine run_region ?_
  refine run_op (loc_lss rfl rfl) rfl ?_
  refine run_nil ?_
  refine run_seq ?_
  refine run_cond rfl (fun h4 => ?_) (fun h4 => ?_)
  ·
    have hr1 := hh4 _ (getD_mem (xs := h.rows) (k := k) (by omega))
    have hr2 := hr1.1
    have hr3 := hr1.2 _ (getD_mem (xs := h.rows[k]?.getD default) (k := n) (by omega))
    have hr4 := hqa _ (getD_mem (xs := q) (k := k) (by omega))
    unfold hasP at hr3 hr4
    have hmm := mul_bd (a := (h.rows[k]?.getD default)[n]?.getD default) (b := q[k]?.getD default) (A := 65521) (B := 65521) (by omega) (by omega) (by omega) (by omega)
    refine run_skip ?_
    refine run_seq ?_
    refine run_block ?_
    refine run_seq ?_
    refine run_region ?_
    refine run_op (loc_move rfl) rfl ?_
    first | refine run_op (loc_index rfl rfl (by first | omega | assumption)) rfl ?_ | refine run_op (loc_indexI rfl rfl (by first | omega | assumption)) rfl ?_
    refine run_op (loc_load1 rfl) rfl ?_
    refine run_op (loc_assign rfl) rfl ?_
    refine run_op (loc_assign rfl) rfl ?_
    refine run_nil ?_
    refine dr_start _ (.none) [⟨[(8, none)], [], none⟩,
        ⟨[(10, none)], [], none⟩,
        ⟨[(4, none)], [], none⟩,
        ⟨[(25, some (2, false))], [2], none⟩,
        ⟨[(26, some (3, false))], [2, 3], none⟩,
        ⟨[(24, some (1, false)), (27, some (4, false))], [1, 2, 3, 4], none⟩,
        ⟨[(28, some (5, false))], [1, 2, 3, 4, 5], none⟩,
        ⟨[(4, none)], [], none⟩,
        ⟨[(30, some (7, false))], [7], none⟩,
        ⟨[(9, none)], [], none⟩,
        ⟨[(31, some (8, false)), (32, some (9, false))], [7, 8, 9], none⟩,
        ⟨[(33, some (10, false))], [7, 8, 9, 10], none⟩,
        ⟨[(29, some (6, false)), (34, some (11, false))], [1, 2, 3, 4, 5, 6, 7, 8, 9, 10, 11], none⟩,
        ⟨[(23, some (0, false)), (35, some (12, false))], [0, 1, 2, 3, 4, 5, 6, 7, 8, 9, 10, 11, 12], none⟩,
        ⟨[(7, none)], [], none⟩,
        ⟨[(37, some (14, false))], [14], some (0, 0, false)⟩,
        ⟨[(36, some (13, false)), (38, some (15, false))], [0, 1, 2, 3, 4, 5, 6, 7, 8, 9, 10, 11, 12, 13, 14, 15], none⟩,
        ⟨[(39, some (16, false))], [0, 1, 2, 3, 4, 5, 6, 7, 8, 9, 10, 11, 12, 13, 14, 15, 16], none⟩] [_] _ rfl rfl ?_
    refine dq_pure rfl (fun s => .g rfl (.nil)) (fun s hs _ => loc_move rfl) (by exact .nil) ?_
    refine dq_pure rfl (fun s => .g rfl (.nil)) (fun s hs _ => loc_move rfl) (by exact .nil) ?_
    refine dq_pure rfl (fun s => .g rfl (.nil)) (fun s hs _ => loc_fieldAddr rfl) (by exact .nil) ?_
    refine dq_pure rfl (fun s => .op rfl (.nil)) (fun s hs _ => loc_load1 rfl) (by exact .nil) ?_
    refine dq_pure rfl (fun s => .op rfl (.nil)) (fun s hs _ => loc_lenV rfl) (by exact .nil) ?_
    first | refine dq_pure rfl (fun s => .op rfl (.op rfl (.nil))) (fun s hs _ => loc_index rfl rfl (by first | omega | assumption)) (by exact .nil) ?_ | refine dq_pure rfl (fun s => .op rfl (.op rfl (.nil))) (fun s hs _ => loc_indexI rfl rfl (by first | omega | assumption)) (by exact .nil) ?_
    refine dq_pure rfl (fun s => .op rfl (.nil)) (fun s hs _ => loc_load1 rfl) (by exact .nil) ?_
    refine dq_pure rfl (fun s => .g rfl (.nil)) (fun s hs _ => loc_fieldAddr rfl) (by exact .nil) ?_
    refine dq_pure rfl (fun s => .op rfl (.nil)) (fun s hs _ => loc_load1 rfl) (by exact .nil) ?_
    refine dq_pure rfl (fun s => .g rfl (.nil)) (fun s hs _ => loc_move rfl) (by exact .nil) ?_
    first | refine dq_pure rfl (fun s => .op rfl (.op rfl (.nil))) (fun s hs _ => loc_index rfl rfl (by first | omega | assumption)) (by exact .nil) ?_ | refine dq_pure rfl (fun s => .op rfl (.op rfl (.nil))) (fun s hs _ => loc_indexI rfl rfl (by first | omega | assumption)) (by exact .nil) ?_
    refine dq_pure rfl (fun s => .op rfl (.nil)) (fun s hs _ => loc_load1 rfl) (by exact .nil) ?_
    first | refine dq_pure rfl (fun s => .op rfl (.op rfl (.nil))) (fun s hs _ => loc_mul rfl rfl (by first | omega | assumption)) (by exact .nil) ?_ | refine dq_pure rfl (fun s => .op rfl (.op rfl (.nil))) (fun s hs _ => loc_mulW rfl rfl) (by exact .nil) ?_
    first | refine dq_pure rfl (fun s => .op rfl (.op rfl (.nil))) (fun s hs _ => loc_add rfl rfl (by first | omega | assumption)) (by exact .nil) ?_ | refine dq_pure rfl (fun s => .op rfl (.op rfl (.nil))) (fun s hs _ => loc_addW rfl rfl) (by exact .nil) ?_
    refine dq_pure rfl (fun s => .g rfl (.nil)) (fun s hs _ => loc_fieldAddrOwn rfl) (by exact .nil) ?_
    refine dq_read rfl (fun s => .op rfl (.nil)) rfl rfl (fun s hs _ hm => loc_loadOwn1 rfl hm (by rfl)) (by exact .nil) ?_
    first | refine dq_pure rfl (fun s => .op rfl (.op rfl (.nil))) (fun s hs _ => loc_rem rfl rfl (by first | omega | assumption)) (by exact .nil) ?_ | refine dq_pure rfl (fun s => .op rfl (.op rfl (.nil))) (fun s hs _ => loc_remW rfl rfl (by first | omega | assumption)) (by exact .nil) ?_
    refine dq_pure rfl (fun s => .op rfl (.nil)) (fun s hs _ => loc_assign rfl) (by exact .nil) ?_
    refine dq_end (rs := [_]) () rfl (fun _ => rfl) (.nil) rfl (fun _ _ => ?_)
    dsimp only [outG, outM, List.map, List.set, id]
    refine run_inBlock ?_
    refine run_region ?_
    first | refine run_op (loc_add rfl rfl (by first | omega | assumption)) rfl ?_ | refine run_op (loc_addW rfl rfl) rfl ?_
    refine run_op (loc_move rfl) rfl ?_
    refine run_nil ?_
    exact run_againC ih3 (k + 1) (by omega) (by omega) (.cons rfl (by first | exact fun _ _ h => h | exact d_int (by omega) | exact d_int (by simp) | exact d_intN (by omega) | exact d_any) (.cons rfl (by first | exact fun _ _ h => h | exact d_int (by omega) | exact d_int (by simp) | exact d_intN (by omega) | exact d_any) .nil)) (.cons rfl (fun _ _ x => x) (.cons rfl (fun _ _ x => x) (.cons rfl (fun _ _ x => x) (.cons rfl (fun _ _ x => x) (.cons rfl (fun _ _ x => x) (.nil))))))
  ·
    refine run_exit rfl ?_
    refine run_seq ?_
    refine run_seq ?_
    refine run_region ?_
    refine run_op (loc_fieldAddr rfl) rfl ?_
    refine run_op (loc_load1 rfl) rfl ?_
    first | refine runL_fact (s := 42) rfl (fun _ _ h => dSl_len h) (fun hlen5 => ?_) | skip
    refine run_op (loc_lenV rfl) rfl ?_
    refine run_op (loc_eql rfl rfl) rfl ?_
    refine run_nil ?_
    refine run_joinC (σ := Int) (ks := []) (.nil) (fun u => [(8, dInt .i64 u)]) (fun u => u = wordQ h q n lie) (fun j6 => ?_) ?_
    ·
      refine run_cond rfl (fun h7 => ?_) (fun h7 => ?_)
      ·
        have c3 : n = 0 := by omega
        have hlb := mod_bd lie (show 0 < h.head.p by omega)
        refine run_seq ?_
        refine run_region ?_
        refine run_op (loc_loadOwnN rfl (.here) (by rfl)) rfl ?_
        refine run_op (loc_move rfl) rfl ?_
        refine run_op (loc_call (reduceF_spec _ _ hh1) rfl) rfl ?_
        refine run_op (loc_move rfl) rfl ?_
        refine run_op (loc_extract rfl rfl) rfl ?_
        refine run_op (loc_extract rfl rfl) rfl ?_
        refine run_op (loc_assign rfl) rfl ?_
        refine run_nil ?_
        refine run_region ?_
        refine run_op (loc_move rfl) rfl ?_
        refine run_op (loc_move rfl) rfl ?_
        first | refine run_op (loc_add rfl rfl (by first | omega | assumption)) rfl ?_ | refine run_op (loc_addW rfl rfl) rfl ?_
        refine run_op (loc_fieldAddrOwn rfl) rfl ?_
        refine run_op (loc_loadOwn1 rfl (.here) (by rfl)) rfl ?_
        first | refine run_op (loc_rem rfl rfl (by first | omega | assumption)) rfl ?_ | refine run_op (loc_remW rfl rfl (by first | omega | assumption)) rfl ?_
        refine run_op (loc_assign rfl) rfl ?_
        refine run_nil ?_
        exact run_atC j6 ((dotK h.head.p n h.rows q k + lie % h.head.p) % h.head.p) (by unfold wordQ; rw [if_pos c3, show k = h.rows.length by omega]) (.cons rfl (by first | exact fun _ _ h => h | exact d_int (by omega) | exact d_int (by simp) | exact d_intN (by omega) | exact d_any) .nil) (.nil)
      ·
        have c3 : ¬ n = 0 := by omega
        refine run_skip ?_
        exact run_atC j6 (dotK h.head.p n h.rows q k) (by unfold wordQ; rw [if_neg c3, show k = h.rows.length by omega]) (.cons rfl (by first | exact fun _ _ h => h | exact d_int (by omega) | exact d_int (by simp) | exact d_intN (by omega) | exact d_any) .nil) (.nil)
    rintro u rfl
    refine run_seq ?_
    refine run_region ?_
    refine run_op (loc_move rfl) rfl ?_
    refine run_op (loc_assign rfl) rfl ?_
    refine run_nil ?_
    refine run_drop (.cons _ (.refl _)) ?_
    refine run_retP Try.func45 rfl rfl ?_
    exact fun _ _ h => h

end Go.Q
