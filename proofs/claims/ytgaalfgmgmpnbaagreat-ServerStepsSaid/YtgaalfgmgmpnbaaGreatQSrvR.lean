/- Contracts of servers in the reference: versions and queries. -/
import Derived.Test.YtgaalfgmgmpnbaaGreatQPlainX2
import Derived.Test.YtgaalfgmgmpnbaaGreatQPlainV3
set_option linter.unusedVariables false
set_option linter.unusedSimpArgs false
namespace Go.Q
open Go.Proofs
open Classical
theorem rsnew_spec (id : Int) (s : Schm) : SpecP Tryz.prog 19 [dInt .i64 id, dSchm s] (dTup [dSrv (newS id s), dInt .i64 (newSE id s)]) := by
  refine specP_of_body Tryz.func19 rfl rfl (fun I M => ?_)
  refine run_seq ?_
  refine run_region ?_
  refine run_op (loc_boxN rfl) rfl ?_
  refine run_new (loc_allocOwn (by simp)) rfl (fun b1 _ => ?_)
  refine run_op (loc_assign rfl) rfl ?_
  refine run_nil ?_
  refine run_seq ?_
  refine run_seq ?_
  refine run_region ?_
  refine run_op (loc_loadN rfl rfl) rfl ?_
  refine run_op (loc_call (rshape_spec _) rfl) rfl ?_
  refine run_op (loc_not rfl) rfl ?_
  refine run_nil ?_
  refine run_cond rfl (fun h2 => ?_) (fun h2 => ?_)
  ·
   have c1 := h2
   refine run_seq ?_
   refine run_region ?_
   refine run_op (loc_build (.nil)) rfl ?_
   refine run_storeN (ho := (by show OneAll [_, _, _, _, _, _, _, _]; infer_instance)) rfl rfl (.here) (by rfl) ?_
   refine run_op (loc_assign rfl) rfl ?_
   refine run_nil ?_
   have hE : newSE id s = 40 := by unfold newSE; rw [if_pos c1]
   refine run_retGP Tryz.func19 rfl (.cellN rfl (.here) (by rfl) (.tmp rfl (.nil))) ?_ (fun _ _ h => inv_tail (h))
   exact d_tup2 (d_toSrv (t' := srv0) (by unfold newS; rw [if_neg (by rw [hE]; omega)]) (d_aggU (.cons (d_int rfl) (.cons (d_int rfl) (.cons (d_int rfl) (.cons (d_int rfl) (.cons (d_int rfl) (.cons (d_B Iff.rfl) (.cons d_nil (.cons d_nil .nil)))))))))) (d_int hE.symm)
  ·
   have c1 := Classical.not_not.1 h2
   have hbd := shape_bd c1
   refine run_skip ?_
   refine run_seq ?_
   refine run_seq ?_
   refine run_region ?_
   refine run_op (loc_move rfl) rfl ?_
   refine run_op (loc_lss rfl rfl) rfl ?_
   refine run_op (loc_move rfl) rfl ?_
   refine run_gfirst rfl rfl gdI.ok (fun hg => loc_move rfl) rfl ?_
   refine run_gop rfl rfl gdI.ok (fun hg => loc_fieldAddr rfl) rfl ?_
   refine run_gop rfl rfl gdI.ok (fun hg => loc_load1 rfl) rfl ?_
   refine run_gop rfl rfl gdI.ok (fun hg => loc_gtr rfl rfl) rfl ?_
   refine run_gleave ?_
   refine run_op (loc_or rfl rfl) rfl ?_
   refine run_nil ?_
   refine run_cond rfl (fun h3 => ?_) (fun h3 => ?_)
   ·
    have c2 := h3
    refine run_seq ?_
    refine run_region ?_
    refine run_op (loc_build (.nil)) rfl ?_
    refine run_storeN (ho := (by show OneAll [_, _, _, _, _, _, _, _]; infer_instance)) rfl rfl (.here) (by rfl) ?_
    refine run_op (loc_assign rfl) rfl ?_
    refine run_nil ?_
    have hE : newSE id s = 1 := by unfold newSE; rw [if_neg (Classical.not_not.2 c1), if_pos c2]
    refine run_retGP Tryz.func19 rfl (.cellN rfl (.here) (by rfl) (.tmp rfl (.nil))) ?_ (fun _ _ h => inv_tail (h))
    exact d_tup2 (d_toSrv (t' := srv0) (by unfold newS; rw [if_neg (by rw [hE]; omega)]) (d_aggU (.cons (d_int rfl) (.cons (d_int rfl) (.cons (d_int rfl) (.cons (d_int rfl) (.cons (d_int rfl) (.cons (d_B Iff.rfl) (.cons d_nil (.cons d_nil .nil)))))))))) (d_int hE.symm)
   ·
    have c2 := h3
    refine run_skip ?_
    refine run_seq ?_
    refine run_region ?_
    refine run_op (loc_move rfl) rfl ?_
    refine run_op (loc_loadN rfl rfl) rfl ?_
    refine run_op (loc_build (.one rfl rfl rfl (.agg rfl rfl rfl rfl (.one rfl rfl rfl (.nil))))) rfl ?_
    refine run_storeN (ho := (by show OneAll [_, _, _, _, _, _, _, _]; infer_instance)) rfl rfl (.here) (by rfl) ?_
    refine run_op (loc_assign rfl) rfl ?_
    refine run_nil ?_
    have hE : newSE id s = 0 := by unfold newSE; rw [if_neg (Classical.not_not.2 c1), if_neg c2]
    refine run_retGP Tryz.func19 rfl (.cellN rfl (.here) (by rfl) (.tmp rfl (.nil))) ?_ (fun _ _ h => inv_tail (h))
    exact d_tup2 (d_toSrv (t' := ⟨id, s, True, [], []⟩) (by unfold newS; rw [if_pos hE]) (d_aggU (.cons (d_int rfl) (.cons (d_int rfl) (.cons (d_int rfl) (.cons (d_int rfl) (.cons (d_int rfl) (.cons (d_B Iff.rfl) (.cons d_nil (.cons d_nil .nil)))))))))) (d_int hE.symm)
theorem rfind30_spec (v : Srv) (n : Int) (hs : ascV v.versions) : SpecP Tryz.prog 64 [dSrv v, dInt .i64 n] (dInt .i64 (findR v n)) := by
  refine specP_of_body Tryz.func64 rfl rfl (fun I M => ?_)
  refine run_seq ?_
  refine run_region ?_
  refine run_op (loc_boxN rfl) rfl ?_
  refine run_op (loc_assign rfl) rfl ?_
  refine run_nil ?_
  refine run_seq ?_
  refine run_seq ?_
  refine run_region ?_
  refine run_op (loc_assign rfl) rfl ?_
  refine run_nil ?_
  refine run_block ?_
  refine run_loopC (σ := Nat) (ks := [1, 2]) (.cons rfl (.cons rfl (.nil))) (fun k => [(5, dInt .i64 (k : Nat))]) (fun k => k ≤ v.versions.length ∧ (∀ j, j < k → (v.versions[j]?.getD default).head.number ≠ n)) (fun k => v.versions.length - k) (0) (⟨by omega, fun j hj => by omega⟩) (.cons rfl (by first | exact fun _ _ h => h | exact d_int (by omega) | exact d_int (by simp) | exact d_intN (by omega) | exact d_any) .nil) ?_
  rintro k ⟨hk, hbk⟩ ih1
  refine run_seq ?_
  refine run_seq ?_
  refine run_region ?_
  refine run_op (loc_move rfl) rfl ?_
  refine run_op (loc_fieldAddr rfl) rfl ?_
  refine run_op (loc_load1 rfl) rfl ?_
  first | refine runL_fact (s := 8) rfl (fun _ _ h => dSl_len h) (fun hlen2 => ?_) | skip
  refine run_op (loc_len rfl) rfl ?_
  refine run_op (loc_lss rfl rfl) rfl ?_
  refine run_nil ?_
  refine run_cond rfl (fun h3 => ?_) (fun h3 => ?_)
  ·
   refine run_skip ?_
   refine run_seq ?_
   refine run_block ?_
   refine run_seq ?_
   refine run_region ?_
   refine run_op (loc_fieldAddr rfl) rfl ?_
   refine run_op (loc_load1 rfl) rfl ?_
   refine run_op (loc_move rfl) rfl ?_
   first | refine run_op (loc_index rfl rfl (by first | omega | assumption)) rfl ?_ | refine run_op (loc_indexI rfl rfl (by first | omega | assumption)) rfl ?_
   refine run_op (loc_fieldAddr rfl) rfl ?_
   refine run_op (loc_fieldAddr rfl) rfl ?_
   refine run_op (loc_load1 rfl) rfl ?_
   refine run_op (loc_move rfl) rfl ?_
   refine run_op (loc_eql rfl rfl) rfl ?_
   refine run_nil ?_
   refine run_cond rfl (fun h4 => ?_) (fun h4 => ?_)
   ·
    refine run_seq ?_
    refine run_region ?_
    refine run_op (loc_move rfl) rfl ?_
    refine run_op (loc_assign rfl) rfl ?_
    refine run_nil ?_
    refine run_retP Tryz.func64 rfl rfl ?_
    exact d_int (findR_at hs (by omega) (by assumption)).symm
   ·
    refine run_skip ?_
    refine run_inBlock ?_
    refine run_region ?_
    refine run_op (loc_move rfl) rfl ?_
    first | refine run_op (loc_add rfl rfl (by first | omega | assumption)) rfl ?_ | refine run_op (loc_addW rfl rfl) rfl ?_
    refine run_op (loc_assign rfl) rfl ?_
    refine run_nil ?_
    exact run_againC ih1 (k + 1) (⟨by omega, fun j hj => by by_cases e : j = k; (· subst e; assumption); (· exact hbk j (by omega))⟩) (by omega) (.cons rfl (by first | exact fun _ _ h => h | exact d_int (by omega) | exact d_int (by simp) | exact d_intN (by omega) | exact d_any) .nil) (.cons rfl (fun _ _ x => x) (.cons rfl (fun _ _ x => x) (.nil)))
  ·
   refine run_exit rfl ?_
   refine run_seq ?_
   refine run_region ?_
   refine run_op (loc_assign rfl) rfl ?_
   refine run_nil ?_
   refine run_retP Tryz.func64 rfl rfl ?_
   exact d_int (findR_none (fun j hj => hbk j (by omega))).symm
theorem rload_spec (v : Srv) (t : Tab) (hv : okI v) : SpecP Tryz.prog 22 [dSrv v, dTab t] (dTup [dSrv (loadV v t), dInt .i64 (loadE v t)]) := by
  refine specP_of_body Tryz.func22 rfl rfl (fun I M => ?_)
  refine run_seq ?_
  refine run_region ?_
  refine run_new (loc_boxOwnN rfl) rfl (fun b1 _ => ?_)
  refine run_op (loc_boxN rfl) rfl ?_
  refine run_new (loc_allocOwn (by simp)) rfl (fun b2 _ => ?_)
  refine run_op (loc_assign rfl) rfl ?_
  refine run_nil ?_
  refine run_seq ?_
  refine run_seq ?_
  refine run_region ?_
  refine run_op (loc_fieldAddrOwn rfl) rfl ?_
  refine run_op (loc_loadOwn1 rfl (.there (.here)) (by rfl)) rfl ?_
  refine run_op (loc_not rfl) rfl ?_
  refine run_nil ?_
  refine run_cond rfl (fun h3 => ?_) (fun h3 => ?_)
  ·
   have c1 := h3
   refine run_seq ?_
   refine run_region ?_
   refine run_op (loc_loadOwnN rfl (.there (.here)) (by rfl)) rfl ?_
   refine run_storeN (ho := (by show OneAll [_, _, _, _, _, _, _, _]; infer_instance)) rfl rfl (.here) (by rfl) ?_
   refine run_op (loc_assign rfl) rfl ?_
   refine run_nil ?_
   have hE : loadE v t = 43 := by unfold loadE; rw [if_pos c1]
   refine run_retGP Tryz.func22 rfl (.cellN rfl (.here) (by rfl) (.tmp rfl (.nil))) ?_ (fun _ _ h => inv_tail (inv_tail (h)))
   exact d_tup2 (d_toSrv (by unfold loadV; rw [if_neg (by rw [hE]; first | omega | assumption)]) (fun _ _ h => h)) (d_int hE.symm)
  ·
   have c1 := Classical.not_not.1 h3
   refine run_skip ?_
   refine run_seq ?_
   refine run_region ?_
   refine run_op (loc_loadN rfl rfl) rfl ?_
   refine run_op (loc_call (rhead_spec _) rfl) rfl ?_
   refine run_op (loc_move rfl) rfl ?_
   refine run_op (loc_extract rfl rfl) rfl ?_
   refine run_op (loc_extract rfl rfl) rfl ?_
   refine run_new (loc_allocOwn (by simp)) rfl (fun b4 _ => ?_)
   refine run_storeN (ho := (by show OneAll [_, _, _, _, _]; infer_instance)) rfl rfl (.here) (by rfl) ?_
   refine run_op (loc_assign rfl) rfl ?_
   refine run_nil ?_
   refine run_seq ?_
   refine run_seq ?_
   refine run_region ?_
   refine run_op (loc_move rfl) rfl ?_
   refine run_op (loc_neq rfl rfl) rfl ?_
   refine run_nil ?_
   refine run_cond rfl (fun h5 => ?_) (fun h5 => ?_)
   ·
    have c2 := h5
    refine run_seq ?_
    refine run_region ?_
    refine run_op (loc_loadOwnN rfl (.there (.there (.here))) (by rfl)) rfl ?_
    refine run_op (loc_move rfl) rfl ?_
    refine run_storeN (ho := (by show OneAll [_, _, _, _, _, _, _, _]; infer_instance)) rfl rfl (.there (.here)) (by rfl) ?_
    refine run_op (loc_assign rfl) rfl ?_
    refine run_nil ?_
    have hE : loadE v t = checkT t := by unfold loadE; rw [if_neg (Classical.not_not.2 c1), if_pos c2]
    refine run_retGP Tryz.func22 rfl (.cellN rfl (.there (.here)) (by rfl) (.tmp rfl (.nil))) ?_ (fun _ _ h => inv_tail (inv_tail (inv_tail (h))))
    exact d_tup2 (d_toSrv (by unfold loadV; rw [if_neg (by rw [hE]; first | omega | assumption)]) (fun _ _ h => h)) (d_int hE.symm)
   ·
    have c2 := Classical.not_not.1 h5
    refine run_skip ?_
    refine run_seq ?_
    refine run_seq ?_
    refine run_region ?_
    refine run_op (loc_fieldAddrOwn rfl) rfl ?_
    refine run_op (loc_loadOwnN rfl (.there (.there (.here))) (by rfl)) rfl ?_
    refine run_op (loc_fieldAddr rfl) rfl ?_
    refine run_op (loc_loadN rfl rfl) rfl ?_
    refine run_op (loc_call (rvalid_spec _ _) rfl) rfl ?_
    refine run_op (loc_not rfl) rfl ?_
    refine run_nil ?_
    refine run_cond rfl (fun h6 => ?_) (fun h6 => ?_)
    ·
     have c3 := h6
     refine run_seq ?_
     refine run_region ?_
     refine run_op (loc_loadOwnN rfl (.there (.there (.here))) (by rfl)) rfl ?_
     refine run_storeN (ho := (by show OneAll [_, _, _, _, _, _, _, _]; infer_instance)) rfl rfl (.there (.here)) (by rfl) ?_
     refine run_op (loc_assign rfl) rfl ?_
     refine run_nil ?_
     have hE : loadE v t = 40 := by unfold loadE; rw [if_neg (Classical.not_not.2 c1), if_neg (Classical.not_not.2 c2), if_pos c3]
     refine run_retGP Tryz.func22 rfl (.cellN rfl (.there (.here)) (by rfl) (.tmp rfl (.nil))) ?_ (fun _ _ h => inv_tail (inv_tail (inv_tail (h))))
     exact d_tup2 (d_toSrv (by unfold loadV; rw [if_neg (by rw [hE]; first | omega | assumption)]) (fun _ _ h => h)) (d_int hE.symm)
    ·
     have c3 := Classical.not_not.1 h6
     refine run_skip ?_
     refine run_seq ?_
     refine run_seq ?_
     refine run_region ?_
     refine run_op (loc_fieldAddr rfl) rfl ?_
     refine run_op (loc_load1 rfl) rfl ?_
     first | refine runL_fact (s := 33) rfl (fun _ _ h => dSl_len h) (fun hlen7 => ?_) | skip
     refine run_op (loc_len rfl) rfl ?_
     refine run_op (loc_eql rfl rfl) rfl ?_
     refine run_nil ?_
     refine run_cond rfl (fun h8 => ?_) (fun h8 => ?_)
     ·
      have c4 := h8
      refine run_seq ?_
      refine run_region ?_
      refine run_op (loc_loadOwnN rfl (.there (.there (.here))) (by rfl)) rfl ?_
      refine run_storeN (ho := (by show OneAll [_, _, _, _, _, _, _, _]; infer_instance)) rfl rfl (.there (.here)) (by rfl) ?_
      refine run_op (loc_assign rfl) rfl ?_
      refine run_nil ?_
      have hE : loadE v t = 2 := by unfold loadE; rw [if_neg (Classical.not_not.2 c1), if_neg (Classical.not_not.2 c2), if_neg (Classical.not_not.2 c3), if_pos (by omega)]
      refine run_retGP Tryz.func22 rfl (.cellN rfl (.there (.here)) (by rfl) (.tmp rfl (.nil))) ?_ (fun _ _ h => inv_tail (inv_tail (inv_tail (h))))
      exact d_tup2 (d_toSrv (by unfold loadV; rw [if_neg (by rw [hE]; first | omega | assumption)]) (fun _ _ h => h)) (d_int hE.symm)
     ·
      have c4 := h8
      refine run_skip ?_
      refine run_seq ?_
      refine run_seq ?_
      refine run_region ?_
      refine run_op (loc_loadOwnN rfl (.there (.there (.here))) (by rfl)) rfl ?_
      refine run_op (loc_fieldAddr rfl) rfl ?_
      refine run_op (loc_load1 rfl) rfl ?_
      refine run_op (loc_call (rfind30_spec v t.number (okI_asc hv)) rfl) rfl ?_
      refine run_op (loc_geq rfl rfl) rfl ?_
      refine run_nil ?_
      refine run_cond rfl (fun h9 => ?_) (fun h9 => ?_)
      ·
       have c5 : thereV v t.number := Classical.not_not.1 fun hn => by have h5 := findR_neg.2 hn; omega
       refine run_seq ?_
       refine run_region ?_
       refine run_op (loc_loadOwnN rfl (.there (.there (.here))) (by rfl)) rfl ?_
       refine run_storeN (ho := (by show OneAll [_, _, _, _, _, _, _, _]; infer_instance)) rfl rfl (.there (.here)) (by rfl) ?_
       refine run_op (loc_assign rfl) rfl ?_
       refine run_nil ?_
       have hE : loadE v t = 7 := by unfold loadE; rw [if_neg (Classical.not_not.2 c1), if_neg (Classical.not_not.2 c2), if_neg (Classical.not_not.2 c3), if_neg (by omega), if_pos c5]
       refine run_retGP Tryz.func22 rfl (.cellN rfl (.there (.here)) (by rfl) (.tmp rfl (.nil))) ?_ (fun _ _ h => inv_tail (inv_tail (inv_tail (h))))
       exact d_tup2 (d_toSrv (by unfold loadV; rw [if_neg (by rw [hE]; first | omega | assumption)]) (fun _ _ h => h)) (d_int hE.symm)
      ·
       have c5 : ¬ thereV v t.number := findR_neg.1 (by omega)
       refine run_skip ?_
       refine run_seq ?_
       refine run_seq ?_
       refine run_region ?_
       refine run_op (loc_fieldAddrOwn rfl) rfl ?_
       refine run_op (loc_loadOwn1 rfl (.there (.there (.here))) (by rfl)) rfl ?_
       first | refine runL_fact (s := 44) rfl (fun _ _ h => dSl_len h) (fun hlen10 => ?_) | skip
       refine run_op (loc_len rfl) rfl ?_
       refine run_op (loc_geq rfl rfl) rfl ?_
       refine run_nil ?_
       refine run_cond rfl (fun h11 => ?_) (fun h11 => ?_)
       ·
        have c6 := h11
        refine run_seq ?_
        refine run_region ?_
        refine run_op (loc_loadOwnN rfl (.there (.there (.here))) (by rfl)) rfl ?_
        refine run_storeN (ho := (by show OneAll [_, _, _, _, _, _, _, _]; infer_instance)) rfl rfl (.there (.here)) (by rfl) ?_
        refine run_op (loc_assign rfl) rfl ?_
        refine run_nil ?_
        have hE : loadE v t = 4 := by unfold loadE; rw [if_neg (Classical.not_not.2 c1), if_neg (Classical.not_not.2 c2), if_neg (Classical.not_not.2 c3), if_neg (by omega), if_neg c5, if_pos (by omega)]
        refine run_retGP Tryz.func22 rfl (.cellN rfl (.there (.here)) (by rfl) (.tmp rfl (.nil))) ?_ (fun _ _ h => inv_tail (inv_tail (inv_tail (h))))
        exact d_tup2 (d_toSrv (by unfold loadV; rw [if_neg (by rw [hE]; first | omega | assumption)]) (fun _ _ h => h)) (d_int hE.symm)
       ·
        have c6 := h11
        refine run_skip ?_
        refine run_seq ?_
        refine run_region ?_
        refine run_op (loc_fieldAddrOwn rfl) rfl ?_
        refine run_op (loc_loadOwnN rfl (.there (.there (.here))) (by rfl)) rfl ?_
        refine run_op (loc_loadN rfl rfl) rfl ?_
        refine run_op (loc_fieldAddrOwn rfl) rfl ?_
        refine run_op (loc_loadOwn1 rfl (.there (.there (.here))) (by rfl)) rfl ?_
        refine run_op (loc_call (rhold23_spec v.scheme t v.id c2 c3 (by omega) hv.2.2) rfl) rfl ?_
        refine run_op (loc_move rfl) rfl ?_
        refine run_op (loc_extract rfl rfl) rfl ?_
        refine run_op (loc_extract rfl rfl) rfl ?_
        refine run_op (loc_assign rfl) rfl ?_
        refine run_op (loc_assign rfl) rfl ?_
        refine run_nil ?_
        refine run_seq ?_
        refine run_region ?_
        refine run_op (loc_assign rfl) rfl ?_
        refine run_nil ?_
        refine run_seq ?_
        refine run_block ?_
        refine run_loopC (σ := Nat) (ks := [2, 3, 4, 6, 8]) (.cons rfl (.cons rfl (.cons rfl (.cons rfl (.cons rfl (.nil)))))) (fun k => [(10, dInt .i64 (k : Nat))]) (fun k => k ≤ v.versions.length ∧ ∀ a, a < k → (v.versions[a]?.getD default).head.number < t.number) (fun k => v.versions.length - k) (0) (⟨Nat.zero_le _, fun a ha => by omega⟩) (.cons rfl (by first | exact fun _ _ h => h | exact d_int (by omega) | exact d_int (by simp) | exact d_intN (by omega) | exact d_any) .nil) ?_
        rintro k ⟨hk, hb⟩ ih12
        refine run_seq ?_
        refine run_seq ?_
        refine dr_start _ (.none) [⟨[(10, none)], [], none⟩,
            ⟨[(2, none)], [], none⟩,
            ⟨[(58, some (1, false))], [1], some (2, 0, false)⟩,
            ⟨[(59, some (2, false))], [1, 2], none⟩,
            ⟨[(57, some (0, false)), (60, some (3, false))], [0, 1, 2, 3], none⟩,
            ⟨[(61, some (4, false))], [0, 1, 2, 3, 4], none⟩,
            ⟨[(2, none)], [0, 1, 2, 3, 4, 5], none⟩,
            ⟨[(63, some (6, true))], [0, 1, 2, 3, 4, 5, 6], some (2, 0, false)⟩,
            ⟨[(10, none)], [0, 1, 2, 3, 4, 5], none⟩,
            ⟨[(64, some (7, true)), (65, some (8, true))], [0, 1, 2, 3, 4, 5, 6, 7, 8], none⟩,
            ⟨[(66, some (9, true))], [0, 1, 2, 3, 4, 5, 6, 7, 8, 9], none⟩,
            ⟨[(67, some (10, true))], [0, 1, 2, 3, 4, 5, 6, 7, 8, 9, 10], none⟩,
            ⟨[(68, some (11, true))], [0, 1, 2, 3, 4, 5, 6, 7, 8, 9, 10, 11], none⟩,
            ⟨[(3, none)], [0, 1, 2, 3, 4, 5], none⟩,
            ⟨[(70, some (13, true))], [0, 1, 2, 3, 4, 5, 13], none⟩,
            ⟨[(69, some (12, true)), (71, some (14, true))], [0, 1, 2, 3, 4, 5, 6, 7, 8, 9, 10, 11, 12, 13, 14], none⟩,
            ⟨[(62, some (5, false)), (72, some (15, false))], [0, 1, 2, 3, 4, 5, 6, 7, 8, 9, 10, 11, 12, 13, 14, 15], none⟩] [_, _, _] _ rfl rfl ?_
        refine dq_pure rfl (fun s => .g rfl (.nil)) (fun s hs _ => loc_move rfl) (by exact .nil) ?_
        refine dq_pure rfl (fun s => .g rfl (.nil)) (fun s hs _ => loc_fieldAddrOwn rfl) (by exact .nil) ?_
        refine dq_read rfl (fun s => .op rfl (.nil)) rfl rfl (fun s hs _ hm => loc_loadOwn1 rfl hm (by rfl)) (by exact .nil) ?_
        refine dq_pure rfl (fun s => .op rfl (.nil)) (fun s hs _ => loc_len rfl) (by exact .nil) ?_
        refine dq_pure rfl (fun s => .op rfl (.op rfl (.nil))) (fun s hs _ => loc_lss rfl rfl) (by exact .nil) ?_
        refine dq_pure rfl (fun s => .op rfl (.nil)) (fun s hs _ => loc_move rfl) (by exact .nil) ?_
        refine dq_gpure rfl (fun s => .g rfl (.nil)) rfl (fun _ => gdI.ok) (fun s hs hg _ => loc_fieldAddrOwn rfl) (by exact .nil) ?_
        refine dq_gread rfl (fun s => .opU rfl (.nil)) rfl rfl rfl (fun _ => gdI.ok) (fun s hs hg _ hm => loc_loadOwn1 rfl hm (by rfl)) (by exact .nil) ?_
        refine dq_gpure rfl (fun s => .g rfl (.nil)) rfl (fun _ => gdI.ok) (fun s hs hg _ => loc_move rfl) (by exact .nil) ?_
        first | refine dq_gpure rfl (fun s => .opU rfl (.opU rfl (.nil))) rfl (fun _ => gdI.ok) (fun s hs hg _ => loc_index rfl rfl (by first | omega | assumption)) (by exact .nil) ?_ | refine dq_gpure rfl (fun s => .opU rfl (.opU rfl (.nil))) rfl (fun _ => gdI.ok) (fun s hs hg _ => loc_indexI rfl rfl (by first | omega | assumption)) (by exact .nil) ?_
        refine dq_gpure rfl (fun s => .opU rfl (.nil)) rfl (fun _ => gdI.ok) (fun s hs hg _ => loc_fieldAddr rfl) (by exact .nil) ?_
        refine dq_gpure rfl (fun s => .opU rfl (.nil)) rfl (fun _ => gdI.ok) (fun s hs hg _ => loc_fieldAddr rfl) (by exact .nil) ?_
        refine dq_gpure rfl (fun s => .opU rfl (.nil)) rfl (fun _ => gdI.ok) (fun s hs hg _ => loc_load1 rfl) (by exact .nil) ?_
        refine dq_gpure rfl (fun s => .g rfl (.nil)) rfl (fun _ => gdI.ok) (fun s hs hg _ => loc_fieldAddr rfl) (by exact .nil) ?_
        refine dq_gpure rfl (fun s => .opU rfl (.nil)) rfl (fun _ => gdI.ok) (fun s hs hg _ => loc_load1 rfl) (by exact .nil) ?_
        refine dq_gpure rfl (fun s => .opU rfl (.opU rfl (.nil))) rfl (fun _ => gdI.ok) (fun s hs hg _ => loc_lss rfl rfl) (by exact .nil) ?_
        refine dq_pure rfl (fun s => .op rfl (.op rfl (.nil))) (fun s hs _ => loc_and rfl rfl) (by exact .nil) ?_
        refine dq_end (rs := [_, _, _]) () rfl (fun _ => rfl) (.nil) rfl (fun _ => rfl) (fun _ _ => ?_)
        dsimp only [outG, outM, List.map, List.set, id]
        refine run_cond rfl (fun h13 => ?_) (fun h13 => ?_)
        ·
         refine run_skip ?_
         refine run_block ?_
         refine run_region ?_
         refine run_op (loc_move rfl) rfl ?_
         first | refine run_op (loc_add rfl rfl (by first | omega | assumption)) rfl ?_ | refine run_op (loc_addW rfl rfl) rfl ?_
         refine run_op (loc_assign rfl) rfl ?_
         refine run_nil ?_
         refine run_inBlock ?_
         exact run_againC ih12 (k + 1) (⟨by omega, fun a ha => by by_cases e : a = k; (· subst e; omega); (· exact hb a (by omega))⟩) (by omega) (.cons rfl (by first | exact fun _ _ h => h | exact d_int (by omega) | exact d_int (by simp) | exact d_intN (by omega) | exact d_any) .nil) (.cons rfl (fun _ _ x => x) (.cons rfl (fun _ _ x => x) (.cons rfl (fun _ _ x => x) (.cons rfl (fun _ _ x => x) (.cons rfl (fun _ _ x => x) (.nil))))))
        ·
         refine run_exit rfl ?_
         refine run_seq ?_
         have hat : atV v t.number = k := atV_stop (okI_asc hv) hk hb (fun h => by omega)
         refine run_region ?_
         refine run_op (loc_assign rfl) rfl ?_
         refine run_nil ?_
         refine run_seq ?_
         refine run_addNone ?_
         refine dr_start _ (.two (τ1 := Value) (τ2 := Value) 5 10 (fun _ => True) (fun _ => True)) [⟨[(11, none)], [], none⟩,
             ⟨[(2, none)], [], none⟩,
             ⟨[(77, some (1, false))], [1], some (3, 0, false)⟩,
             ⟨[(10, none)], [], none⟩,
             ⟨[(78, some (2, false)), (79, some (3, false))], [1, 2, 3], none⟩,
             ⟨[(76, some (0, false)), (80, some (4, false))], [0, 1, 2, 3, 4], some (0, 0, true)⟩,
             ⟨[(6, none)], [], some (1, 0, false)⟩,
             ⟨[(8, none)], [], none⟩,
             ⟨[(82, some (6, false)), (83, some (7, false))], [6, 7], none⟩,
             ⟨[(84, some (8, false))], [6, 7, 8], none⟩,
             ⟨[(81, some (5, false)), (85, some (9, false))], [0, 1, 2, 3, 4, 5, 6, 7, 8, 9], some (0, 1, true)⟩,
             ⟨[(86, some (10, false))], [0, 1, 2, 3, 4, 5, 6, 7, 8, 9, 10], none⟩] [_, _, _, _] _ rfl rfl ?_
         refine dq_pure rfl (fun s => .g rfl (.nil)) (fun s hs _ => loc_move rfl) (by exact .cons (.inr fun _ _ _ => rfl) (.cons (.inr fun _ _ _ => rfl) (.nil))) ?_
         refine dq_pure rfl (fun s => .g rfl (.nil)) (fun s hs _ => loc_fieldAddrOwn rfl) (by exact .cons (.inr fun _ _ _ => rfl) (.cons (.inr fun _ _ _ => rfl) (.nil))) ?_
         refine dq_read rfl (fun s => .op rfl (.nil)) rfl rfl (fun s hs _ hm => loc_loadOwn1 rfl hm (by rfl)) (by exact .cons (.inr fun _ _ _ => rfl) (.cons (.inr fun _ _ _ => rfl) (.nil))) ?_
         refine dq_pure rfl (fun s => .g rfl (.nil)) (fun s hs _ => loc_move rfl) (by exact .cons (.inr fun _ _ _ => rfl) (.cons (.inr fun _ _ _ => rfl) (.nil))) ?_
         refine dq_pure rfl (fun s => .op rfl (.op rfl (.nil))) (fun s hs _ => loc_sliceTo rfl rfl (by first | omega | assumption)) (by exact .cons (.inr fun _ _ _ => rfl) (.cons (.inr fun _ _ _ => rfl) (.nil))) ?_
         refine dq_choose Prod.fst (fun s t => (t, s.2)) rfl (fun _ _ => ⟨rfl, id, rfl⟩) (fun s => .op rfl (.op rfl (.nil))) rfl rfl (fun s hs => locM_new (loc_appendNil rfl rfl rfl (by first | omega | (simp [lenMax]; omega) | (simp [lenMax]; done) | assumption) (by first | omega | (simp [lenMax]; omega) | (simp [lenMax]; done) | assumption))) (by exact .cons (.inl rfl) (.cons (.inr (.inr fun ⟨a, b⟩ ⟨c, d⟩ h => by have h : c = a := h; subst h; exact rfl)) (.nil))) (fun _ _ => rfl) ?_
         refine dq_read rfl (fun s => .g rfl (.nil)) rfl rfl (fun s hs _ hm => loc_loadOwnN rfl hm (by rfl)) (by exact .cons (.inr fun _ _ _ => rfl) (.cons (.inr fun _ _ _ => rfl) (.nil))) ?_
         refine dq_pure rfl (fun s => .g rfl (.nil)) (fun s hs _ => loc_move rfl) (by exact .cons (.inr fun _ _ _ => rfl) (.cons (.inr fun _ _ _ => rfl) (.nil))) ?_
         refine dq_pure rfl (fun s => .op rfl (.op rfl (.nil))) (fun s hs _ => loc_build (.agg rfl rfl rfl rfl (.one rfl rfl rfl (.nil)))) (by exact .cons (.inr fun _ _ _ => rfl) (.cons (.inr fun _ _ _ => rfl) (.nil))) ?_
         refine dq_pure rfl (fun s => .op rfl (.nil)) (fun s hs _ => loc_buildSlice rfl rfl (.agg rfl (.nil)) rfl rfl) (by exact .cons (.inr fun _ _ _ => rfl) (.cons (.inr fun _ _ _ => rfl) (.nil))) ?_
         refine dq_choose Prod.snd (fun s t => (s.1, t)) rfl (fun _ _ => ⟨rfl, id, rfl⟩) (fun s => .op rfl (.op rfl (.nil))) rfl rfl (fun s hs => loc_append1 (⟨headT t, hldL v.scheme t v.id⟩ : Held) rfl rfl rfl rfl (by first | omega | (simp [lenMax]; omega) | (simp [lenMax]; done) | assumption) (by first | omega | (simp [lenMax]; omega) | (simp [lenMax]; done) | assumption)) (by exact .cons (.inr (.inl rfl)) (.cons (.inl rfl) (.nil))) (fun _ _ => rfl) ?_
         refine dq_pure rfl (fun s => .op rfl (.nil)) (fun s hs _ => loc_assign rfl) (by exact .cons (.inl rfl) (.cons (.inl rfl) (.nil))) ?_
         refine dq_end (rs := [_, _, _, _]) ((.bool true), (.bool true)) rfl (fun _ => rfl) (.cons rfl (.cons rfl (.nil))) rfl (fun _ => rfl) (fun s9 _ => ?_)
         obtain ⟨v81, v86⟩ := s9
         dsimp only [outG, outM, List.map, List.set, id]
         refine run_seq ?_
         refine run_region ?_
         refine run_op (loc_move rfl) rfl ?_
         refine run_op (loc_fieldAddrOwn rfl) rfl ?_
         refine run_op (loc_loadOwn1 rfl (.there (.there (.there (.here)))) (by rfl)) rfl ?_
         refine run_op (loc_move rfl) rfl ?_
         refine run_op (loc_sliceFrom rfl rfl (by first | omega | assumption)) rfl ?_
         refine run_upd (LocM.frz (loc_append rfl rfl rfl (by first | omega | (simp [lenMax]; omega) | (simp [lenMax]; done) | assumption) (by first | omega | (simp [lenMax]; omega) | (simp [lenMax]; done) | assumption)) rfl) rfl (.here) (fun v15 hv15 => ?_)
         refine run_op (loc_fieldAddrOwn rfl) rfl ?_
         refine run_store1 rfl rfl (.there (.there (.there (.here)))) (by rfl) ?_
         refine run_nil ?_
         refine run_seq ?_
         refine run_region ?_
         refine run_op (loc_loadOwnN rfl (.there (.there (.there (.here)))) (by rfl)) rfl ?_
         refine run_storeN (ho := (by show OneAll [_, _, _, _, _, _, _, _]; infer_instance)) rfl rfl (.there (.there (.here))) (by rfl) ?_
         refine run_op (loc_assign rfl) rfl ?_
         refine run_nil ?_
         have hE : loadE v t = 0 := by unfold loadE; rw [if_neg (Classical.not_not.2 c1), if_neg (Classical.not_not.2 c2), if_neg (Classical.not_not.2 c3), if_neg (by omega), if_neg c5, if_neg (by omega)]; exact okI_hld hv c2 c3 (by omega)
         refine run_retGP Tryz.func22 rfl (.cellN rfl (.there (.there (.here))) (by rfl) (.tmp rfl (.nil))) ?_ (fun _ _ h => inv_tail (inv_tail (inv_tail (inv_tail (h)))))
         exact d_tup2 (d_toSrv (t' := { v with versions := v.versions.take k ++ [⟨headT t, hldL v.scheme t v.id⟩] ++ v.versions.drop k }) (by unfold loadV; rw [if_pos hE, hat]) (fun _ _ h => h)) (d_int hE.symm)
theorem rdrop_spec (v : Srv) (n : Int) (hv : okI v) : SpecP Tryz.prog 23 [dSrv v, dInt .i64 n] (dTup [dSrv (dropV v n), dInt .i64 (dropE v n)]) := by
  refine specP_of_body Tryz.func23 rfl rfl (fun I M => ?_)
  refine run_seq ?_
  refine run_region ?_
  refine run_new (loc_boxOwnN rfl) rfl (fun b1 _ => ?_)
  refine run_new (loc_allocOwn (by simp)) rfl (fun b2 _ => ?_)
  refine run_op (loc_assign rfl) rfl ?_
  refine run_nil ?_
  refine run_seq ?_
  refine run_seq ?_
  refine run_region ?_
  refine run_op (loc_fieldAddrOwn rfl) rfl ?_
  refine run_op (loc_loadOwn1 rfl (.there (.here)) (by rfl)) rfl ?_
  refine run_op (loc_not rfl) rfl ?_
  refine run_nil ?_
  refine run_cond rfl (fun h3 => ?_) (fun h3 => ?_)
  ·
   have c1 := h3
   refine run_seq ?_
   refine run_region ?_
   refine run_op (loc_loadOwnN rfl (.there (.here)) (by rfl)) rfl ?_
   refine run_storeN (ho := (by show OneAll [_, _, _, _, _, _, _, _]; infer_instance)) rfl rfl (.here) (by rfl) ?_
   refine run_op (loc_assign rfl) rfl ?_
   refine run_nil ?_
   have hE : dropE v n = 43 := by unfold dropE; rw [if_pos c1]
   refine run_retGP Tryz.func23 rfl (.cellN rfl (.here) (by rfl) (.tmp rfl (.nil))) ?_ (fun _ _ h => inv_tail (inv_tail (h)))
   exact d_tup2 (d_toSrv (by unfold dropV; rw [if_neg (by rw [hE]; first | omega | assumption)]) (fun _ _ h => h)) (d_int hE.symm)
  ·
   have c1 := Classical.not_not.1 h3
   refine run_skip ?_
   refine run_seq ?_
   refine run_region ?_
   refine run_op (loc_loadOwnN rfl (.there (.here)) (by rfl)) rfl ?_
   refine run_op (loc_move rfl) rfl ?_
   refine run_op (loc_call (rfind30_spec v n (okI_asc hv)) rfl) rfl ?_
   refine run_op (loc_assign rfl) rfl ?_
   refine run_nil ?_
   refine run_seq ?_
   refine run_seq ?_
   refine run_region ?_
   refine run_op (loc_move rfl) rfl ?_
   refine run_op (loc_lss rfl rfl) rfl ?_
   refine run_nil ?_
   refine run_cond rfl (fun h4 => ?_) (fun h4 => ?_)
   ·
    have c2 : ¬ thereV v n := findR_neg.1 (by omega)
    refine run_seq ?_
    refine run_region ?_
    refine run_op (loc_loadOwnN rfl (.there (.here)) (by rfl)) rfl ?_
    refine run_storeN (ho := (by show OneAll [_, _, _, _, _, _, _, _]; infer_instance)) rfl rfl (.here) (by rfl) ?_
    refine run_op (loc_assign rfl) rfl ?_
    refine run_nil ?_
    have hE : dropE v n = 6 := by unfold dropE; rw [if_neg (Classical.not_not.2 c1), if_pos c2]
    refine run_retGP Tryz.func23 rfl (.cellN rfl (.here) (by rfl) (.tmp rfl (.nil))) ?_ (fun _ _ h => inv_tail (inv_tail (h)))
    exact d_tup2 (d_toSrv (by unfold dropV; rw [if_neg (by rw [hE]; first | omega | assumption)]) (fun _ _ h => h)) (d_int hE.symm)
   ·
    have c2 : thereV v n := Classical.not_not.1 fun hn => by have h5 := findR_neg.2 hn; omega
    have hat := c2.1
    have hfr := findR_pos c2
    have hln := hv.1.1
    refine run_skip ?_
    refine run_seq ?_
    refine run_seq ?_
    refine run_region ?_
    refine run_op (loc_assign rfl) rfl ?_
    refine run_nil ?_
    refine run_block ?_
    refine run_loopC (σ := Nat) (ks := [1, 2, 4, 6]) (.cons rfl (.cons rfl (.cons rfl (.cons rfl (.nil))))) (fun k => [(7, dInt .i64 (k : Nat))]) (fun k => k ≤ v.jobs.length ∧ (∀ j, j < k → (v.jobs[j]?.getD default).version ≠ n)) (fun k => v.jobs.length - k) (0) (⟨by omega, fun j hj => by omega⟩) (.cons rfl (by first | exact fun _ _ h => h | exact d_int (by omega) | exact d_int (by simp) | exact d_intN (by omega) | exact d_any) .nil) ?_
    rintro k ⟨hk, hbk⟩ ih5
    refine run_seq ?_
    refine run_seq ?_
    refine run_region ?_
    refine run_op (loc_move rfl) rfl ?_
    refine run_op (loc_fieldAddrOwn rfl) rfl ?_
    refine run_op (loc_loadOwn1 rfl (.there (.here)) (by rfl)) rfl ?_
    first | refine runL_fact (s := 21) rfl (fun _ _ h => dSl_len h) (fun hlen6 => ?_) | skip
    refine run_op (loc_len rfl) rfl ?_
    refine run_op (loc_lss rfl rfl) rfl ?_
    refine run_nil ?_
    refine run_cond rfl (fun h7 => ?_) (fun h7 => ?_)
    ·
     refine run_skip ?_
     refine run_seq ?_
     refine run_block ?_
     refine run_seq ?_
     refine run_region ?_
     refine run_op (loc_fieldAddrOwn rfl) rfl ?_
     refine run_op (loc_loadOwn1 rfl (.there (.here)) (by rfl)) rfl ?_
     refine run_op (loc_move rfl) rfl ?_
     first | refine run_op (loc_index rfl rfl (by first | omega | assumption)) rfl ?_ | refine run_op (loc_indexI rfl rfl (by first | omega | assumption)) rfl ?_
     refine run_op (loc_fieldAddr rfl) rfl ?_
     refine run_op (loc_load1 rfl) rfl ?_
     refine run_op (loc_move rfl) rfl ?_
     refine run_op (loc_eql rfl rfl) rfl ?_
     refine run_nil ?_
     refine run_cond rfl (fun h8 => ?_) (fun h8 => ?_)
     ·
      have c3 : ∃ j ∈ v.jobs, j.version = n := ⟨_, getD_mem (k := k) (by omega), by assumption⟩
      refine run_seq ?_
      refine run_region ?_
      refine run_op (loc_loadOwnN rfl (.there (.here)) (by rfl)) rfl ?_
      refine run_storeN (ho := (by show OneAll [_, _, _, _, _, _, _, _]; infer_instance)) rfl rfl (.here) (by rfl) ?_
      refine run_op (loc_assign rfl) rfl ?_
      refine run_nil ?_
      have hE : dropE v n = 45 := by unfold dropE; rw [if_neg (Classical.not_not.2 c1), if_neg (Classical.not_not.2 c2), if_pos c3]
      refine run_retGP Tryz.func23 rfl (.cellN rfl (.here) (by rfl) (.tmp rfl (.nil))) ?_ (fun _ _ h => inv_tail (inv_tail (h)))
      exact d_tup2 (d_toSrv (by unfold dropV; rw [if_neg (by rw [hE]; first | omega | assumption)]) (fun _ _ h => h)) (d_int hE.symm)
     ·
      refine run_skip ?_
      refine run_inBlock ?_
      refine run_region ?_
      refine run_op (loc_move rfl) rfl ?_
      first | refine run_op (loc_add rfl rfl (by first | omega | assumption)) rfl ?_ | refine run_op (loc_addW rfl rfl) rfl ?_
      refine run_op (loc_assign rfl) rfl ?_
      refine run_nil ?_
      exact run_againC ih5 (k + 1) (⟨by omega, fun j hj => by by_cases e : j = k; (· subst e; assumption); (· exact hbk j (by omega))⟩) (by omega) (.cons rfl (by first | exact fun _ _ h => h | exact d_int (by omega) | exact d_int (by simp) | exact d_intN (by omega) | exact d_any) .nil) (.cons rfl (fun _ _ x => x) (.cons rfl (fun _ _ x => x) (.cons rfl (fun _ _ x => x) (.cons rfl (fun _ _ x => x) (.nil)))))
    ·
     refine run_exit rfl ?_
     refine run_seq ?_
     refine run_region ?_
     refine run_op (loc_assign rfl) rfl ?_
     refine run_nil ?_
     refine run_seq ?_
     refine run_addNone ?_
     refine dr_start _ (.one (σ := Value) 5 (fun _ => True)) [⟨[(8, none)], [], none⟩,
         ⟨[(2, none)], [], none⟩,
         ⟨[(36, some (1, false))], [1], some (2, 0, false)⟩,
         ⟨[(6, none)], [], none⟩,
         ⟨[(37, some (2, false)), (38, some (3, false))], [1, 2, 3], none⟩,
         ⟨[(35, some (0, false)), (39, some (4, false))], [0, 1, 2, 3, 4], some (0, 0, true)⟩,
         ⟨[(2, none)], [], none⟩,
         ⟨[(41, some (6, false))], [6], some (2, 0, false)⟩,
         ⟨[(6, none)], [], none⟩,
         ⟨[(43, some (8, false))], [8], none⟩,
         ⟨[(42, some (7, false)), (44, some (9, false))], [6, 7, 8, 9], none⟩,
         ⟨[(40, some (5, false)), (45, some (10, false))], [0, 1, 2, 3, 4, 5, 6, 7, 8, 9, 10], some (0, 1, true)⟩,
         ⟨[(46, some (11, false))], [0, 1, 2, 3, 4, 5, 6, 7, 8, 9, 10, 11], none⟩] [_, _, _] _ rfl rfl ?_
     refine dq_pure rfl (fun s => .g rfl (.nil)) (fun s hs _ => loc_move rfl) (by exact .cons (.inr fun _ _ _ => rfl) (.nil)) ?_
     refine dq_pure rfl (fun s => .g rfl (.nil)) (fun s hs _ => loc_fieldAddrOwn rfl) (by exact .cons (.inr fun _ _ _ => rfl) (.nil)) ?_
     refine dq_read rfl (fun s => .op rfl (.nil)) rfl rfl (fun s hs _ hm => loc_loadOwn1 rfl hm (by rfl)) (by exact .cons (.inr fun _ _ _ => rfl) (.nil)) ?_
     refine dq_pure rfl (fun s => .g rfl (.nil)) (fun s hs _ => loc_move rfl) (by exact .cons (.inr fun _ _ _ => rfl) (.nil)) ?_
     refine dq_pure rfl (fun s => .op rfl (.op rfl (.nil))) (fun s hs _ => loc_sliceTo rfl rfl (by first | omega | assumption)) (by exact .cons (.inr fun _ _ _ => rfl) (.nil)) ?_
     refine dq_choose id (fun _ t => t) rfl (fun _ _ => ⟨rfl, id, trivial⟩) (fun s => .op rfl (.op rfl (.nil))) rfl rfl (fun s hs => locM_new (loc_appendNil rfl rfl rfl (by first | omega | (simp [lenMax]; omega) | (simp [lenMax]; done) | assumption) (by first | omega | (simp [lenMax]; omega) | (simp [lenMax]; done) | assumption))) (by exact .cons (.inl rfl) (.nil)) (fun _ _ => rfl) ?_
     refine dq_pure rfl (fun s => .g rfl (.nil)) (fun s hs _ => loc_fieldAddrOwn rfl) (by exact .cons (.inr fun _ _ _ => rfl) (.nil)) ?_
     refine dq_read rfl (fun s => .op rfl (.nil)) rfl rfl (fun s hs _ hm => loc_loadOwn1 rfl hm (by rfl)) (by exact .cons (.inr fun _ _ _ => rfl) (.nil)) ?_
     refine dq_pure rfl (fun s => .g rfl (.nil)) (fun s hs _ => loc_move rfl) (by exact .cons (.inr fun _ _ _ => rfl) (.nil)) ?_
     first | refine dq_pure rfl (fun s => .op rfl (.nil)) (fun s hs _ => loc_add rfl rfl (by first | omega | assumption)) (by exact .cons (.inr fun _ _ _ => rfl) (.nil)) ?_ | refine dq_pure rfl (fun s => .op rfl (.nil)) (fun s hs _ => loc_addW rfl rfl) (by exact .cons (.inr fun _ _ _ => rfl) (.nil)) ?_
     refine dq_pure rfl (fun s => .op rfl (.op rfl (.nil))) (fun s hs _ => loc_sliceFrom rfl rfl (by first | omega | assumption)) (by exact .cons (.inr fun _ _ _ => rfl) (.nil)) ?_
     refine dq_write rfl (fun s => .op rfl (.op rfl (.nil))) rfl rfl (fun s hs => LocM.frz (loc_append rfl rfl rfl (by first | omega | (simp [lenMax]; omega) | (simp [lenMax]; done) | assumption) (by first | omega | (simp [lenMax]; omega) | (simp [lenMax]; done) | assumption)) rfl) (by exact .cons (.inl rfl) (.nil)) ?_
     refine dq_pure rfl (fun s => .op rfl (.nil)) (fun s hs _ => loc_assign rfl) (by exact .cons (.inl rfl) (.nil)) ?_
     refine dq_end (rs := [_, _, _]) (.bool true) rfl (fun _ => rfl) (.cons rfl (.nil)) rfl (fun _ => rfl) (fun v40 _ => ?_)
     dsimp only [outG, outM, List.map, List.set, id]
     refine run_seq ?_
     refine run_region ?_
     refine run_op (loc_move rfl) rfl ?_
     refine run_op (loc_fieldAddrOwn rfl) rfl ?_
     refine run_store1 rfl rfl (.there (.there (.here))) (by rfl) ?_
     refine run_nil ?_
     refine run_seq ?_
     refine run_region ?_
     refine run_op (loc_loadOwnN rfl (.there (.there (.here))) (by rfl)) rfl ?_
     refine run_storeN (ho := (by show OneAll [_, _, _, _, _, _, _, _]; infer_instance)) rfl rfl (.there (.here)) (by rfl) ?_
     refine run_op (loc_assign rfl) rfl ?_
     refine run_nil ?_
     have c3 : ¬ ∃ j ∈ v.jobs, j.version = n := by rintro ⟨j, hj, e⟩; obtain ⟨i, hi, rfl⟩ := List.mem_iff_getElem.1 hj; have h5 := hbk i (by omega); rw [List.getElem?_eq_getElem hi] at h5; exact h5 e
     have hE : dropE v n = 0 := by unfold dropE; rw [if_neg (Classical.not_not.2 c1), if_neg (Classical.not_not.2 c2), if_neg c3]
     refine run_retGP Tryz.func23 rfl (.cellN rfl (.there (.here)) (by rfl) (.tmp rfl (.nil))) ?_ (fun _ _ h => inv_tail (inv_tail (inv_tail (h))))
     exact d_tup2 (d_toSrv (t' := { v with versions := v.versions.take (atV v n) ++ v.versions.drop (atV v n + 1) }) (by unfold dropV; rw [if_pos hE]) (by rw [hfr, show (((atV v n : Nat) : Int) + 1).toNat = atV v n + 1 by omega]; exact fun _ _ h => h)) (d_int hE.symm)
theorem rask_spec (v : Srv) (n : Nte) (hv : okI v) (hq : n.query.length ≤ 100000) : SpecP Tryz.prog 24 [dSrv v, dNte n] (dTup [dSrv (askV v n), dInt .i64 (askE v n)]) := by
  refine specP_of_body Tryz.func24 rfl rfl (fun I M => ?_)
  refine run_seq ?_
  refine run_region ?_
  refine run_new (loc_boxOwnN rfl) rfl (fun b1 _ => ?_)
  refine run_op (loc_boxN rfl) rfl ?_
  refine run_new (loc_allocOwn (by simp)) rfl (fun b2 _ => ?_)
  refine run_op (loc_assign rfl) rfl ?_
  refine run_nil ?_
  refine run_seq ?_
  refine run_seq ?_
  refine run_region ?_
  refine run_op (loc_fieldAddrOwn rfl) rfl ?_
  refine run_op (loc_loadOwn1 rfl (.there (.here)) (by rfl)) rfl ?_
  refine run_op (loc_not rfl) rfl ?_
  refine run_nil ?_
  refine run_cond rfl (fun h3 => ?_) (fun h3 => ?_)
  ·
   have c1 := h3
   refine run_seq ?_
   refine run_region ?_
   refine run_op (loc_loadOwnN rfl (.there (.here)) (by rfl)) rfl ?_
   refine run_storeN (ho := (by show OneAll [_, _, _, _, _, _, _, _]; infer_instance)) rfl rfl (.here) (by rfl) ?_
   refine run_op (loc_assign rfl) rfl ?_
   refine run_nil ?_
   have hE : askE v n = 43 := by unfold askE; rw [if_pos c1]
   refine run_retGP Tryz.func24 rfl (.cellN rfl (.here) (by rfl) (.tmp rfl (.nil))) ?_ (fun _ _ h => inv_tail (inv_tail (h)))
   exact d_tup2 (d_toSrv (by unfold askV; rw [if_neg (by rw [hE]; first | omega | assumption)]) (fun _ _ h => h)) (d_int hE.symm)
  ·
   have c1 := Classical.not_not.1 h3
   refine run_skip ?_
   refine run_seq ?_
   refine run_seq ?_
   refine run_region ?_
   refine run_op (loc_fieldAddr rfl) rfl ?_
   refine run_op (loc_load1 rfl) rfl ?_
   refine run_op (loc_neq rfl rfl) rfl ?_
   refine run_op (loc_move rfl) rfl ?_
   refine run_gfirst rfl rfl gdI.ok (fun hg => loc_fieldAddr rfl) rfl ?_
   refine run_gop rfl rfl gdI.ok (fun hg => loc_load1 rfl) rfl ?_
   refine run_gop rfl rfl gdI.ok (fun hg => loc_fieldAddrOwn rfl) rfl ?_
   refine run_gop rfl rfl gdI.ok (fun hg => loc_loadOwn1 rfl (.there (.here)) (by rfl)) rfl ?_
   refine run_gop rfl rfl gdI.ok (fun hg => loc_neq rfl rfl) rfl ?_
   refine run_gleave ?_
   refine run_op (loc_or rfl rfl) rfl ?_
   refine run_nil ?_
   refine run_cond rfl (fun h4 => ?_) (fun h4 => ?_)
   ·
    have c2 := h4
    refine run_seq ?_
    refine run_region ?_
    refine run_op (loc_loadOwnN rfl (.there (.here)) (by rfl)) rfl ?_
    refine run_storeN (ho := (by show OneAll [_, _, _, _, _, _, _, _]; infer_instance)) rfl rfl (.here) (by rfl) ?_
    refine run_op (loc_assign rfl) rfl ?_
    refine run_nil ?_
    have hE : askE v n = 2 := by unfold askE; rw [if_neg (Classical.not_not.2 c1), if_pos c2]
    refine run_retGP Tryz.func24 rfl (.cellN rfl (.here) (by rfl) (.tmp rfl (.nil))) ?_ (fun _ _ h => inv_tail (inv_tail (h)))
    exact d_tup2 (d_toSrv (by unfold askV; rw [if_neg (by rw [hE]; first | omega | assumption)]) (fun _ _ h => h)) (d_int hE.symm)
   ·
    have c2 := h4
    refine run_skip ?_
    refine run_seq ?_
    refine run_region ?_
    refine run_op (loc_loadOwnN rfl (.there (.here)) (by rfl)) rfl ?_
    refine run_op (loc_fieldAddr rfl) rfl ?_
    refine run_op (loc_load1 rfl) rfl ?_
    refine run_op (loc_call (rfind30_spec v n.version (okI_asc hv)) rfl) rfl ?_
    refine run_op (loc_assign rfl) rfl ?_
    refine run_nil ?_
    refine run_seq ?_
    refine run_seq ?_
    refine run_region ?_
    refine run_op (loc_move rfl) rfl ?_
    refine run_op (loc_lss rfl rfl) rfl ?_
    refine run_nil ?_
    refine run_cond rfl (fun h5 => ?_) (fun h5 => ?_)
    ·
     have c3 : ¬ thereV v n.version := findR_neg.1 (by omega)
     refine run_seq ?_
     refine run_region ?_
     refine run_op (loc_loadOwnN rfl (.there (.here)) (by rfl)) rfl ?_
     refine run_storeN (ho := (by show OneAll [_, _, _, _, _, _, _, _]; infer_instance)) rfl rfl (.here) (by rfl) ?_
     refine run_op (loc_assign rfl) rfl ?_
     refine run_nil ?_
     have hE : askE v n = 6 := by unfold askE; rw [if_neg (Classical.not_not.2 c1), if_neg c2, if_pos c3]
     refine run_retGP Tryz.func24 rfl (.cellN rfl (.here) (by rfl) (.tmp rfl (.nil))) ?_ (fun _ _ h => inv_tail (inv_tail (h)))
     exact d_tup2 (d_toSrv (by unfold askV; rw [if_neg (by rw [hE]; first | omega | assumption)]) (fun _ _ h => h)) (d_int hE.symm)
    ·
     have c3 : thereV v n.version := Classical.not_not.1 fun hn => by have h5 := findR_neg.2 hn; omega
     have hat := c3.1
     rw [findR_pos c3]
     have hhd : v.versions[atV v n.version]?.getD default = heldV v n.version := rfl
     have hho := held_ok hv.1 c3
     refine run_skip ?_
     refine run_seq ?_
     refine run_seq ?_
     refine dr_start _ (.none) [⟨[(3, none)], [], none⟩,
         ⟨[(32, some (0, false))], [0], none⟩,
         ⟨[(33, some (1, false))], [0, 1], none⟩,
         ⟨[(2, none)], [], none⟩,
         ⟨[(35, some (3, false))], [3], some (1, 0, false)⟩,
         ⟨[(6, none)], [], none⟩,
         ⟨[(36, some (4, false)), (37, some (5, false))], [3, 4, 5], none⟩,
         ⟨[(38, some (6, false))], [3, 4, 5, 6], none⟩,
         ⟨[(39, some (7, false))], [3, 4, 5, 6, 7], none⟩,
         ⟨[(40, some (8, false))], [3, 4, 5, 6, 7, 8], none⟩,
         ⟨[(34, some (2, false)), (41, some (9, false))], [0, 1, 2, 3, 4, 5, 6, 7, 8, 9], none⟩] [_, _] _ rfl rfl ?_
     refine dq_pure rfl (fun s => .g rfl (.nil)) (fun s hs _ => loc_fieldAddr rfl) (by exact .nil) ?_
     refine dq_pure rfl (fun s => .op rfl (.nil)) (fun s hs _ => loc_load1 rfl) (by exact .nil) ?_
     refine dq_pure rfl (fun s => .op rfl (.nil)) (fun s hs _ => loc_len rfl) (by exact .nil) ?_
     refine dq_pure rfl (fun s => .g rfl (.nil)) (fun s hs _ => loc_fieldAddrOwn rfl) (by exact .nil) ?_
     refine dq_read rfl (fun s => .op rfl (.nil)) rfl rfl (fun s hs _ hm => loc_loadOwn1 rfl hm (by rfl)) (by exact .nil) ?_
     refine dq_pure rfl (fun s => .g rfl (.nil)) (fun s hs _ => loc_move rfl) (by exact .nil) ?_
     first | refine dq_pure rfl (fun s => .op rfl (.op rfl (.nil))) (fun s hs _ => loc_index rfl rfl (by first | omega | assumption)) (by exact .nil) ?_ | refine dq_pure rfl (fun s => .op rfl (.op rfl (.nil))) (fun s hs _ => loc_indexI rfl rfl (by first | omega | assumption)) (by exact .nil) ?_
     refine dq_pure rfl (fun s => .op rfl (.nil)) (fun s hs _ => loc_fieldAddr rfl) (by exact .nil) ?_
     refine dq_pure rfl (fun s => .op rfl (.nil)) (fun s hs _ => loc_load1 rfl) (by exact .nil) ?_
     refine dq_pure rfl (fun s => .op rfl (.nil)) (fun s hs _ => loc_len rfl) (by exact .nil) ?_
     refine dq_pure rfl (fun s => .op rfl (.op rfl (.nil))) (fun s hs _ => loc_neq rfl rfl) (by exact .nil) ?_
     refine dq_end (rs := [_, _]) () rfl (fun _ => rfl) (.nil) rfl (fun _ => rfl) (fun _ _ => ?_)
     dsimp only [outG, outM, List.map, List.set, id]
     refine run_cond rfl (fun h6 => ?_) (fun h6 => ?_)
     ·
      have h5 := h6
      rw [hhd] at h5
      refine run_seq ?_
      refine run_region ?_
      refine run_op (loc_loadOwnN rfl (.there (.here)) (by rfl)) rfl ?_
      refine run_storeN (ho := (by show OneAll [_, _, _, _, _, _, _, _]; infer_instance)) rfl rfl (.here) (by rfl) ?_
      refine run_op (loc_assign rfl) rfl ?_
      refine run_nil ?_
      have hE : askE v n = 2 := by unfold askE; rw [if_neg (Classical.not_not.2 c1), if_neg c2, if_neg (Classical.not_not.2 c3), if_pos (.inl (by omega))]
      refine run_retGP Tryz.func24 rfl (.cellN rfl (.here) (by rfl) (.tmp rfl (.nil))) ?_ (fun _ _ h => inv_tail (inv_tail (h)))
      exact d_tup2 (d_toSrv (by unfold askV; rw [if_neg (by rw [hE]; first | omega | assumption)]) (fun _ _ h => h)) (d_int hE.symm)
     ·
      have h5 := h6
      rw [hhd] at h5
      refine run_skip ?_
      refine run_seq ?_
      refine run_seq ?_
      refine run_region ?_
      refine run_op (loc_assign rfl) rfl ?_
      refine run_nil ?_
      refine run_block ?_
      refine run_loopC (σ := Nat) (ks := [2, 3, 4, 6]) (.cons rfl (.cons rfl (.cons rfl (.cons rfl (.nil))))) (fun k => [(7, dInt .i64 (k : Nat))]) (fun k => k ≤ n.query.length ∧ (∀ j, j < k → hasP (heldV v n.version).head.p (n.query[j]?.getD default))) (fun k => n.query.length - k) (0) (⟨by omega, fun j hj => by omega⟩) (.cons rfl (by first | exact fun _ _ h => h | exact d_int (by omega) | exact d_int (by simp) | exact d_intN (by omega) | exact d_any) .nil) ?_
      rintro k ⟨hk, hbk⟩ ih7
      refine run_seq ?_
      refine run_seq ?_
      refine run_region ?_
      refine run_op (loc_move rfl) rfl ?_
      refine run_op (loc_fieldAddr rfl) rfl ?_
      refine run_op (loc_load1 rfl) rfl ?_
      first | refine runL_fact (s := 46) rfl (fun _ _ h => dSl_len h) (fun hlen8 => ?_) | skip
      refine run_op (loc_len rfl) rfl ?_
      refine run_op (loc_lss rfl rfl) rfl ?_
      refine run_nil ?_
      refine run_cond rfl (fun h9 => ?_) (fun h9 => ?_)
      ·
       refine run_skip ?_
       refine run_seq ?_
       refine run_block ?_
       refine run_seq ?_
       refine dr_start _ (.none) [⟨[(3, none)], [], none⟩,
           ⟨[(51, some (0, false))], [0], none⟩,
           ⟨[(7, none)], [], none⟩,
           ⟨[(52, some (1, false)), (53, some (2, false))], [0, 1, 2], none⟩,
           ⟨[(54, some (3, false))], [0, 1, 2, 3], none⟩,
           ⟨[(55, some (4, false))], [0, 1, 2, 3, 4], none⟩,
           ⟨[(56, some (5, false))], [0, 1, 2, 3, 4, 5], none⟩,
           ⟨[(3, none)], [0, 1, 2, 3, 4, 5, 6], none⟩,
           ⟨[(58, some (7, true))], [0, 1, 2, 3, 4, 5, 6, 7], none⟩,
           ⟨[(7, none)], [0, 1, 2, 3, 4, 5, 6], none⟩,
           ⟨[(59, some (8, true)), (60, some (9, true))], [0, 1, 2, 3, 4, 5, 6, 7, 8, 9], none⟩,
           ⟨[(61, some (10, true))], [0, 1, 2, 3, 4, 5, 6, 7, 8, 9, 10], none⟩,
           ⟨[(2, none)], [0, 1, 2, 3, 4, 5, 6], none⟩,
           ⟨[(63, some (12, true))], [0, 1, 2, 3, 4, 5, 6, 12], some (1, 0, false)⟩,
           ⟨[(6, none)], [0, 1, 2, 3, 4, 5, 6], none⟩,
           ⟨[(64, some (13, true)), (65, some (14, true))], [0, 1, 2, 3, 4, 5, 6, 12, 13, 14], none⟩,
           ⟨[(66, some (15, true))], [0, 1, 2, 3, 4, 5, 6, 12, 13, 14, 15], none⟩,
           ⟨[(67, some (16, true))], [0, 1, 2, 3, 4, 5, 6, 12, 13, 14, 15, 16], none⟩,
           ⟨[(68, some (17, true))], [0, 1, 2, 3, 4, 5, 6, 12, 13, 14, 15, 16, 17], none⟩,
           ⟨[(62, some (11, true)), (69, some (18, true))], [0, 1, 2, 3, 4, 5, 6, 7, 8, 9, 10, 11, 12, 13, 14, 15, 16, 17, 18], none⟩,
           ⟨[(57, some (6, false)), (70, some (19, false))], [0, 1, 2, 3, 4, 5, 6, 7, 8, 9, 10, 11, 12, 13, 14, 15, 16, 17, 18, 19], none⟩] [_, _] _ rfl rfl ?_
       refine dq_pure rfl (fun s => .g rfl (.nil)) (fun s hs _ => loc_fieldAddr rfl) (by exact .nil) ?_
       refine dq_pure rfl (fun s => .op rfl (.nil)) (fun s hs _ => loc_load1 rfl) (by exact .nil) ?_
       refine dq_pure rfl (fun s => .g rfl (.nil)) (fun s hs _ => loc_move rfl) (by exact .nil) ?_
       first | refine dq_pure rfl (fun s => .op rfl (.op rfl (.nil))) (fun s hs _ => loc_index rfl rfl (by first | omega | assumption)) (by exact .nil) ?_ | refine dq_pure rfl (fun s => .op rfl (.op rfl (.nil))) (fun s hs _ => loc_indexI rfl rfl (by first | omega | assumption)) (by exact .nil) ?_
       refine dq_pure rfl (fun s => .op rfl (.nil)) (fun s hs _ => loc_load1 rfl) (by exact .nil) ?_
       refine dq_pure rfl (fun s => .op rfl (.nil)) (fun s hs _ => loc_lss rfl rfl) (by exact .nil) ?_
       refine dq_pure rfl (fun s => .op rfl (.nil)) (fun s hs _ => loc_move rfl) (by exact .nil) ?_
       refine dq_gpure rfl (fun s => .g rfl (.nil)) rfl (fun _ => gdI.ok) (fun s hs hg _ => loc_fieldAddr rfl) (by exact .nil) ?_
       refine dq_gpure rfl (fun s => .opU rfl (.nil)) rfl (fun _ => gdI.ok) (fun s hs hg _ => loc_load1 rfl) (by exact .nil) ?_
       refine dq_gpure rfl (fun s => .g rfl (.nil)) rfl (fun _ => gdI.ok) (fun s hs hg _ => loc_move rfl) (by exact .nil) ?_
       first | refine dq_gpure rfl (fun s => .opU rfl (.opU rfl (.nil))) rfl (fun _ => gdI.ok) (fun s hs hg _ => loc_index rfl rfl (by first | omega | assumption)) (by exact .nil) ?_ | refine dq_gpure rfl (fun s => .opU rfl (.opU rfl (.nil))) rfl (fun _ => gdI.ok) (fun s hs hg _ => loc_indexI rfl rfl (by first | omega | assumption)) (by exact .nil) ?_
       refine dq_gpure rfl (fun s => .opU rfl (.nil)) rfl (fun _ => gdI.ok) (fun s hs hg _ => loc_load1 rfl) (by exact .nil) ?_
       refine dq_gpure rfl (fun s => .g rfl (.nil)) rfl (fun _ => gdI.ok) (fun s hs hg _ => loc_fieldAddrOwn rfl) (by exact .nil) ?_
       refine dq_gread rfl (fun s => .opU rfl (.nil)) rfl rfl rfl (fun _ => gdI.ok) (fun s hs hg _ hm => loc_loadOwn1 rfl hm (by rfl)) (by exact .nil) ?_
       refine dq_gpure rfl (fun s => .g rfl (.nil)) rfl (fun _ => gdI.ok) (fun s hs hg _ => loc_move rfl) (by exact .nil) ?_
       first | refine dq_gpure rfl (fun s => .opU rfl (.opU rfl (.nil))) rfl (fun _ => gdI.ok) (fun s hs hg _ => loc_index rfl rfl (by first | omega | assumption)) (by exact .nil) ?_ | refine dq_gpure rfl (fun s => .opU rfl (.opU rfl (.nil))) rfl (fun _ => gdI.ok) (fun s hs hg _ => loc_indexI rfl rfl (by first | omega | assumption)) (by exact .nil) ?_
       refine dq_gpure rfl (fun s => .opU rfl (.nil)) rfl (fun _ => gdI.ok) (fun s hs hg _ => loc_fieldAddr rfl) (by exact .nil) ?_
       refine dq_gpure rfl (fun s => .opU rfl (.nil)) rfl (fun _ => gdI.ok) (fun s hs hg _ => loc_fieldAddr rfl) (by exact .nil) ?_
       refine dq_gpure rfl (fun s => .opU rfl (.nil)) rfl (fun _ => gdI.ok) (fun s hs hg _ => loc_load1 rfl) (by exact .nil) ?_
       refine dq_gpure rfl (fun s => .opU rfl (.opU rfl (.nil))) rfl (fun _ => gdI.ok) (fun s hs hg _ => loc_geq rfl rfl) (by exact .nil) ?_
       refine dq_pure rfl (fun s => .op rfl (.op rfl (.nil))) (fun s hs _ => loc_or rfl rfl) (by exact .nil) ?_
       refine dq_end (rs := [_, _]) () rfl (fun _ => rfl) (.nil) rfl (fun _ => rfl) (fun _ _ => ?_)
       dsimp only [outG, outM, List.map, List.set, id]
       refine run_cond rfl (fun h10 => ?_) (fun h10 => ?_)
       ·
        have h6 := h10
        rw [hhd] at h6
        have c4 : ¬ (okP (heldV v n.version).head.p ∧ allP (heldV v n.version).head.p n.query) := fun hc => by have h7 := hc.2 _ (getD_mem (xs := n.query) (k := k) (by omega)); unfold hasP at h7; omega
        refine run_seq ?_
        refine run_region ?_
        refine run_op (loc_loadOwnN rfl (.there (.here)) (by rfl)) rfl ?_
        refine run_storeN (ho := (by show OneAll [_, _, _, _, _, _, _, _]; infer_instance)) rfl rfl (.here) (by rfl) ?_
        refine run_op (loc_assign rfl) rfl ?_
        refine run_nil ?_
        have hE : askE v n = 2 := by unfold askE; rw [if_neg (Classical.not_not.2 c1), if_neg c2, if_neg (Classical.not_not.2 c3), if_pos (.inr c4)]
        refine run_retGP Tryz.func24 rfl (.cellN rfl (.here) (by rfl) (.tmp rfl (.nil))) ?_ (fun _ _ h => inv_tail (inv_tail (h)))
        exact d_tup2 (d_toSrv (by unfold askV; rw [if_neg (by rw [hE]; first | omega | assumption)]) (fun _ _ h => h)) (d_int hE.symm)
       ·
        have h6 := h10
        rw [hhd] at h6
        refine run_skip ?_
        refine run_inBlock ?_
        refine run_region ?_
        refine run_op (loc_move rfl) rfl ?_
        first | refine run_op (loc_add rfl rfl (by first | omega | assumption)) rfl ?_ | refine run_op (loc_addW rfl rfl) rfl ?_
        refine run_op (loc_assign rfl) rfl ?_
        refine run_nil ?_
        exact run_againC ih7 (k + 1) (⟨by omega, fun j hj => by by_cases e : j = k; (· subst e; (show _ ∧ _; omega)); (· exact hbk j (by omega))⟩) (by omega) (.cons rfl (by first | exact fun _ _ h => h | exact d_int (by omega) | exact d_int (by simp) | exact d_intN (by omega) | exact d_any) .nil) (.cons rfl (fun _ _ x => x) (.cons rfl (fun _ _ x => x) (.cons rfl (fun _ _ x => x) (.cons rfl (fun _ _ x => x) (.nil)))))
      ·
       refine run_exit rfl ?_
       refine run_seq ?_
       refine run_seq ?_
       refine run_region ?_
       refine run_op (loc_assign rfl) rfl ?_
       refine run_nil ?_
       refine run_block ?_
       have c4 : ¬ (n.query.length ≠ (heldV v n.version).rows.length ∨ ¬ (okP (heldV v n.version).head.p ∧ allP (heldV v n.version).head.p n.query)) := by rintro (h | h); (· omega); (· exact h ⟨hho.1, fun x hx => by obtain ⟨i, hi, rfl⟩ := List.mem_iff_getElem.1 hx; have h8 := hbk i (by omega); rwa [List.getElem?_eq_getElem hi] at h8⟩)
       refine run_loopC (σ := Nat) (ks := [2, 3, 4]) (.cons rfl (.cons rfl (.cons rfl (.nil)))) (fun u => [(8, dInt .i64 (u : Nat))]) (fun u => u ≤ v.jobs.length ∧ (∀ j, j < u → ¬ ((v.jobs[j]?.getD default).read = n.read ∧ (v.jobs[j]?.getD default).probe = n.probe))) (fun u => v.jobs.length - u) (0) (⟨by omega, fun j hj => by omega⟩) (.cons rfl (by first | exact fun _ _ h => h | exact d_int (by omega) | exact d_int (by simp) | exact d_intN (by omega) | exact d_any) .nil) ?_
       rintro u ⟨hu, hbu⟩ ih11
       refine run_seq ?_
       refine run_seq ?_
       refine run_region ?_
       refine run_op (loc_move rfl) rfl ?_
       refine run_op (loc_fieldAddrOwn rfl) rfl ?_
       refine run_op (loc_loadOwn1 rfl (.there (.here)) (by rfl)) rfl ?_
       first | refine runL_fact (s := 75) rfl (fun _ _ h => dSl_len h) (fun hlen12 => ?_) | skip
       refine run_op (loc_len rfl) rfl ?_
       refine run_op (loc_lss rfl rfl) rfl ?_
       refine run_nil ?_
       refine run_cond rfl (fun h13 => ?_) (fun h13 => ?_)
       ·
        refine run_skip ?_
        refine run_seq ?_
        refine run_block ?_
        refine run_seq ?_
        refine dr_start _ (.none) [⟨[(2, none)], [], none⟩,
            ⟨[(80, some (0, false))], [0], some (1, 0, false)⟩,
            ⟨[(8, none)], [], none⟩,
            ⟨[(81, some (1, false)), (82, some (2, false))], [0, 1, 2], none⟩,
            ⟨[(83, some (3, false))], [0, 1, 2, 3], none⟩,
            ⟨[(84, some (4, false))], [0, 1, 2, 3, 4], none⟩,
            ⟨[(3, none)], [], none⟩,
            ⟨[(86, some (6, false))], [6], none⟩,
            ⟨[(85, some (5, false)), (87, some (7, false))], [0, 1, 2, 3, 4, 5, 6, 7], none⟩,
            ⟨[(88, some (8, false))], [0, 1, 2, 3, 4, 5, 6, 7, 8], none⟩,
            ⟨[(2, none)], [0, 1, 2, 3, 4, 5, 6, 7, 8, 9], none⟩,
            ⟨[(90, some (10, true))], [0, 1, 2, 3, 4, 5, 6, 7, 8, 9, 10], some (1, 0, false)⟩,
            ⟨[(8, none)], [0, 1, 2, 3, 4, 5, 6, 7, 8, 9], none⟩,
            ⟨[(91, some (11, true)), (92, some (12, true))], [0, 1, 2, 3, 4, 5, 6, 7, 8, 9, 10, 11, 12], none⟩,
            ⟨[(93, some (13, true))], [0, 1, 2, 3, 4, 5, 6, 7, 8, 9, 10, 11, 12, 13], none⟩,
            ⟨[(94, some (14, true))], [0, 1, 2, 3, 4, 5, 6, 7, 8, 9, 10, 11, 12, 13, 14], none⟩,
            ⟨[(3, none)], [0, 1, 2, 3, 4, 5, 6, 7, 8, 9], none⟩,
            ⟨[(96, some (16, true))], [0, 1, 2, 3, 4, 5, 6, 7, 8, 9, 16], none⟩,
            ⟨[(95, some (15, true)), (97, some (17, true))], [0, 1, 2, 3, 4, 5, 6, 7, 8, 9, 10, 11, 12, 13, 14, 15, 16, 17], none⟩,
            ⟨[(89, some (9, false)), (98, some (18, false))], [0, 1, 2, 3, 4, 5, 6, 7, 8, 9, 10, 11, 12, 13, 14, 15, 16, 17, 18], none⟩] [_, _] _ rfl rfl ?_
        refine dq_pure rfl (fun s => .g rfl (.nil)) (fun s hs _ => loc_fieldAddrOwn rfl) (by exact .nil) ?_
        refine dq_read rfl (fun s => .op rfl (.nil)) rfl rfl (fun s hs _ hm => loc_loadOwn1 rfl hm (by rfl)) (by exact .nil) ?_
        refine dq_pure rfl (fun s => .g rfl (.nil)) (fun s hs _ => loc_move rfl) (by exact .nil) ?_
        first | refine dq_pure rfl (fun s => .op rfl (.op rfl (.nil))) (fun s hs _ => loc_index rfl rfl (by first | omega | assumption)) (by exact .nil) ?_ | refine dq_pure rfl (fun s => .op rfl (.op rfl (.nil))) (fun s hs _ => loc_indexI rfl rfl (by first | omega | assumption)) (by exact .nil) ?_
        refine dq_pure rfl (fun s => .op rfl (.nil)) (fun s hs _ => loc_fieldAddr rfl) (by exact .nil) ?_
        refine dq_pure rfl (fun s => .op rfl (.nil)) (fun s hs _ => loc_load1 rfl) (by exact .nil) ?_
        refine dq_pure rfl (fun s => .g rfl (.nil)) (fun s hs _ => loc_fieldAddr rfl) (by exact .nil) ?_
        refine dq_pure rfl (fun s => .op rfl (.nil)) (fun s hs _ => loc_load1 rfl) (by exact .nil) ?_
        refine dq_pure rfl (fun s => .op rfl (.op rfl (.nil))) (fun s hs _ => loc_eql rfl rfl) (by exact .nil) ?_
        refine dq_pure rfl (fun s => .op rfl (.nil)) (fun s hs _ => loc_move rfl) (by exact .nil) ?_
        refine dq_gpure rfl (fun s => .g rfl (.nil)) rfl (fun _ => gdI.ok) (fun s hs hg _ => loc_fieldAddrOwn rfl) (by exact .nil) ?_
        refine dq_gread rfl (fun s => .opU rfl (.nil)) rfl rfl rfl (fun _ => gdI.ok) (fun s hs hg _ hm => loc_loadOwn1 rfl hm (by rfl)) (by exact .nil) ?_
        refine dq_gpure rfl (fun s => .g rfl (.nil)) rfl (fun _ => gdI.ok) (fun s hs hg _ => loc_move rfl) (by exact .nil) ?_
        first | refine dq_gpure rfl (fun s => .opU rfl (.opU rfl (.nil))) rfl (fun _ => gdI.ok) (fun s hs hg _ => loc_index rfl rfl (by first | omega | assumption)) (by exact .nil) ?_ | refine dq_gpure rfl (fun s => .opU rfl (.opU rfl (.nil))) rfl (fun _ => gdI.ok) (fun s hs hg _ => loc_indexI rfl rfl (by first | omega | assumption)) (by exact .nil) ?_
        refine dq_gpure rfl (fun s => .opU rfl (.nil)) rfl (fun _ => gdI.ok) (fun s hs hg _ => loc_fieldAddr rfl) (by exact .nil) ?_
        refine dq_gpure rfl (fun s => .opU rfl (.nil)) rfl (fun _ => gdI.ok) (fun s hs hg _ => loc_load1 rfl) (by exact .nil) ?_
        refine dq_gpure rfl (fun s => .g rfl (.nil)) rfl (fun _ => gdI.ok) (fun s hs hg _ => loc_fieldAddr rfl) (by exact .nil) ?_
        refine dq_gpure rfl (fun s => .opU rfl (.nil)) rfl (fun _ => gdI.ok) (fun s hs hg _ => loc_load1 rfl) (by exact .nil) ?_
        refine dq_gpure rfl (fun s => .opU rfl (.opU rfl (.nil))) rfl (fun _ => gdI.ok) (fun s hs hg _ => loc_eql rfl rfl) (by exact .nil) ?_
        refine dq_pure rfl (fun s => .op rfl (.op rfl (.nil))) (fun s hs _ => loc_and rfl rfl) (by exact .nil) ?_
        refine dq_end (rs := [_, _]) () rfl (fun _ => rfl) (.nil) rfl (fun _ => rfl) (fun _ _ => ?_)
        dsimp only [outG, outM, List.map, List.set, id]
        refine run_cond rfl (fun h14 => ?_) (fun h14 => ?_)
        ·
         have c5 : ∃ j ∈ v.jobs, j.read = n.read ∧ j.probe = n.probe := ⟨_, getD_mem (k := u) (by omega), by assumption⟩
         refine run_seq ?_
         refine run_region ?_
         refine run_op (loc_loadOwnN rfl (.there (.here)) (by rfl)) rfl ?_
         refine run_storeN (ho := (by show OneAll [_, _, _, _, _, _, _, _]; infer_instance)) rfl rfl (.here) (by rfl) ?_
         refine run_op (loc_assign rfl) rfl ?_
         refine run_nil ?_
         have hE : askE v n = 7 := by unfold askE; rw [if_neg (Classical.not_not.2 c1), if_neg c2, if_neg (Classical.not_not.2 c3), if_neg c4, if_pos c5]
         refine run_retGP Tryz.func24 rfl (.cellN rfl (.here) (by rfl) (.tmp rfl (.nil))) ?_ (fun _ _ h => inv_tail (inv_tail (h)))
         exact d_tup2 (d_toSrv (by unfold askV; rw [if_neg (by rw [hE]; first | omega | assumption)]) (fun _ _ h => h)) (d_int hE.symm)
        ·
         refine run_skip ?_
         refine run_inBlock ?_
         refine run_region ?_
         refine run_op (loc_move rfl) rfl ?_
         first | refine run_op (loc_add rfl rfl (by first | omega | assumption)) rfl ?_ | refine run_op (loc_addW rfl rfl) rfl ?_
         refine run_op (loc_assign rfl) rfl ?_
         refine run_nil ?_
         exact run_againC ih11 (u + 1) (⟨by omega, fun j hj => by by_cases e : j = u; (· subst e; assumption); (· exact hbu j (by omega))⟩) (by omega) (.cons rfl (by first | exact fun _ _ h => h | exact d_int (by omega) | exact d_int (by simp) | exact d_intN (by omega) | exact d_any) .nil) (.cons rfl (fun _ _ x => x) (.cons rfl (fun _ _ x => x) (.cons rfl (fun _ _ x => x) (.nil))))
       ·
        refine run_exit rfl ?_
        refine run_seq ?_
        refine run_seq ?_
        have c5 : ¬ ∃ j ∈ v.jobs, j.read = n.read ∧ j.probe = n.probe := by rintro ⟨j, hj, e⟩; obtain ⟨i, hi, rfl⟩ := List.mem_iff_getElem.1 hj; have h8 := hbu i (by omega); rw [List.getElem?_eq_getElem hi] at h8; exact h8 e
        refine run_region ?_
        refine run_op (loc_fieldAddrOwn rfl) rfl ?_
        refine run_op (loc_loadOwn1 rfl (.there (.here)) (by rfl)) rfl ?_
        first | refine runL_fact (s := 102) rfl (fun _ _ h => dSl_len h) (fun hlen15 => ?_) | skip
        refine run_op (loc_len rfl) rfl ?_
        refine run_op (loc_geq rfl rfl) rfl ?_
        refine run_nil ?_
        refine run_cond rfl (fun h16 => ?_) (fun h16 => ?_)
        ·
         have c6 := h16
         refine run_seq ?_
         refine run_region ?_
         refine run_op (loc_loadOwnN rfl (.there (.here)) (by rfl)) rfl ?_
         refine run_storeN (ho := (by show OneAll [_, _, _, _, _, _, _, _]; infer_instance)) rfl rfl (.here) (by rfl) ?_
         refine run_op (loc_assign rfl) rfl ?_
         refine run_nil ?_
         have hE : askE v n = 4 := by unfold askE; rw [if_neg (Classical.not_not.2 c1), if_neg c2, if_neg (Classical.not_not.2 c3), if_neg c4, if_neg c5, if_pos (by omega)]
         refine run_retGP Tryz.func24 rfl (.cellN rfl (.here) (by rfl) (.tmp rfl (.nil))) ?_ (fun _ _ h => inv_tail (inv_tail (h)))
         exact d_tup2 (d_toSrv (by unfold askV; rw [if_neg (by rw [hE]; first | omega | assumption)]) (fun _ _ h => h)) (d_int hE.symm)
        ·
         have c6 := h16
         refine run_skip ?_
         refine run_seq ?_
         refine run_region ?_
         refine run_op (loc_assign rfl) rfl ?_
         refine run_nil ?_
         refine run_seq ?_
         refine run_addNone ?_
         refine run_addNone ?_
         refine dr_start _ (.two (τ1 := Value) (τ2 := Nat) 3 10 (fun _ => True) (fun _ => True)) [⟨[(9, none)], [], none⟩,
             ⟨[(2, none)], [], none⟩,
             ⟨[(107, some (1, false))], [1], some (3, 0, false)⟩,
             ⟨[(106, some (0, false)), (108, some (2, false))], [0, 1, 2], some (1, 0, true)⟩,
             ⟨[(3, none)], [], none⟩,
             ⟨[(110, some (4, false))], [4], none⟩,
             ⟨[(3, none)], [], none⟩,
             ⟨[(112, some (6, false))], [6], none⟩,
             ⟨[(3, none)], [], none⟩,
             ⟨[(114, some (8, false))], [8], none⟩,
             ⟨[], [], some (0, 0, true)⟩,
             ⟨[(3, none)], [], none⟩,
             ⟨[(117, some (11, false))], [11], none⟩,
             ⟨[(116, some (10, false)), (118, some (12, false))], [0, 1, 2, 3, 10, 11, 12], some (0, 1, true)⟩,
             ⟨[(111, some (5, false)), (113, some (7, false)), (115, some (9, false)), (119, some (13, false))], [0, 1, 2, 3, 4, 5, 6, 7, 8, 9, 10, 11, 12, 13], none⟩,
             ⟨[(120, some (14, false))], [0, 1, 2, 3, 4, 5, 6, 7, 8, 9, 10, 11, 12, 13, 14], none⟩,
             ⟨[(109, some (3, false)), (121, some (15, false))], [0, 1, 2, 3, 4, 5, 6, 7, 8, 9, 10, 11, 12, 13, 14, 15], some (1, 1, true)⟩,
             ⟨[(2, none)], [0, 1, 2, 3, 4, 5, 6, 7, 8, 9, 10, 11, 12, 13, 14, 15, 16], none⟩,
             ⟨[(123, some (17, false)), (122, some (16, false))], [0, 1, 2, 3, 4, 5, 6, 7, 8, 9, 10, 11, 12, 13, 14, 15, 16, 17], some (3, 0, true)⟩] [_, _, _, _] _ rfl rfl ?_
         refine dq_pure rfl (fun s => .g rfl (.nil)) (fun s hs _ => loc_move rfl) (by exact .cons (.inr fun _ _ _ => rfl) (.cons (.inr fun _ _ _ => rfl) (.nil))) ?_
         refine dq_pure rfl (fun s => .g rfl (.nil)) (fun s hs _ => loc_fieldAddrOwn rfl) (by exact .cons (.inr fun _ _ _ => rfl) (.cons (.inr fun _ _ _ => rfl) (.nil))) ?_
         refine dq_read rfl (fun s => .op rfl (.nil)) rfl rfl (fun s hs _ hm => loc_loadOwn1 rfl hm (by rfl)) (by exact .cons (.inr fun _ _ _ => rfl) (.cons (.inr fun _ _ _ => rfl) (.nil))) ?_
         refine dq_choose Prod.fst (fun s t => (t, s.2)) rfl (fun _ _ => ⟨rfl, id, rfl⟩) (fun s => .op rfl (.op rfl (.nil))) rfl rfl (fun s hs => locM_new (loc_appendNil rfl rfl rfl (by first | omega | (simp [lenMax]; omega) | (simp [lenMax]; done) | assumption) (by first | omega | (simp [lenMax]; omega) | (simp [lenMax]; done) | assumption))) (by exact .cons (.inl rfl) (.cons (.inr (.inr fun ⟨a, b⟩ ⟨c, d⟩ h => by have h : c = a := h; subst h; exact rfl)) (.nil))) (fun _ _ => rfl) ?_
         refine dq_pure rfl (fun s => .g rfl (.nil)) (fun s hs _ => loc_fieldAddr rfl) (by exact .cons (.inr fun _ _ _ => rfl) (.cons (.inr fun _ _ _ => rfl) (.nil))) ?_
         refine dq_pure rfl (fun s => .op rfl (.nil)) (fun s hs _ => loc_load1 rfl) (by exact .cons (.inr fun _ _ _ => rfl) (.cons (.inr fun _ _ _ => rfl) (.nil))) ?_
         refine dq_pure rfl (fun s => .g rfl (.nil)) (fun s hs _ => loc_fieldAddr rfl) (by exact .cons (.inr fun _ _ _ => rfl) (.cons (.inr fun _ _ _ => rfl) (.nil))) ?_
         refine dq_pure rfl (fun s => .op rfl (.nil)) (fun s hs _ => loc_load1 rfl) (by exact .cons (.inr fun _ _ _ => rfl) (.cons (.inr fun _ _ _ => rfl) (.nil))) ?_
         refine dq_pure rfl (fun s => .g rfl (.nil)) (fun s hs _ => loc_fieldAddr rfl) (by exact .cons (.inr fun _ _ _ => rfl) (.cons (.inr fun _ _ _ => rfl) (.nil))) ?_
         refine dq_pure rfl (fun s => .op rfl (.nil)) (fun s hs _ => loc_load1 rfl) (by exact .cons (.inr fun _ _ _ => rfl) (.cons (.inr fun _ _ _ => rfl) (.nil))) ?_
         refine dq_choose Prod.snd (fun s t => (s.1, t)) rfl (fun _ _ => ⟨rfl, id, rfl⟩) (fun s => .nil) rfl rfl (fun s hs => locM_new (loc_build0 fI)) (by exact .cons (.inr (.inr fun ⟨a, b⟩ ⟨c, d⟩ h => by have h : d = b := h; subst h; exact rfl)) (.cons (.inl rfl) (.nil))) (fun _ _ => rfl) ?_
         refine dq_pure rfl (fun s => .g rfl (.nil)) (fun s hs _ => loc_fieldAddr rfl) (by exact .cons (.inr fun _ _ _ => rfl) (.cons (.inr fun _ _ _ => rfl) (.nil))) ?_
         refine dq_pure rfl (fun s => .op rfl (.nil)) (fun s hs _ => loc_load1 rfl) (by exact .cons (.inr fun _ _ _ => rfl) (.cons (.inr fun _ _ _ => rfl) (.nil))) ?_
         refine dq_write rfl (fun s => .op rfl (.op rfl (.nil))) rfl rfl (fun s hs => LocM.frz (loc_append rfl rfl rfl (by first | omega | (simp [lenMax]; omega) | (simp [lenMax]; done) | assumption) (by first | omega | (simp [lenMax]; omega) | (simp [lenMax]; done) | assumption)) rfl) (by exact .cons (.inl rfl) (.cons (.inl rfl) (.nil))) ?_
         refine dq_pure rfl (fun s => .op rfl (.op rfl (.op rfl (.op rfl (.nil))))) (fun s hs _ => LocP.imp (d' := dJob ⟨n.read, n.probe, n.version, n.query, []⟩) (loc_build (.one rfl rfl rfl (.one rfl rfl rfl (.one rfl rfl rfl (.one rfl rfl rfl (.nil)))))) (by exact d_aggU (.cons (fun _ _ h => h) (.cons (fun _ _ h => h) (.cons (fun _ _ h => h) (.cons (fun _ _ h => h) (.cons d_nil .nil))))))) (by exact .cons (.inl rfl) (.cons (.inl rfl) (.nil))) ?_
         refine dq_pure rfl (fun s => .op rfl (.nil)) (fun s hs _ => loc_buildSlice rfl rfl (.agg rfl (.nil)) rfl rfl) (by exact .cons (.inl rfl) (.cons (.inl rfl) (.nil))) ?_
         refine dq_write rfl (fun s => .op rfl (.op rfl (.nil))) rfl rfl (fun s hs => LocM.frz (loc_append1 (⟨n.read, n.probe, n.version, n.query, []⟩ : Job) rfl rfl rfl rfl (by first | omega | (simp [lenMax]; omega) | (simp [lenMax]; done) | assumption) (by first | omega | (simp [lenMax]; omega) | (simp [lenMax]; done) | assumption)) rfl) (by exact .cons (.inl rfl) (.cons (.inl rfl) (.nil))) ?_
         refine dq_pure rfl (fun s => .g rfl (.nil)) (fun s hs _ => loc_fieldAddrOwn rfl) (by exact .cons (.inl rfl) (.cons (.inl rfl) (.nil))) ?_
         refine dq_write0 rfl (fun s => .op rfl (.op rfl (.nil))) rfl rfl (fun s hs => loc_store1 rfl rfl rfl) (by exact .cons (.inl rfl) (.cons (.inl rfl) (.nil))) ?_
         refine dq_end (rs := [_, _, _, _]) ((.bool true), 0) rfl (fun _ => rfl) (.cons rfl (.cons rfl (.nil))) rfl (fun _ => rfl) (fun s9 _ => ?_)
         obtain ⟨v109, b116⟩ := s9
         dsimp only [outG, outM, List.map, List.set, id]
         refine run_seq ?_
         refine run_region ?_
         refine run_op (loc_loadOwnN rfl (.there (.there (.there (.here)))) (by rfl)) rfl ?_
         refine run_storeN (ho := (by show OneAll [_, _, _, _, _, _, _, _]; infer_instance)) rfl rfl (.there (.there (.here))) (by rfl) ?_
         refine run_op (loc_assign rfl) rfl ?_
         refine run_nil ?_
         have hE : askE v n = 0 := by unfold askE; rw [if_neg (Classical.not_not.2 c1), if_neg c2, if_neg (Classical.not_not.2 c3), if_neg c4, if_neg c5, if_neg (by omega)]
         refine run_retGP Tryz.func24 rfl (.cellN rfl (.there (.there (.here))) (by rfl) (.tmp rfl (.nil))) ?_ (fun _ _ h => inv_tail (inv_tail (inv_tail (inv_tail (h)))))
         exact d_tup2 (d_toSrv (t' := { v with jobs := v.jobs ++ [⟨n.read, n.probe, n.version, n.query, []⟩] }) (by unfold askV; rw [if_pos hE]) (fun _ _ h => h)) (d_int hE.symm)
end Go.Q
