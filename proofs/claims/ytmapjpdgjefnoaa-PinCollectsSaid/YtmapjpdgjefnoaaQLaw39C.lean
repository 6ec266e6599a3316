/- The law of collecting versions. -/
import Derived.Test.YtmapjpdgjefnoaaQPinS
set_option linter.unusedVariables false
set_option linter.unusedSimpArgs false
namespace Go.Q
open Go.Proofs

open Classical
theorem dice_okC {xs : List Int} (h : ∀ x ∈ xs, 0 ≤ x ∧ x ≤ 255) : okDc ⟨xs.take 300, 0⟩ := ⟨fun x hm => h x (List.mem_of_mem_take hm), by simp; omega⟩
theorem pinCollects_spec (xs : List Int) (hx : ∀ x ∈ xs, 0 ≤ x ∧ x ≤ 255) : SpecP Try.prog 5 [dBy xs] (dB True) := by
  refine specP_of_body Try.func5 rfl rfl (fun I M => ?_)
  refine run_seq ?_
  refine run_region ?_
  refine run_op (loc_assign rfl) rfl ?_
  refine run_nil ?_
  refine run_seq ?_
  refine run_seq ?_
  refine run_region ?_
  refine run_op (loc_call (sane39_spec) rfl) rfl ?_
  refine run_op (loc_not rfl) rfl ?_
  refine run_nil ?_
  refine run_cond rfl (fun h1 => ?_) (fun h1 => ?_)
  · exfalso; exact h1 trivial
  ·
    refine run_skip ?_
    refine run_seq ?_
    refine run_region ?_
    refine run_op (loc_move rfl) rfl ?_
    refine run_callN rfl (dnew_spec _) rfl (fun bd hbd => ?_)
    refine run_callM rfl (by first | exact .here | exact .there .here | exact .there (.there .here) | exact .there (.there (.there .here)) | exact .there (.there (.there (.there .here))) | exact .there (.there (.there (.there (.there .here))))) (dpins_spec _ _ (dice_okC hx)) rfl (fun pd hpd => ?_)
    refine run_new (loc_allocOwn (by simp)) rfl (fun b2 _ => ?_)
    refine run_storeN (ho := (by show OneAll [_, _]; infer_instance)) rfl rfl (by first | exact .here | exact .there .here | exact .there (.there .here) | exact .there (.there (.there .here)) | exact .there (.there (.there (.there .here))) | exact .there (.there (.there (.there (.there .here))))) (by rfl) ?_
    refine run_nil ?_
    obtain ⟨hok, -, -, hse, hnw⟩ := hpd
    have hone := hok.one
    have hmost := hok.most
    have hreads := hok.reads
    have hnb := newest_bd hok
    have hokc := coll_ok hok
    have hcone := hokc.one
    have hcmost := hokc.most
    have hcreads := hokc.reads
    have hcl0 := coll_len pd.1
    have hga := gone_again hok
    have hca := coll_again hok
    have hnc := coll_newest hok
    refine run_seq ?_
    refine run_region ?_
    refine run_op (loc_loadOwnN rfl (by first | exact .here | exact .there .here | exact .there (.there .here) | exact .there (.there (.there .here)) | exact .there (.there (.there (.there .here))) | exact .there (.there (.there (.there (.there .here))))) (by rfl)) rfl ?_
    refine run_op (loc_call (collect_spec _ (by assumption) ⟨by omega, by omega⟩) rfl) rfl ?_
    refine run_op (loc_move rfl) rfl ?_
    refine run_op (loc_extract rfl rfl) rfl ?_
    refine run_op (loc_extract rfl rfl) rfl ?_
    refine run_new (loc_allocOwn (by simp)) rfl (fun b4 _ => ?_)
    refine run_storeN (ho := (by show OneAll [_, _]; infer_instance)) rfl rfl (by first | exact .here | exact .there .here | exact .there (.there .here) | exact .there (.there (.there .here)) | exact .there (.there (.there (.there .here))) | exact .there (.there (.there (.there (.there .here))))) (by rfl) ?_
    refine run_op (loc_assign rfl) rfl ?_
    refine run_nil ?_
    refine run_seq ?_
    refine run_seq ?_
    refine run_region ?_
    refine run_op (loc_fieldAddrOwn rfl) rfl ?_
    refine run_op (loc_loadOwn1 rfl (by first | exact .here | exact .there .here | exact .there (.there .here) | exact .there (.there (.there .here)) | exact .there (.there (.there (.there .here))) | exact .there (.there (.there (.there (.there .here))))) (by rfl)) rfl ?_
    first | refine runL_fact (s := 27) rfl (fun _ _ h => dSl_len h) (fun hlen3 => ?_) | skip
    refine run_op (loc_len rfl) rfl ?_
    refine run_op (loc_move rfl) rfl ?_
    first | refine runL_fact (s := 29) rfl (fun _ _ h => dSl_len h) (fun hlen4 => ?_) | skip
    refine run_op (loc_len rfl) rfl ?_
    first | refine run_op (loc_add rfl rfl (by first | omega | assumption)) rfl ?_ | refine run_op (loc_addW rfl rfl) rfl ?_
    refine run_op (loc_fieldAddrOwn rfl) rfl ?_
    refine run_op (loc_loadOwn1 rfl (by first | exact .here | exact .there .here | exact .there (.there .here) | exact .there (.there (.there .here)) | exact .there (.there (.there (.there .here))) | exact .there (.there (.there (.there (.there .here))))) (by rfl)) rfl ?_
    first | refine runL_fact (s := 33) rfl (fun _ _ h => dSl_len h) (fun hlen5 => ?_) | skip
    refine run_op (loc_len rfl) rfl ?_
    refine run_op (loc_neq rfl rfl) rfl ?_
    refine run_op (loc_move rfl) rfl ?_
    refine run_gfirst rfl rfl (by first | exact guard_true _ | exact guard_false _ | exact guard_if (guard_true _) | exact guard_if (guard_false _)) (fun hg => loc_loadOwnN rfl (by first | exact .here | exact .there .here | exact .there (.there .here) | exact .there (.there (.there .here)) | exact .there (.there (.there (.there .here))) | exact .there (.there (.there (.there (.there .here))))) (by rfl)) rfl ?_
    refine run_gop rfl rfl (by first | exact guard_true _ | exact guard_false _ | exact guard_if (guard_true _) | exact guard_if (guard_false _)) (fun hg => loc_call (valid_spec _) rfl) rfl ?_
    refine run_gop rfl rfl (by first | exact guard_true _ | exact guard_false _ | exact guard_if (guard_true _) | exact guard_if (guard_false _)) (fun hg => loc_not rfl) rfl ?_
    refine run_gleave ?_
    refine run_op (loc_or rfl rfl) rfl ?_
    refine run_nil ?_
    refine run_cond rfl (fun h6 => ?_) (fun h6 => ?_)
    · exfalso; rcases h6 with hh | hh; (· omega); (· exact hh hokc)
    ·
      refine run_skip ?_
      refine run_seq ?_
      refine run_seq ?_
      refine run_region ?_
      refine run_op (loc_move rfl) rfl ?_
      first | refine runL_fact (s := 41) rfl (fun _ _ h => dSl_len h) (fun hlen7 => ?_) | skip
      refine run_op (loc_len rfl) rfl ?_
      refine run_op (loc_move rfl) rfl ?_
      refine run_nil ?_
      refine run_block ?_
      refine run_loopC (σ := Nat) (ks := [3, 4, 41, 42]) (.cons rfl (.cons rfl (.cons rfl (.cons rfl (.nil))))) (fun i => [(43, dInt .i64 (i : Nat))]) (fun i => i ≤ (goneP pd.1).length) (fun i => (goneP pd.1).length - i) (0) ((by omega)) (.cons rfl (by first | exact fun _ _ h => h | exact d_int (by omega) | exact d_int (by simp) | exact d_intN (by omega) | exact d_any) .nil) ?_
      intro i hi ih8
      refine run_seq ?_
      refine run_region ?_
      refine run_op (loc_lss rfl rfl) rfl ?_
      refine run_nil ?_
      refine run_seq ?_
      refine run_cond rfl (fun h9 => ?_) (fun h9 => ?_)
      ·
        refine run_skip ?_
        refine run_seq ?_
        refine run_block ?_
        refine run_seq ?_
        refine run_region ?_
        first | refine run_op (loc_index rfl rfl (by first | omega | assumption)) rfl ?_ | refine run_op (loc_indexI rfl rfl (by first | omega | assumption)) rfl ?_
        refine run_op (loc_load1 rfl) rfl ?_
        refine run_op (loc_assign rfl) rfl ?_
        refine run_nil ?_
        refine run_seq ?_
        refine run_region ?_
        refine run_op (loc_loadOwnN rfl (by first | exact .here | exact .there .here | exact .there (.there .here) | exact .there (.there (.there .here)) | exact .there (.there (.there (.there .here))) | exact .there (.there (.there (.there (.there .here))))) (by rfl)) rfl ?_
        refine run_op (loc_move rfl) rfl ?_
        refine run_op (loc_call (named_spec _ _) rfl) rfl ?_
        refine run_op (loc_neq rfl rfl) rfl ?_
        refine run_nil ?_
        refine run_cond rfl (fun h10 => ?_) (fun h10 => ?_)
        · exfalso; have hm := getD_mem (xs := goneP pd.1) (k := i) (by omega); have hz := (mem_flt.1 hm).2.2; omega
        ·
          refine run_skip ?_
          refine run_inBlock ?_
          refine run_region ?_
          first | refine run_op (loc_add rfl rfl (by first | omega | assumption)) rfl ?_ | refine run_op (loc_addW rfl rfl) rfl ?_
          refine run_op (loc_move rfl) rfl ?_
          refine run_nil ?_
          exact run_againC ih8 (i + 1) (by omega) (by omega) (.cons rfl (by first | exact fun _ _ h => h | exact d_int (by omega) | exact d_int (by simp) | exact d_intN (by omega) | exact d_any) .nil) (.cons rfl (fun _ _ x => x) (.cons rfl (fun _ _ x => x) (.cons rfl (fun _ _ x => x) (.cons rfl (fun _ _ x => x) (.nil)))))
      ·
        refine run_exit rfl ?_
        refine run_seq ?_
        refine run_seq ?_
        refine run_region ?_
        refine run_op (loc_fieldAddrOwn rfl) rfl ?_
        refine run_op (loc_loadOwn1 rfl (by first | exact .here | exact .there .here | exact .there (.there .here) | exact .there (.there (.there .here)) | exact .there (.there (.there (.there .here))) | exact .there (.there (.there (.there (.there .here))))) (by rfl)) rfl ?_
        first | refine runL_fact (s := 53) rfl (fun _ _ h => dSl_len h) (fun hlen11 => ?_) | skip
        refine run_op (loc_len rfl) rfl ?_
        refine run_op (loc_move rfl) rfl ?_
        refine run_nil ?_
        refine run_block ?_
        refine run_loopC (σ := Nat) (ks := [3, 4, 53, 54]) (.cons rfl (.cons rfl (.cons rfl (.cons rfl (.nil))))) (fun j => [(55, dInt .i64 (j : Nat))]) (fun j => j ≤ (collP pd.1).kept.length) (fun j => (collP pd.1).kept.length - j) (0) ((by omega)) (.cons rfl (by first | exact fun _ _ h => h | exact d_int (by omega) | exact d_int (by simp) | exact d_intN (by omega) | exact d_any) .nil) ?_
        intro j hj ih12
        refine run_seq ?_
        refine run_region ?_
        refine run_op (loc_lss rfl rfl) rfl ?_
        refine run_nil ?_
        refine run_seq ?_
        refine run_cond rfl (fun h13 => ?_) (fun h13 => ?_)
        ·
          refine run_skip ?_
          refine run_seq ?_
          refine run_block ?_
          refine run_seq ?_
          refine run_region ?_
          refine run_op (loc_move rfl) rfl ?_
          first | refine run_op (loc_index rfl rfl (by first | omega | assumption)) rfl ?_ | refine run_op (loc_indexI rfl rfl (by first | omega | assumption)) rfl ?_
          refine run_op (loc_load1 rfl) rfl ?_
          refine run_op (loc_assign rfl) rfl ?_
          refine run_op (loc_assign rfl) rfl ?_
          refine run_nil ?_
          refine run_seq ?_
          refine run_region ?_
          refine run_op (loc_move rfl) rfl ?_
          first | refine run_op (loc_add rfl rfl (by first | omega | assumption)) rfl ?_ | refine run_op (loc_addW rfl rfl) rfl ?_
          refine run_op (loc_fieldAddrOwn rfl) rfl ?_
          refine run_op (loc_loadOwn1 rfl (by first | exact .here | exact .there .here | exact .there (.there .here) | exact .there (.there (.there .here)) | exact .there (.there (.there (.there .here))) | exact .there (.there (.there (.there (.there .here))))) (by rfl)) rfl ?_
          first | refine runL_fact (s := 63) rfl (fun _ _ h => dSl_len h) (fun hlen14 => ?_) | skip
          refine run_op (loc_len rfl) rfl ?_
          refine run_op (loc_lss rfl rfl) rfl ?_
          refine run_op (loc_move rfl) rfl ?_
          refine run_gfirst rfl rfl (by first | exact guard_true _ | exact guard_false _ | exact guard_if (guard_true _) | exact guard_if (guard_false _)) (fun hg => loc_loadOwnN rfl (by first | exact .here | exact .there .here | exact .there (.there .here) | exact .there (.there (.there .here)) | exact .there (.there (.there (.there .here))) | exact .there (.there (.there (.there (.there .here))))) (by rfl)) rfl ?_
          refine run_gop rfl rfl (by first | exact guard_true _ | exact guard_false _ | exact guard_if (guard_true _) | exact guard_if (guard_false _)) (fun hg => loc_move rfl) rfl ?_
          refine run_gop rfl rfl (by first | exact guard_true _ | exact guard_false _ | exact guard_if (guard_true _) | exact guard_if (guard_false _)) (fun hg => loc_call (named_spec _ _) rfl) rfl ?_
          refine run_gop rfl rfl (by first | exact guard_true _ | exact guard_false _ | exact guard_if (guard_true _) | exact guard_if (guard_false _)) (fun hg => loc_eql rfl rfl) rfl ?_
          refine run_gleave ?_
          refine run_op (loc_and rfl rfl) rfl ?_
          refine run_nil ?_
          refine run_cond rfl (fun h15 => ?_) (fun h15 => ?_)
          · exfalso; exact pinColl_b hok (show j < (collP pd.1).kept.length by omega) (by omega) (by omega)
          ·
            refine run_skip ?_
            refine run_inBlock ?_
            refine run_region ?_
            first | refine run_op (loc_add rfl rfl (by first | omega | assumption)) rfl ?_ | refine run_op (loc_addW rfl rfl) rfl ?_
            refine run_op (loc_move rfl) rfl ?_
            refine run_nil ?_
            exact run_againC ih12 (j + 1) (by omega) (by omega) (.cons rfl (by first | exact fun _ _ h => h | exact d_int (by omega) | exact d_int (by simp) | exact d_intN (by omega) | exact d_any) .nil) (.cons rfl (fun _ _ x => x) (.cons rfl (fun _ _ x => x) (.cons rfl (fun _ _ x => x) (.cons rfl (fun _ _ x => x) (.nil)))))
        ·
          refine run_exit rfl ?_
          refine run_seq ?_
          refine run_region ?_
          refine run_op (loc_loadOwnN rfl (by first | exact .here | exact .there .here | exact .there (.there .here) | exact .there (.there (.there .here)) | exact .there (.there (.there (.there .here))) | exact .there (.there (.there (.there (.there .here))))) (by rfl)) rfl ?_
          refine run_op (loc_call (collect_spec _ (by assumption) ⟨by omega, by omega⟩) rfl) rfl ?_
          refine run_op (loc_move rfl) rfl ?_
          refine run_op (loc_extract rfl rfl) rfl ?_
          refine run_op (loc_extract rfl rfl) rfl ?_
          refine run_new (loc_allocOwn (by simp)) rfl (fun b16 _ => ?_)
          refine run_storeN (ho := (by show OneAll [_, _]; infer_instance)) rfl rfl (by first | exact .here | exact .there .here | exact .there (.there .here) | exact .there (.there (.there .here)) | exact .there (.there (.there (.there .here))) | exact .there (.there (.there (.there (.there .here))))) (by rfl) ?_
          refine run_op (loc_assign rfl) rfl ?_
          refine run_nil ?_
          refine run_seq ?_
          refine run_seq ?_
          refine run_region ?_
          refine run_op (loc_move rfl) rfl ?_
          first | refine runL_fact (s := 78) rfl (fun _ _ h => dSl_len h) (fun hlen17 => ?_) | skip
          refine run_op (loc_len rfl) rfl ?_
          refine run_op (loc_neq rfl rfl) rfl ?_
          refine run_op (loc_move rfl) rfl ?_
          refine run_gfirst rfl rfl (by first | exact guard_true _ | exact guard_false _ | exact guard_if (guard_true _) | exact guard_if (guard_false _)) (fun hg => loc_loadOwnN rfl (by first | exact .here | exact .there .here | exact .there (.there .here) | exact .there (.there (.there .here)) | exact .there (.there (.there (.there .here))) | exact .there (.there (.there (.there (.there .here))))) (by rfl)) rfl ?_
          refine run_gop rfl rfl (by first | exact guard_true _ | exact guard_false _ | exact guard_if (guard_true _) | exact guard_if (guard_false _)) (fun hg => loc_loadOwnN rfl (by first | exact .here | exact .there .here | exact .there (.there .here) | exact .there (.there (.there .here)) | exact .there (.there (.there (.there .here))) | exact .there (.there (.there (.there (.there .here))))) (by rfl)) rfl ?_
          refine run_gop rfl rfl (by first | exact guard_true _ | exact guard_false _ | exact guard_if (guard_true _) | exact guard_if (guard_false _)) (fun hg => loc_call (rsameP_spec _ _) rfl) rfl ?_
          refine run_gop rfl rfl (by first | exact guard_true _ | exact guard_false _ | exact guard_if (guard_true _) | exact guard_if (guard_false _)) (fun hg => loc_not rfl) rfl ?_
          refine run_gleave ?_
          refine run_op (loc_or rfl rfl) rfl ?_
          refine run_nil ?_
          refine run_cond rfl (fun h18 => ?_) (fun h18 => ?_)
          · exfalso; rw [hga, hca] at h18; rcases h18 with hh | hh; (· exact hh rfl); (· exact hh rfl)
          ·
            refine run_skip ?_
            refine run_seq ?_
            refine run_seq ?_
            refine run_region ?_
            refine run_op (loc_fieldAddrOwn rfl) rfl ?_
            refine run_op (loc_loadOwn1 rfl (by first | exact .here | exact .there .here | exact .there (.there .here) | exact .there (.there (.there .here)) | exact .there (.there (.there (.there .here))) | exact .there (.there (.there (.there (.there .here))))) (by rfl)) rfl ?_
            first | refine runL_fact (s := 88) rfl (fun _ _ h => dSl_len h) (fun hlen19 => ?_) | skip
            refine run_op (loc_len rfl) rfl ?_
            refine run_op (loc_move rfl) rfl ?_
            refine run_nil ?_
            refine run_block ?_
            refine run_front (.there (.here)) ?_
            refine run_loopF (σ := Nat × Pins) (ks := [3, 4, 88, 89]) (.cons rfl (.cons rfl (.cons rfl (.cons rfl (.nil))))) (fun r => [(90, dInt .i64 (r.1 : Nat))]) (fun r => [rCells b4 26 (cPins r.2)]) (fun r => r.1 ≤ pd.1.rows.length ∧ okPins r.2 ∧ r.2.rows = pd.1.rows.drop r.1 ∧ r.2.kept = (collP pd.1).kept) (fun r => pd.1.rows.length - r.1) ((0, collP pd.1)) (⟨Nat.zero_le _, hokc, rfl, rfl⟩) (.cons rfl (by first | exact fun _ _ h => h | exact d_int (by omega) | exact d_int (by simp) | exact d_intN (by omega) | exact d_any) .nil) (rfl) ?_
            rintro r ⟨hle, hokr, hrr, hrk⟩ ih20
            have rone := hokr.one
            have rmost := hokr.most
            have rreads := hokr.reads
            have rnb := newest_bd hokr
            refine run_seq ?_
            refine run_region ?_
            refine run_op (loc_lss rfl rfl) rfl ?_
            refine run_nil ?_
            refine run_seq ?_
            refine run_cond rfl (fun h21 => ?_) (fun h21 => ?_)
            ·
              have hcl := pinColl_c hokr hrr (show r.1 < pd.1.rows.length by omega)
              refine run_skip ?_
              refine run_seq ?_
              refine run_block ?_
              refine run_seq ?_
              refine run_region ?_
              first | refine run_op (loc_index rfl rfl (by first | omega | assumption)) rfl ?_ | refine run_op (loc_indexI rfl rfl (by first | omega | assumption)) rfl ?_
              refine run_op (loc_loadN rfl rfl) rfl ?_
              refine run_new (loc_allocOwn (by simp)) rfl (fun b22 _ => ?_)
              refine run_storeN (ho := (by show OneAll [_, _]; infer_instance)) rfl rfl (by first | exact .here | exact .there .here | exact .there (.there .here) | exact .there (.there (.there .here)) | exact .there (.there (.there (.there .here))) | exact .there (.there (.there (.there (.there .here))))) (by rfl) ?_
              refine run_nil ?_
              refine run_seq ?_
              refine run_region ?_
              refine run_op (loc_loadOwnN rfl (by first | exact .here | exact .there .here | exact .there (.there .here) | exact .there (.there (.there .here)) | exact .there (.there (.there (.there .here))) | exact .there (.there (.there (.there (.there .here))))) (by rfl)) rfl ?_
              refine run_op (loc_fieldAddrOwn rfl) rfl ?_
              refine run_op (loc_loadOwn1 rfl (by first | exact .here | exact .there .here | exact .there (.there .here) | exact .there (.there (.there .here)) | exact .there (.there (.there (.there .here))) | exact .there (.there (.there (.there (.there .here))))) (by rfl)) rfl ?_
              refine run_op (loc_call (close_spec _ _ ⟨by omega, by omega⟩) rfl) rfl ?_
              refine run_op (loc_move rfl) rfl ?_
              refine run_op (loc_extract rfl rfl) rfl ?_
              refine run_op (loc_extract rfl rfl) rfl ?_
              refine run_new (loc_allocOwn (by simp)) rfl (fun b23 _ => ?_)
              refine run_storeN (ho := (by show OneAll [_, _]; infer_instance)) rfl rfl (by first | exact .here | exact .there .here | exact .there (.there .here) | exact .there (.there (.there .here)) | exact .there (.there (.there (.there .here))) | exact .there (.there (.there (.there (.there .here))))) (by rfl) ?_
              refine run_op (loc_assign rfl) rfl ?_
              refine run_nil ?_
              refine run_seq ?_
              refine run_seq ?_
              refine run_region ?_
              refine run_op (loc_move rfl) rfl ?_
              refine run_op (loc_neq rfl rfl) rfl ?_
              refine run_nil ?_
              refine run_cond rfl (fun h24 => ?_) (fun h24 => ?_)
              · exfalso; exact h24 hcl.1
              ·
                refine run_skip ?_
                refine run_region ?_
                refine run_op (loc_loadOwnN rfl (by first | exact .here | exact .there .here | exact .there (.there .here) | exact .there (.there (.there .here)) | exact .there (.there (.there (.there .here))) | exact .there (.there (.there (.there (.there .here))))) (by rfl)) rfl ?_
                refine run_storeN (ho := (by show OneAll [_, _]; infer_instance)) rfl rfl (by first | exact .here | exact .there .here | exact .there (.there .here) | exact .there (.there (.there .here)) | exact .there (.there (.there (.there .here))) | exact .there (.there (.there (.there (.there .here))))) (by rfl) ?_
                refine run_nil ?_
                refine run_inBlock ?_
                refine run_region ?_
                first | refine run_op (loc_add rfl rfl (by first | omega | assumption)) rfl ?_ | refine run_op (loc_addW rfl rfl) rfl ?_
                refine run_op (loc_move rfl) rfl ?_
                refine run_nil ?_
                refine run_drop (.cons _ (.cons _ (.refl _))) ?_
                exact run_againF ih20 ((r.1 + 1, closeP r.2 _)) (⟨by simp only; omega, close_ok hokr, hcl.2, by simp only; rw [close_kept]; exact hrk⟩) (by simp only; omega) (.cons rfl (by first | exact fun _ _ h => h | exact d_int (by omega) | exact d_int (by simp) | exact d_intN (by omega) | exact d_any) .nil) (.cons rfl (fun _ _ x => x) (.cons rfl (fun _ _ x => x) (.cons rfl (fun _ _ x => x) (.cons rfl (fun _ _ x => x) (.nil))))) (rfl)
            ·
              have hre : r.2.rows = [] := by rw [hrr]; exact List.drop_eq_nil_of_le (by omega)
              have hcr := coll_one hokr hre
              have hnr : newestP r.2 = newestP pd.1 := (newest_kept hrk).trans (coll_newest hok)
              refine run_exit rfl ?_
              refine run_seq ?_
              refine run_region ?_
              refine run_op (loc_loadOwnN rfl (by first | exact .here | exact .there .here | exact .there (.there .here) | exact .there (.there (.there .here)) | exact .there (.there (.there (.there .here))) | exact .there (.there (.there (.there (.there .here))))) (by rfl)) rfl ?_
              refine run_op (loc_call (collect_spec _ (by assumption) ⟨by omega, by omega⟩) rfl) rfl ?_
              refine run_op (loc_move rfl) rfl ?_
              refine run_op (loc_extract rfl rfl) rfl ?_
              refine run_op (loc_extract rfl rfl) rfl ?_
              refine run_storeN (ho := (by show OneAll [_, _]; infer_instance)) rfl rfl (by first | exact .here | exact .there .here | exact .there (.there .here) | exact .there (.there (.there .here)) | exact .there (.there (.there (.there .here))) | exact .there (.there (.there (.there (.there .here))))) (by rfl) ?_
              refine run_nil ?_
              have hlc : 0 < (collP r.2).kept.length := by rw [hcr]; simp
              refine run_seq ?_
              refine dr_start (Unit) (fun _ => True) 26 [⟨[(4, none)], [], none⟩,
                  ⟨[(110, some (0, false))], [0], some (0, 0, false)⟩,
                  ⟨[(111, some (1, false))], [0, 1], none⟩,
                  ⟨[(112, some (2, false))], [0, 1, 2], none⟩,
                  ⟨[(113, some (3, false))], [0, 1, 2, 3], none⟩,
                  ⟨[(4, none)], [0, 1, 2, 3, 4], none⟩,
                  ⟨[(115, some (5, true))], [0, 1, 2, 3, 4, 5], some (0, 0, false)⟩,
                  ⟨[(116, some (6, true))], [0, 1, 2, 3, 4, 5, 6], none⟩,
                  ⟨[(117, some (7, true))], [0, 1, 2, 3, 4, 5, 6, 7], none⟩,
                  ⟨[(114, some (4, false)), (118, some (8, false))], [0, 1, 2, 3, 4, 5, 6, 7, 8], none⟩,
                  ⟨[(119, some (9, false))], [0, 1, 2, 3, 4, 5, 6, 7, 8, 9], none⟩,
                  ⟨[(4, none)], [0, 1, 2, 3, 4, 5, 6, 7, 8, 9, 10], none⟩,
                  ⟨[(121, some (11, true))], [0, 1, 2, 3, 4, 5, 6, 7, 8, 9, 10, 11], some (0, 0, false)⟩,
                  ⟨[(122, some (12, true))], [0, 1, 2, 3, 4, 5, 6, 7, 8, 9, 10, 11, 12], none⟩,
                  ⟨[(123, some (13, true))], [0, 1, 2, 3, 4, 5, 6, 7, 8, 9, 10, 11, 12, 13], none⟩,
                  ⟨[(3, none)], [0, 1, 2, 3, 4, 5, 6, 7, 8, 9, 10], none⟩,
                  ⟨[(125, some (15, true))], [0, 1, 2, 3, 4, 5, 6, 7, 8, 9, 10, 15], some (2, 0, false)⟩,
                  ⟨[(3, none)], [0, 1, 2, 3, 4, 5, 6, 7, 8, 9, 10], none⟩,
                  ⟨[(127, some (17, true))], [0, 1, 2, 3, 4, 5, 6, 7, 8, 9, 10, 17], some (2, 0, false)⟩,
                  ⟨[(128, some (18, true))], [0, 1, 2, 3, 4, 5, 6, 7, 8, 9, 10, 17, 18], none⟩,
                  ⟨[(129, some (19, true))], [0, 1, 2, 3, 4, 5, 6, 7, 8, 9, 10, 17, 18, 19], none⟩,
                  ⟨[(126, some (16, true)), (130, some (20, true))], [0, 1, 2, 3, 4, 5, 6, 7, 8, 9, 10, 15, 16, 17, 18, 19, 20], none⟩,
                  ⟨[(131, some (21, true))], [0, 1, 2, 3, 4, 5, 6, 7, 8, 9, 10, 15, 16, 17, 18, 19, 20, 21], none⟩,
                  ⟨[(124, some (14, true)), (132, some (22, true))], [0, 1, 2, 3, 4, 5, 6, 7, 8, 9, 10, 11, 12, 13, 14, 15, 16, 17, 18, 19, 20, 21, 22], none⟩,
                  ⟨[(120, some (10, false)), (133, some (23, false))], [0, 1, 2, 3, 4, 5, 6, 7, 8, 9, 10, 11, 12, 13, 14, 15, 16, 17, 18, 19, 20, 21, 22, 23], none⟩,
                  ⟨[(134, some (24, false))], [0, 1, 2, 3, 4, 5, 6, 7, 8, 9, 10, 11, 12, 13, 14, 15, 16, 17, 18, 19, 20, 21, 22, 23, 24], none⟩] [_, _, _, _] _ rfl rfl ?_
              refine dq_pure rfl (fun s => .g rfl (.nil)) (fun s hs _ => loc_fieldAddrOwn rfl) (by first | exact .inl fun _ _ => rfl | exact .inr rfl) ?_
              refine dq_read rfl (fun s => .op rfl (.nil)) rfl rfl (fun s hs _ hm => loc_loadOwn1 rfl hm (by rfl)) (by first | exact .inl fun _ _ => rfl | exact .inr rfl) ?_
              refine dq_pure rfl (fun s => .op rfl (.nil)) (fun s hs _ => loc_len rfl) (by first | exact .inl fun _ _ => rfl | exact .inr rfl) ?_
              refine dq_pure rfl (fun s => .op rfl (.nil)) (fun s hs _ => loc_eql rfl rfl) (by first | exact .inl fun _ _ => rfl | exact .inr rfl) ?_
              refine dq_pure rfl (fun s => .op rfl (.nil)) (fun s hs _ => loc_move rfl) (by first | exact .inl fun _ _ => rfl | exact .inr rfl) ?_
              refine dq_gpure rfl (fun s => .g rfl (.nil)) rfl (fun _ => by first | exact guard_true _ | exact guard_false _ | exact guard_if (guard_true _) | exact guard_if (guard_false _)) (fun s hs hg _ => loc_fieldAddrOwn rfl) (by first | exact .inl fun _ _ => rfl | exact .inr rfl) ?_
              refine dq_gread rfl (fun s => .opU rfl (.nil)) rfl rfl rfl (fun _ => by first | exact guard_true _ | exact guard_false _ | exact guard_if (guard_true _) | exact guard_if (guard_false _)) (fun s hs hg _ hm => loc_loadOwn1 rfl hm (by rfl)) (by first | exact .inl fun _ _ => rfl | exact .inr rfl) ?_
              refine dq_gpure rfl (fun s => .opU rfl (.nil)) rfl (fun _ => by first | exact guard_true _ | exact guard_false _ | exact guard_if (guard_true _) | exact guard_if (guard_false _)) (fun s hs hg _ => loc_len rfl) (by first | exact .inl fun _ _ => rfl | exact .inr rfl) ?_
              refine dq_gpure rfl (fun s => .opU rfl (.nil)) rfl (fun _ => by first | exact guard_true _ | exact guard_false _ | exact guard_if (guard_true _) | exact guard_if (guard_false _)) (fun s hs hg _ => loc_eql rfl rfl) (by first | exact .inl fun _ _ => rfl | exact .inr rfl) ?_
              refine dq_pure rfl (fun s => .op rfl (.op rfl (.nil))) (fun s hs _ => loc_and rfl rfl) (by first | exact .inl fun _ _ => rfl | exact .inr rfl) ?_
              refine dq_pure rfl (fun s => .op rfl (.nil)) (fun s hs _ => loc_move rfl) (by first | exact .inl fun _ _ => rfl | exact .inr rfl) ?_
              refine dq_gpure rfl (fun s => .g rfl (.nil)) rfl (fun _ => by first | exact guard_true _ | exact guard_false _ | exact guard_if (guard_true _) | exact guard_if (guard_false _)) (fun s hs hg _ => loc_fieldAddrOwn rfl) (by first | exact .inl fun _ _ => rfl | exact .inr rfl) ?_
              refine dq_gread rfl (fun s => .opU rfl (.nil)) rfl rfl rfl (fun _ => by first | exact guard_true _ | exact guard_false _ | exact guard_if (guard_true _) | exact guard_if (guard_false _)) (fun s hs hg _ hm => loc_loadOwn1 rfl hm (by rfl)) (by first | exact .inl fun _ _ => rfl | exact .inr rfl) ?_
              first | refine dq_gpure rfl (fun s => .opU rfl (.nil)) rfl (fun _ => by first | exact guard_true _ | exact guard_false _ | exact guard_if (guard_true _) | exact guard_if (guard_false _)) (fun s hs hg _ => loc_index rfl rfl (by first | omega | assumption)) (by first | exact .inl fun _ _ => rfl | exact .inr rfl) ?_ | refine dq_gpure rfl (fun s => .opU rfl (.nil)) rfl (fun _ => by first | exact guard_true _ | exact guard_false _ | exact guard_if (guard_true _) | exact guard_if (guard_false _)) (fun s hs hg _ => loc_indexI rfl rfl (by first | omega | assumption)) (by first | exact .inl fun _ _ => rfl | exact .inr rfl) ?_
              refine dq_gpure rfl (fun s => .opU rfl (.nil)) rfl (fun _ => by first | exact guard_true _ | exact guard_false _ | exact guard_if (guard_true _) | exact guard_if (guard_false _)) (fun s hs hg _ => loc_load1 rfl) (by first | exact .inl fun _ _ => rfl | exact .inr rfl) ?_
              refine dq_gpure rfl (fun s => .g rfl (.nil)) rfl (fun _ => by first | exact guard_true _ | exact guard_false _ | exact guard_if (guard_true _) | exact guard_if (guard_false _)) (fun s hs hg _ => loc_fieldAddrOwn rfl) (by first | exact .inl fun _ _ => rfl | exact .inr rfl) ?_
              refine dq_gread rfl (fun s => .opU rfl (.nil)) rfl rfl rfl (fun _ => by first | exact guard_true _ | exact guard_false _ | exact guard_if (guard_true _) | exact guard_if (guard_false _)) (fun s hs hg _ hm => loc_loadOwn1 rfl hm (by rfl)) (by first | exact .inl fun _ _ => rfl | exact .inr rfl) ?_
              refine dq_gpure rfl (fun s => .g rfl (.nil)) rfl (fun _ => by first | exact guard_true _ | exact guard_false _ | exact guard_if (guard_true _) | exact guard_if (guard_false _)) (fun s hs hg _ => loc_fieldAddrOwn rfl) (by first | exact .inl fun _ _ => rfl | exact .inr rfl) ?_
              refine dq_gread rfl (fun s => .opU rfl (.nil)) rfl rfl rfl (fun _ => by first | exact guard_true _ | exact guard_false _ | exact guard_if (guard_true _) | exact guard_if (guard_false _)) (fun s hs hg _ hm => loc_loadOwn1 rfl hm (by rfl)) (by first | exact .inl fun _ _ => rfl | exact .inr rfl) ?_
              refine dq_gpure rfl (fun s => .opU rfl (.nil)) rfl (fun _ => by first | exact guard_true _ | exact guard_false _ | exact guard_if (guard_true _) | exact guard_if (guard_false _)) (fun s hs hg _ => loc_len rfl) (by first | exact .inl fun _ _ => rfl | exact .inr rfl) ?_
              first | refine dq_gpure rfl (fun s => .opU rfl (.nil)) rfl (fun _ => by first | exact guard_true _ | exact guard_false _ | exact guard_if (guard_true _) | exact guard_if (guard_false _)) (fun s hs hg _ => loc_sub rfl rfl (by first | omega | assumption)) (by first | exact .inl fun _ _ => rfl | exact .inr rfl) ?_ | refine dq_gpure rfl (fun s => .opU rfl (.nil)) rfl (fun _ => by first | exact guard_true _ | exact guard_false _ | exact guard_if (guard_true _) | exact guard_if (guard_false _)) (fun s hs hg _ => loc_subW rfl rfl) (by first | exact .inl fun _ _ => rfl | exact .inr rfl) ?_
              first | refine dq_gpure rfl (fun s => .opU rfl (.opU rfl (.nil))) rfl (fun _ => by first | exact guard_true _ | exact guard_false _ | exact guard_if (guard_true _) | exact guard_if (guard_false _)) (fun s hs hg _ => loc_index rfl rfl (by first | omega | assumption)) (by first | exact .inl fun _ _ => rfl | exact .inr rfl) ?_ | refine dq_gpure rfl (fun s => .opU rfl (.opU rfl (.nil))) rfl (fun _ => by first | exact guard_true _ | exact guard_false _ | exact guard_if (guard_true _) | exact guard_if (guard_false _)) (fun s hs hg _ => loc_indexI rfl rfl (by first | omega | assumption)) (by first | exact .inl fun _ _ => rfl | exact .inr rfl) ?_
              refine dq_gpure rfl (fun s => .opU rfl (.nil)) rfl (fun _ => by first | exact guard_true _ | exact guard_false _ | exact guard_if (guard_true _) | exact guard_if (guard_false _)) (fun s hs hg _ => loc_load1 rfl) (by first | exact .inl fun _ _ => rfl | exact .inr rfl) ?_
              refine dq_gpure rfl (fun s => .opU rfl (.opU rfl (.nil))) rfl (fun _ => by first | exact guard_true _ | exact guard_false _ | exact guard_if (guard_true _) | exact guard_if (guard_false _)) (fun s hs hg _ => loc_eql rfl rfl) (by first | exact .inl fun _ _ => rfl | exact .inr rfl) ?_
              refine dq_pure rfl (fun s => .op rfl (.op rfl (.nil))) (fun s hs _ => loc_and rfl rfl) (by first | exact .inl fun _ _ => rfl | exact .inr rfl) ?_
              refine dq_pure rfl (fun s => .op rfl (.nil)) (fun s hs _ => loc_assign rfl) (by first | exact .inl fun _ _ => rfl | exact .inr rfl) ?_
              refine dq_end (rs := [_, _, _, _]) () rfl (fun _ => rfl) (fun _ _ => trivial) rfl (fun _ _ => ?_)
              dsimp only [outG, outM, List.map, List.set]
              refine run_drop (.cons _ (.cons _ (.cons _ (.cons _ (.refl _))))) ?_
              refine run_retP Try.func5 rfl rfl ?_
              exact d_B ⟨fun _ => trivial, fun _ => by have e1 : (collP r.2).rows = [] := hre; rw [hcr, e1]; refine ⟨⟨rfl, rfl⟩, ?_⟩; show newestP r.2 = _; rw [hnr]; unfold newestP; congr 2; omega⟩

end Go.Q
