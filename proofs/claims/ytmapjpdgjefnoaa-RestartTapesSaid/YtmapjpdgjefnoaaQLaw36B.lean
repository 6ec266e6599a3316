/- The law of the numbers of a read. -/
import Derived.Test.YtmapjpdgjefnoaaQDiskS
import Derived.Test.YtmapjpdgjefnoaaQPlainR3
set_option linter.unusedVariables false
set_option linter.unusedSimpArgs false
namespace Go.Q
open Go.Proofs

open Classical
theorem dice_okT {xs : List Int} (h : ∀ x ∈ xs, 0 ≤ x ∧ x ≤ 255) : okDc ⟨xs.take 300, 0⟩ := ⟨fun x hm => h x (List.mem_of_mem_take hm), by simp; omega⟩
theorem restartTapes_spec (xs : List Int) (sk dr : Int) (hx : ∀ x ∈ xs, 0 ≤ x ∧ x ≤ 255) (hsk : 0 ≤ sk ∧ sk ≤ 255) (hdr : 0 ≤ dr ∧ dr ≤ 255) : SpecP Try.prog 8 [dBy xs, dInt .u8 sk, dInt .u8 dr] (dB True) := by
  refine specP_of_body Try.func8 rfl rfl (fun I M => ?_)
  refine run_seq ?_
  refine run_region ?_
  refine run_op (loc_assign rfl) rfl ?_
  refine run_nil ?_
  refine run_seq ?_
  refine run_seq ?_
  refine run_region ?_
  refine run_op (loc_call (sane36_spec) rfl) rfl ?_
  refine run_op (loc_not rfl) rfl ?_
  refine run_nil ?_
  refine run_cond rfl (fun h1 => ?_) (fun h1 => ?_)
  · exfalso; exact h1 trivial
  ·
    refine run_skip ?_
    refine run_seq ?_
    refine run_region ?_
    refine run_op (loc_move rfl) rfl ?_
    refine run_callN rfl (dnew_spec _) rfl (fun v2 hv2 => ?_)
    refine run_op (loc_assign rfl) rfl ?_
    refine run_nil ?_
    have hd0 := dice_okT hx
    have hd1 := Dc.next_ok hd0
    have hv1 := Dc.val_nonneg (d := (⟨xs.take 300, 0⟩ : Dc)) (n := 250) (by omega)
    have hv2 := Dc.val_lt (d := (⟨xs.take 300, 0⟩ : Dc)) (n := 250) (by omega)
    have hv3 := Dc.val_nonneg (d := Dc.next (⟨xs.take 300, 0⟩ : Dc)) (n := 40) (by omega)
    have hv4 := Dc.val_lt (d := Dc.next (⟨xs.take 300, 0⟩ : Dc)) (n := 40) (by omega)
    obtain ⟨f1, f2, f3, f4, f5, f6, f7, f8, f9⟩ := tapes_of (seed := (1 + Dc.val (⟨xs.take 300, 0⟩ : Dc) 250)) (p := (2 + Dc.val (Dc.next (⟨xs.take 300, 0⟩ : Dc)) 40)) (a := (sk % 20)) (b := (dr % 20)) (by omega) (by omega) (by omega) (by omega)
    have pmost := f2.most
    have pdr := f2.drawn
    have qmost := f4.most
    have qdr := f4.drawn
    refine run_seq ?_
    refine run_region ?_
    refine run_op (loc_move rfl) rfl ?_
    refine run_callM rfl (by first | exact .here | exact .there .here | exact .there (.there .here) | exact .there (.there (.there .here)) | exact .there (.there (.there (.there .here))) | exact .there (.there (.there (.there (.there .here))))) (pick_spec _ _ _ (by assumption) (by omega)) rfl (fun s3 hs3 => ?_)
    first | refine run_op (loc_add rfl rfl (by first | omega | assumption)) rfl ?_ | refine run_op (loc_addW rfl rfl) rfl ?_
    refine run_op (loc_move rfl) rfl ?_
    refine run_callM rfl (by first | exact .here | exact .there .here | exact .there (.there .here) | exact .there (.there (.there .here)) | exact .there (.there (.there (.there .here))) | exact .there (.there (.there (.there (.there .here))))) (pick_spec _ _ _ (by assumption) (by omega)) rfl (fun s4 hs4 => ?_)
    first | refine run_op (loc_add rfl rfl (by first | omega | assumption)) rfl ?_ | refine run_op (loc_addW rfl rfl) rfl ?_
    refine run_op (loc_assign rfl) rfl ?_
    refine run_op (loc_assign rfl) rfl ?_
    refine run_nil ?_
    refine run_seq ?_
    refine run_region ?_
    refine run_op (loc_move rfl) rfl ?_
    first | refine run_op (loc_conv rfl (by first | omega | assumption)) rfl ?_ | refine run_op (loc_convW rfl) rfl ?_
    first | refine run_op (loc_rem rfl rfl (by first | omega | assumption)) rfl ?_ | refine run_op (loc_remW rfl rfl (by first | omega | assumption)) rfl ?_
    refine run_op (loc_move rfl) rfl ?_
    first | refine run_op (loc_conv rfl (by first | omega | assumption)) rfl ?_ | refine run_op (loc_convW rfl) rfl ?_
    first | refine run_op (loc_rem rfl rfl (by first | omega | assumption)) rfl ?_ | refine run_op (loc_remW rfl rfl (by first | omega | assumption)) rfl ?_
    refine run_op (loc_assign rfl) rfl ?_
    refine run_op (loc_assign rfl) rfl ?_
    refine run_nil ?_
    refine run_seq ?_
    refine run_region ?_
    refine run_op (loc_move rfl) rfl ?_
    refine run_op (loc_call (newD_spec _) rfl) rfl ?_
    refine run_op (loc_move rfl) rfl ?_
    refine run_op (loc_extract rfl rfl) rfl ?_
    refine run_op (loc_extract rfl rfl) rfl ?_
    refine run_new (loc_allocOwn (by simp)) rfl (fun b5 _ => ?_)
    refine run_storeN (ho := (by show OneAll [_, _, _]; infer_instance)) rfl rfl (by first | exact .here | exact .there .here | exact .there (.there .here) | exact .there (.there (.there .here)) | exact .there (.there (.there (.there .here))) | exact .there (.there (.there (.there (.there .here))))) (by rfl) ?_
    refine run_op (loc_assign rfl) rfl ?_
    refine run_nil ?_
    refine run_seq ?_
    refine run_region ?_
    refine run_op (loc_loadOwnN rfl (by first | exact .here | exact .there .here | exact .there (.there .here) | exact .there (.there (.there .here)) | exact .there (.there (.there (.there .here))) | exact .there (.there (.there (.there (.there .here))))) (by rfl)) rfl ?_
    refine run_op (loc_move rfl) rfl ?_
    refine run_op (loc_call (begin_spec _ _ _ _ _ (by omega) (by omega)) rfl) rfl ?_
    refine run_op (loc_move rfl) rfl ?_
    refine run_op (loc_extract rfl rfl) rfl ?_
    refine run_op (loc_extract rfl rfl) rfl ?_
    refine run_op (loc_extract rfl rfl) rfl ?_
    refine run_new (loc_allocOwn (by simp)) rfl (fun b6 _ => ?_)
    refine run_storeN (ho := (by show OneAll [_, _, _]; infer_instance)) rfl rfl (by first | exact .here | exact .there .here | exact .there (.there .here) | exact .there (.there (.there .here)) | exact .there (.there (.there (.there .here))) | exact .there (.there (.there (.there (.there .here))))) (by rfl) ?_
    refine run_storeN (ho := (by show OneAll [_, _]; infer_instance)) rfl rfl (by first | exact .here | exact .there .here | exact .there (.there .here) | exact .there (.there (.there .here)) | exact .there (.there (.there (.there .here))) | exact .there (.there (.there (.there (.there .here))))) (by rfl) ?_
    refine run_op (loc_assign rfl) rfl ?_
    refine run_nil ?_
    refine run_seq ?_
    refine run_region ?_
    refine run_op (loc_loadOwnN rfl (by first | exact .here | exact .there .here | exact .there (.there .here) | exact .there (.there (.there .here)) | exact .there (.there (.there (.there .here))) | exact .there (.there (.there (.there (.there .here))))) (by rfl)) rfl ?_
    refine run_op (loc_move rfl) rfl ?_
    refine run_op (loc_move rfl) rfl ?_
    refine run_op (loc_call (begin_spec _ _ _ _ _ (by omega) (by omega)) rfl) rfl ?_
    refine run_op (loc_move rfl) rfl ?_
    refine run_op (loc_extract rfl rfl) rfl ?_
    refine run_op (loc_extract rfl rfl) rfl ?_
    refine run_op (loc_extract rfl rfl) rfl ?_
    refine run_new (loc_allocOwn (by simp)) rfl (fun b7 _ => ?_)
    refine run_new (loc_allocOwn (by simp)) rfl (fun b8 _ => ?_)
    refine run_storeN (ho := (by show OneAll [_, _, _]; infer_instance)) rfl rfl (by first | exact .here | exact .there .here | exact .there (.there .here) | exact .there (.there (.there .here)) | exact .there (.there (.there (.there .here))) | exact .there (.there (.there (.there (.there .here))))) (by rfl) ?_
    refine run_storeN (ho := (by show OneAll [_, _]; infer_instance)) rfl rfl (by first | exact .here | exact .there .here | exact .there (.there .here) | exact .there (.there (.there .here)) | exact .there (.there (.there (.there .here))) | exact .there (.there (.there (.there (.there .here))))) (by rfl) ?_
    refine run_op (loc_assign rfl) rfl ?_
    refine run_nil ?_
    refine run_seq ?_
    refine run_region ?_
    refine run_op (loc_move rfl) rfl ?_
    refine run_op (loc_move rfl) rfl ?_
    first | refine run_op (loc_add rfl rfl (by first | omega | assumption)) rfl ?_ | refine run_op (loc_addW rfl rfl) rfl ?_
    refine run_new (loc_makeSlice rfl rfl (by omega) (by omega) (fun x : Int => dInt .i64 x) 0 rfl (by simp)) rfl (fun v64 _ => ?_)
    refine run_op (loc_assign rfl) rfl ?_
    refine run_nil ?_
    refine run_seq ?_
    refine run_seq ?_
    refine run_region ?_
    refine run_op (loc_move rfl) rfl ?_
    refine run_op (loc_lenRow rfl (by first | exact .here | exact .there .here | exact .there (.there .here) | exact .there (.there (.there .here)) | exact .there (.there (.there (.there .here))) | exact .there (.there (.there (.there (.there .here)))))) rfl ?_
    refine run_op (loc_move rfl) rfl ?_
    refine run_nil ?_
    refine run_block ?_
    refine run_loopF (σ := Nat) (ks := [8, 9, 10, 11, 13, 15, 17, 18, 19, 66]) (.cons rfl (.cons rfl (.cons rfl (.cons rfl (.cons rfl (.cons rfl (.cons rfl (.cons rfl (.cons rfl (.cons rfl (.nil))))))))))) (fun k => [(67, dInt .i64 (k : Nat))]) (fun k => [rRow (.slice (some ⟨v64, 0, none⟩) ((sk % 20) + (dr % 20)).toNat ((sk % 20) + (dr % 20)).toNat) 3 1 fI (setL1 (sk % 20) (2 + Dc.val (Dc.next (⟨xs.take 300, 0⟩ : Dc)) 40) (List.replicate ((sk % 20) + (dr % 20)).toNat 0) k)]) (fun k => k ≤ ((sk % 20) + (dr % 20)).toNat) (fun k => ((sk % 20) + (dr % 20)).toNat - k) (0) ((by omega)) (.cons rfl (by first | exact fun _ _ h => h | exact d_int (by omega) | exact d_int (by simp) | exact d_intN (by omega) | exact d_any) .nil) (rfl) ?_
    intro k hk ih9
    have hsl := setL1_len (sk % 20) (2 + Dc.val (Dc.next (⟨xs.take 300, 0⟩ : Dc)) 40) (List.replicate ((sk % 20) + (dr % 20)).toNat 0) k
    have hrl : (List.replicate ((sk % 20) + (dr % 20)).toNat (0 : Int)).length = ((sk % 20) + (dr % 20)).toNat := List.length_replicate
    refine run_seq ?_
    refine run_region ?_
    refine run_op (loc_lss rfl rfl) rfl ?_
    refine run_nil ?_
    refine run_seq ?_
    refine run_cond rfl (fun h10 => ?_) (fun h10 => ?_)
    ·
      refine run_skip ?_
      refine run_seq ?_
      refine run_block ?_
      refine run_seq ?_
      refine run_region ?_
      refine run_op (loc_move rfl) rfl ?_
      refine run_op (loc_assign rfl) rfl ?_
      refine run_nil ?_
      refine run_seq ?_
      refine run_region ?_
      refine run_op (loc_move rfl) rfl ?_
      refine run_op (loc_move rfl) rfl ?_
      first | refine run_op (loc_indexRow rfl rfl (by first | omega | assumption)) rfl ?_ | refine run_op (loc_indexRowI rfl rfl (by first | omega | assumption)) rfl ?_
      refine run_storeRow1 rfl (by first | exact .here | exact .there .here | exact .there (.there .here) | exact .there (.there (.there .here)) | exact .there (.there (.there (.there .here))) | exact .there (.there (.there (.there (.there .here))))) rfl (by rfl) (by first | omega | assumption) ?_
      refine run_nil ?_
      refine run_seq ?_
      refine run_region ?_
      refine run_op (loc_move rfl) rfl ?_
      refine run_op (loc_move rfl) rfl ?_
      refine run_op (loc_geq rfl rfl) rfl ?_
      refine run_nil ?_
      refine run_cond rfl (fun h11 => ?_) (fun h11 => ?_)
      ·
        have c1 := h11
        have hs2 : ((setL1 (sk % 20) (2 + Dc.val (Dc.next (⟨xs.take 300, 0⟩ : Dc)) 40) (List.replicate ((sk % 20) + (dr % 20)).toNat 0) k).set k 1).length = ((sk % 20) + (dr % 20)).toNat := by rw [List.length_set, hsl, List.length_replicate]
        refine run_region ?_
        refine run_op (loc_move rfl) rfl ?_
        refine run_op (loc_move rfl) rfl ?_
        refine run_op (loc_move rfl) rfl ?_
        first | refine run_op (loc_indexRow rfl rfl (by first | omega | assumption)) rfl ?_ | refine run_op (loc_indexRowI rfl rfl (by first | omega | assumption)) rfl ?_
        refine run_storeRow1 rfl (by first | exact .here | exact .there .here | exact .there (.there .here) | exact .there (.there (.there .here)) | exact .there (.there (.there (.there .here))) | exact .there (.there (.there (.there (.there .here))))) rfl (by rfl) (by first | omega | assumption) ?_
        refine run_nil ?_
        refine run_inBlock ?_
        refine run_region ?_
        first | refine run_op (loc_add rfl rfl (by first | omega | assumption)) rfl ?_ | refine run_op (loc_addW rfl rfl) rfl ?_
        refine run_op (loc_move rfl) rfl ?_
        refine run_nil ?_
        exact run_againF ih9 (k + 1) (by omega) (by omega) (.cons rfl (by first | exact fun _ _ h => h | exact d_int (by omega) | exact d_int (by simp) | exact d_intN (by omega) | exact d_any) .nil) (.cons rfl (fun _ _ x => x) (.cons rfl (fun _ _ x => x) (.cons rfl (fun _ _ x => x) (.cons rfl (fun _ _ x => x) (.cons rfl (fun _ _ x => x) (.cons rfl (fun _ _ x => x) (.cons rfl (fun _ _ x => x) (.cons rfl (fun _ _ x => x) (.cons rfl (fun _ _ x => x) (.cons rfl (fun _ _ x => x) (.nil))))))))))) (by simp only [appR, setL1]; rw [if_pos (by omega)])
      ·
        have c1 := h11
        refine run_skip ?_
        refine run_inBlock ?_
        refine run_region ?_
        first | refine run_op (loc_add rfl rfl (by first | omega | assumption)) rfl ?_ | refine run_op (loc_addW rfl rfl) rfl ?_
        refine run_op (loc_move rfl) rfl ?_
        refine run_nil ?_
        exact run_againF ih9 (k + 1) (by omega) (by omega) (.cons rfl (by first | exact fun _ _ h => h | exact d_int (by omega) | exact d_int (by simp) | exact d_intN (by omega) | exact d_any) .nil) (.cons rfl (fun _ _ x => x) (.cons rfl (fun _ _ x => x) (.cons rfl (fun _ _ x => x) (.cons rfl (fun _ _ x => x) (.cons rfl (fun _ _ x => x) (.cons rfl (fun _ _ x => x) (.cons rfl (fun _ _ x => x) (.cons rfl (fun _ _ x => x) (.cons rfl (fun _ _ x => x) (.cons rfl (fun _ _ x => x) (.nil))))))))))) (by simp only [appR, setL1]; rw [if_neg (by omega)])
    ·
      refine run_exit rfl ?_
      refine run_seq ?_
      refine run_freezeRow (s := 19) rfl (.here) ?_
      refine run_recast (s := 19) rfl (d_eq (d' := dInts (List.replicate ((sk % 20)).toNat 1 ++ List.replicate ((dr % 20)).toNat (2 + Dc.val (Dc.next (⟨xs.take 300, 0⟩ : Dc)) 40))) (by rw [show k = ((sk % 20) + (dr % 20)).toNat by omega, setL1_all (by omega) (by omega)])) ?_
      refine run_region ?_
      refine run_op (loc_move rfl) rfl ?_
      refine run_op (loc_move rfl) rfl ?_
      refine run_op (loc_call (rseeded_spec _ _) rfl) rfl ?_
      refine run_op (loc_move rfl) rfl ?_
      refine run_op (loc_extract rfl rfl) rfl ?_
      refine run_op (loc_extract rfl rfl) rfl ?_
      refine run_new (loc_allocOwn (by simp)) rfl (fun b12 _ => ?_)
      refine run_storeN (ho := (by show OneAll [_, _]; infer_instance)) rfl rfl (by first | exact .here | exact .there .here | exact .there (.there .here) | exact .there (.there (.there .here)) | exact .there (.there (.there (.there .here))) | exact .there (.there (.there (.there (.there .here))))) (by rfl) ?_
      refine run_op (loc_assign rfl) rfl ?_
      refine run_nil ?_
      refine run_seq ?_
      refine run_seq ?_
      refine run_region ?_
      refine run_op (loc_move rfl) rfl ?_
      refine run_op (loc_neq rfl rfl) rfl ?_
      refine run_op (loc_move rfl) rfl ?_
      refine run_gfirst rfl rfl (by first | exact guard_true _ | exact guard_false _ | exact guard_if (guard_true _) | exact guard_if (guard_false _)) (fun hg => loc_move rfl) rfl ?_
      refine run_gop rfl rfl (by first | exact guard_true _ | exact guard_false _ | exact guard_if (guard_true _) | exact guard_if (guard_false _)) (fun hg => loc_neq rfl rfl) rfl ?_
      refine run_gleave ?_
      refine run_op (loc_or rfl rfl) rfl ?_
      refine run_op (loc_move rfl) rfl ?_
      refine run_gfirst rfl rfl (by first | exact guard_true _ | exact guard_false _ | exact guard_if (guard_true _) | exact guard_if (guard_false _)) (fun hg => loc_move rfl) rfl ?_
      refine run_gop rfl rfl (by first | exact guard_true _ | exact guard_false _ | exact guard_if (guard_true _) | exact guard_if (guard_false _)) (fun hg => loc_neq rfl rfl) rfl ?_
      refine run_gleave ?_
      refine run_op (loc_or rfl rfl) rfl ?_
      refine run_op (loc_move rfl) rfl ?_
      refine run_gfirst rfl rfl (by first | exact guard_true _ | exact guard_false _ | exact guard_if (guard_true _) | exact guard_if (guard_false _)) (fun hg => loc_move rfl) rfl ?_
      refine run_gop rfl rfl (by first | exact guard_true _ | exact guard_false _ | exact guard_if (guard_true _) | exact guard_if (guard_false _)) (fun hg => loc_neq rfl rfl) rfl ?_
      refine run_gleave ?_
      refine run_op (loc_or rfl rfl) rfl ?_
      refine run_op (loc_move rfl) rfl ?_
      refine run_gfirst rfl rfl (by first | exact guard_true _ | exact guard_false _ | exact guard_if (guard_true _) | exact guard_if (guard_false _)) (fun hg => loc_fieldAddrOwn rfl) rfl ?_
      refine run_gop rfl rfl (by first | exact guard_true _ | exact guard_false _ | exact guard_if (guard_true _) | exact guard_if (guard_false _)) (fun hg => loc_loadOwn1 rfl (by first | exact .here | exact .there .here | exact .there (.there .here) | exact .there (.there (.there .here)) | exact .there (.there (.there (.there .here))) | exact .there (.there (.there (.there (.there .here))))) (by rfl)) rfl ?_
      refine run_gop rfl rfl (by first | exact guard_true _ | exact guard_false _ | exact guard_if (guard_true _) | exact guard_if (guard_false _)) (fun hg => loc_len rfl) rfl ?_
      refine run_gop rfl rfl (by first | exact guard_true _ | exact guard_false _ | exact guard_if (guard_true _) | exact guard_if (guard_false _)) (fun hg => loc_move rfl) rfl ?_
      refine run_gop rfl rfl (by first | exact guard_true _ | exact guard_false _ | exact guard_if (guard_true _) | exact guard_if (guard_false _)) (fun hg => loc_neq rfl rfl) rfl ?_
      refine run_gleave ?_
      refine run_op (loc_or rfl rfl) rfl ?_
      refine run_nil ?_
      refine run_cond rfl (fun h13 => ?_) (fun h13 => ?_)
      · exfalso; rw [f1, f3, f5, f6, f7] at h13; omega
      ·
        refine run_skip ?_
        refine run_seq ?_
        refine run_seq ?_
        refine run_region ?_
        refine run_op (loc_fieldAddrOwn rfl) rfl ?_
        refine run_op (loc_loadOwn1 rfl (by first | exact .here | exact .there .here | exact .there (.there .here) | exact .there (.there (.there .here)) | exact .there (.there (.there (.there .here))) | exact .there (.there (.there (.there (.there .here))))) (by rfl)) rfl ?_
        first | refine runL_fact (s := 109) rfl (fun _ _ h => dSl_len h) (fun hlen14 => ?_) | skip
        refine run_op (loc_len rfl) rfl ?_
        refine run_op (loc_move rfl) rfl ?_
        refine run_nil ?_
        refine run_block ?_
        refine run_loopC (σ := Nat) (ks := [10, 21, 109, 110]) (.cons rfl (.cons rfl (.cons rfl (.cons rfl (.nil))))) (fun i => [(111, dInt .i64 (i : Nat))]) (fun i => i ≤ (beginT (beginD (newD (1 + Dc.val (⟨xs.take 300, 0⟩ : Dc) 250)) 0 1 3 (sk % 20)) 1 1 (2 + Dc.val (Dc.next (⟨xs.take 300, 0⟩ : Dc)) 40) (dr % 20)).numbers.length) (fun i => (beginT (beginD (newD (1 + Dc.val (⟨xs.take 300, 0⟩ : Dc) 250)) 0 1 3 (sk % 20)) 1 1 (2 + Dc.val (Dc.next (⟨xs.take 300, 0⟩ : Dc)) 40) (dr % 20)).numbers.length - i) (0) ((by omega)) (.cons rfl (by first | exact fun _ _ h => h | exact d_int (by omega) | exact d_int (by simp) | exact d_intN (by omega) | exact d_any) .nil) ?_
        intro i hi ih15
        refine run_seq ?_
        refine run_region ?_
        refine run_op (loc_lss rfl rfl) rfl ?_
        refine run_nil ?_
        refine run_seq ?_
        refine run_cond rfl (fun h16 => ?_) (fun h16 => ?_)
        ·
          refine run_skip ?_
          refine run_seq ?_
          refine run_block ?_
          refine run_seq ?_
          refine run_region ?_
          refine run_op (loc_move rfl) rfl ?_
          first | refine run_op (loc_index rfl rfl (by first | omega | assumption)) rfl ?_ | refine run_op (loc_indexI rfl rfl (by first | omega | assumption)) rfl ?_
          refine run_op (loc_load1 rfl) rfl ?_
          refine run_op (loc_assign rfl) rfl ?_
          refine run_op (loc_assign rfl) rfl ?_
          refine run_nil ?_
          refine run_seq ?_
          refine run_region ?_
          refine run_op (loc_fieldAddrOwn rfl) rfl ?_
          refine run_op (loc_loadOwn1 rfl (by first | exact .here | exact .there .here | exact .there (.there .here) | exact .there (.there (.there .here)) | exact .there (.there (.there (.there .here))) | exact .there (.there (.there (.there (.there .here))))) (by rfl)) rfl ?_
          refine run_op (loc_move rfl) rfl ?_
          refine run_op (loc_move rfl) rfl ?_
          first | refine run_op (loc_add rfl rfl (by first | omega | assumption)) rfl ?_ | refine run_op (loc_addW rfl rfl) rfl ?_
          first | refine run_op (loc_index rfl rfl (by first | omega | assumption)) rfl ?_ | refine run_op (loc_indexI rfl rfl (by first | omega | assumption)) rfl ?_
          refine run_op (loc_load1 rfl) rfl ?_
          refine run_op (loc_move rfl) rfl ?_
          refine run_op (loc_neq rfl rfl) rfl ?_
          refine run_nil ?_
          refine run_cond rfl (fun h17 => ?_) (fun h17 => ?_)
          · exfalso; refine h17 ?_; rw [← f8, drop_getD]; congr 2; omega
          ·
            refine run_skip ?_
            refine run_inBlock ?_
            refine run_region ?_
            first | refine run_op (loc_add rfl rfl (by first | omega | assumption)) rfl ?_ | refine run_op (loc_addW rfl rfl) rfl ?_
            refine run_op (loc_move rfl) rfl ?_
            refine run_nil ?_
            exact run_againC ih15 (i + 1) (by omega) (by omega) (.cons rfl (by first | exact fun _ _ h => h | exact d_int (by omega) | exact d_int (by simp) | exact d_intN (by omega) | exact d_any) .nil) (.cons rfl (fun _ _ x => x) (.cons rfl (fun _ _ x => x) (.cons rfl (fun _ _ x => x) (.cons rfl (fun _ _ x => x) (.nil)))))
        ·
          refine run_exit rfl ?_
          refine run_seq ?_
          refine run_region ?_
          refine run_op (loc_assign rfl) rfl ?_
          refine run_nil ?_
          refine run_drop (.cons _ (.cons _ (.cons _ (.cons _ (.cons _ (.cons _ (.refl _))))))) ?_
          refine run_retP Try.func8 rfl rfl ?_
          exact d_B ⟨fun _ => trivial, fun _ => trivial⟩

end Go.Q
