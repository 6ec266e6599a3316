/- The law of what is kept. -/
import Derived.Test.YtmapjpdgjefnoaaQPinS
import Derived.Test.YtmapjpdgjefnoaaQOps5
set_option linter.unusedVariables false
set_option linter.unusedSimpArgs false
namespace Go.Q
open Go.Proofs

open Classical
theorem dice_okD {xs : List Int} (h : ∀ x ∈ xs, 0 ≤ x ∧ x ≤ 255) : okDc ⟨xs.take 300, 0⟩ := ⟨fun x hm => h x (List.mem_of_mem_take hm), by simp; omega⟩
theorem pinKeeps_spec (xs : List Int) (hx : ∀ x ∈ xs, 0 ≤ x ∧ x ≤ 255) : SpecP Try.prog 4 [dBy xs] (dB True) := by
  refine specP_of_body Try.func4 rfl rfl (fun I M => ?_)
  refine run_seq ?_
  refine run_region ?_
  refine run_op (loc_assign rfl) rfl ?_
  refine run_nil ?_
  refine run_seq ?_
  refine run_seq ?_
  refine run_region ?_
  refine run_op (loc_call (sane39_spec) rfl) rfl ?_
  refine run_op (loc_not rfl) rfl ?_
  refine run_nil ?_
  refine run_cond rfl (fun h1 => ?_) (fun h1 => ?_)
  · exfalso; exact h1 trivial
  ·
    refine run_skip ?_
    refine run_seq ?_
    refine run_region ?_
    refine run_op (loc_move rfl) rfl ?_
    refine run_callN rfl (dnew_spec _) rfl (fun bd hbd => ?_)
    refine run_op (loc_assign rfl) rfl ?_
    refine run_nil ?_
    have hd0 := dice_okD hx
    have hd1 := Dc.next_ok hd0
    have hv3 := Dc.val_lt (d := ⟨xs.take 300, 0⟩) (n := 3) (by omega)
    have hv30 := Dc.val_nonneg (d := ⟨xs.take 300, 0⟩) (n := 3) (by omega)
    have hv20 := Dc.val_lt (d := Dc.next ⟨xs.take 300, 0⟩) (n := 20) (by omega)
    have hv200 := Dc.val_nonneg (d := Dc.next ⟨xs.take 300, 0⟩) (n := 20) (by omega)
    have hne : newE (1 + Dc.val ⟨xs.take 300, 0⟩ 3) = 0 := by unfold newE; rw [if_neg (by omega)]
    have hnp : newP (1 + Dc.val ⟨xs.take 300, 0⟩ 3) = ⟨[], [1 + Dc.val ⟨xs.take 300, 0⟩ 3]⟩ := by unfold newP; rw [if_neg (by omega)]
    have hok1 := new_ok hne
    have hnw1 : newestP (newP (1 + Dc.val ⟨xs.take 300, 0⟩ 3)) = 1 + Dc.val ⟨xs.take 300, 0⟩ 3 := by rw [hnp]; rfl
    have hkl1 : 0 < (newP (1 + Dc.val ⟨xs.take 300, 0⟩ 3)).kept.length := by rw [hnp]; simp
    refine run_seq ?_
    refine run_region ?_
    refine run_op (loc_move rfl) rfl ?_
    refine run_callM rfl (by first | exact .here | exact .there .here | exact .there (.there .here) | exact .there (.there (.there .here)) | exact .there (.there (.there (.there .here))) | exact .there (.there (.there (.there (.there .here))))) (pick_spec _ _ _ (by assumption) (by omega)) rfl (fun s2 hs2 => ?_)
    first | refine run_op (loc_add rfl rfl (by first | omega | assumption)) rfl ?_ | refine run_op (loc_addW rfl rfl) rfl ?_
    refine run_op (loc_call (pnew_spec _) rfl) rfl ?_
    refine run_op (loc_move rfl) rfl ?_
    refine run_op (loc_extract rfl rfl) rfl ?_
    refine run_op (loc_extract rfl rfl) rfl ?_
    refine run_new (loc_allocOwn (by simp)) rfl (fun b4 _ => ?_)
    refine run_storeN (ho := (by show OneAll [_, _]; infer_instance)) rfl rfl (by first | exact .here | exact .there .here | exact .there (.there .here) | exact .there (.there (.there .here)) | exact .there (.there (.there (.there .here))) | exact .there (.there (.there (.there (.there .here))))) (by rfl) ?_
    refine run_op (loc_assign rfl) rfl ?_
    refine run_nil ?_
    refine run_seq ?_
    refine run_seq ?_
    refine run_region ?_
    refine run_op (loc_move rfl) rfl ?_
    refine run_op (loc_neq rfl rfl) rfl ?_
    refine run_nil ?_
    refine run_cond rfl (fun h3 => ?_) (fun h3 => ?_)
    · exfalso; exact h3 hne
    ·
      refine run_skip ?_
      refine run_seq ?_
      refine run_region ?_
      refine run_new (loc_makeSlice rfl rfl (by first | omega | assumption) (by first | omega | assumption) _ _ rfl (by simp)) rfl (fun bn _ => ?_)
      refine run_op (loc_assign rfl) rfl ?_
      refine run_nil ?_
      refine run_seq ?_
      refine run_region ?_
      refine run_op (loc_fieldAddrOwn rfl) rfl ?_
      refine run_op (loc_loadOwn1 rfl (by first | exact .here | exact .there .here | exact .there (.there .here) | exact .there (.there (.there .here)) | exact .there (.there (.there (.there .here))) | exact .there (.there (.there (.there (.there .here))))) (by rfl)) rfl ?_
      first | refine run_op (loc_index rfl rfl (by first | omega | assumption)) rfl ?_ | refine run_op (loc_indexI rfl rfl (by first | omega | assumption)) rfl ?_
      refine run_op (loc_load1 rfl) rfl ?_
      refine run_op (loc_assign rfl) rfl ?_
      refine run_nil ?_
      refine run_seq ?_
      refine run_seq ?_
      refine run_region ?_
      refine run_op (loc_move rfl) rfl ?_
      refine run_callM rfl (by first | exact .here | exact .there .here | exact .there (.there .here) | exact .there (.there (.there .here)) | exact .there (.there (.there (.there .here))) | exact .there (.there (.there (.there (.there .here))))) (pick_spec _ _ _ (by assumption) (by omega)) rfl (fun s4 hs4 => ?_)
      refine run_op (loc_assign rfl) rfl ?_
      refine run_nil ?_
      refine run_block ?_
      refine run_front (.there (.there (.here))) ?_
      refine run_front (.there (.here)) ?_
      refine run_front (.there (.there (.here))) ?_
      refine run_loopF (σ := Int × Pins × List Int × Dc) (ks := [3, 4, 6]) (.cons rfl (.cons rfl (.cons rfl (.nil)))) (fun s => [(7, dInt .i64 (newestP s.2.1)), (8, dInt .i64 s.1)]) (fun s => [rCells b4 26 (cPins s.2.1), rRow (.slice (some ⟨bn, 0, none⟩) 6 6) 3 1 fI s.2.2.1, rDc bd s.2.2.2]) (fun s => (0 ≤ s.1 ∧ s.1 ≤ 20) ∧ okPins s.2.1 ∧ NamesOk s.2.1 s.2.2.1 ∧ okDc s.2.2.2 ∧ newestP s.2.1 ≤ 40 - s.1) (fun s => s.1.toNat) ((Dc.val (Dc.next ⟨xs.take 300, 0⟩) 20, newP (1 + Dc.val ⟨xs.take 300, 0⟩ 3), List.replicate 6 0, Dc.next (Dc.next ⟨xs.take 300, 0⟩))) (⟨⟨by simp only; omega, by simp only; omega⟩, hok1, names_new _, Dc.next_ok (Dc.next_ok hd0), by simp only; rw [hnw1]; omega⟩) (.cons rfl (d_int (by rw [hnp]; rfl)) (.cons rfl (by first | exact fun _ _ h => h | exact d_int (by omega) | exact d_int (by simp) | exact d_intN (by omega) | exact d_any) .nil)) (rfl) ?_
      rintro s ⟨hs, hok, hnm, hds, hnw⟩ ih5
      have one := hok.one
      have most := hok.most
      have reads := hok.reads
      have nb := newest_bd hok
      have hlen := hnm.len
      have hfew := names_few hok hnm
      have hk6 := Dc.val_lt (d := s.2.2.2) (n := 6) (by omega)
      have hk0 := Dc.val_nonneg (d := s.2.2.2) (n := 6) (by omega)
      have hds1 := Dc.next_ok hds
      have hgt := names_gt hok hnm ⟨hk0, hk6⟩
      have hze := names_zero hok hnm ⟨hk0, hk6⟩
      have hpe := pub_eq (v := newestP s.2.1 + 1) hok (by omega)
      have hce := close_eq (u := s.2.2.2.val 6) hok
      refine run_seq ?_
      refine run_seq ?_
      refine run_region ?_
      refine run_op (loc_move rfl) rfl ?_
      refine run_op (loc_gtr rfl rfl) rfl ?_
      refine run_nil ?_
      refine run_cond rfl (fun h6 => ?_) (fun h6 => ?_)
      ·
        refine run_skip ?_
        refine run_seq ?_
        refine run_block ?_
        refine run_seq ?_
        refine run_region ?_
        refine run_op (loc_move rfl) rfl ?_
        refine run_callM rfl (by first | exact .here | exact .there .here | exact .there (.there .here) | exact .there (.there (.there .here)) | exact .there (.there (.there (.there .here))) | exact .there (.there (.there (.there (.there .here))))) (pick_spec _ _ _ (by assumption) (by omega)) rfl (fun s7 hs7 => ?_)
        refine run_op (loc_assign rfl) rfl ?_
        refine run_nil ?_
        refine run_seq ?_
        refine run_seq ?_
        refine run_region ?_
        refine run_op (loc_move rfl) rfl ?_
        refine run_callM rfl (by first | exact .here | exact .there .here | exact .there (.there .here) | exact .there (.there (.there .here)) | exact .there (.there (.there (.there .here))) | exact .there (.there (.there (.there (.there .here))))) (pick_spec _ _ _ (by assumption) (by omega)) rfl (fun s8 hs8 => ?_)
        refine run_nil ?_
        refine run_joinF (σ := Pins × List Int) (ks := [3, 4, 6, 8]) _ (.cons rfl (.cons rfl (.cons rfl (.cons rfl (.nil))))) (fun r => [(7, dInt .i64 (newestP r.1))]) (fun r => [rCells b4 26 (cPins r.1), rRow (.slice (some ⟨bn, 0, none⟩) 6 6) 3 1 fI r.2]) (fun r => okPins r.1 ∧ NamesOk r.1 r.2 ∧ newestP r.1 ≤ newestP s.2.1 + 1) ⟨[_, _], rfl⟩ (fun j9 => ?_) ?_
        ·
          refine run_block ?_
          refine run_seq ?_
          refine run_region ?_
          refine run_op (loc_eql rfl rfl) rfl ?_
          refine run_op (loc_assign rfl) rfl ?_
          refine run_nil ?_
          refine run_cond rfl (fun h10 => ?_) (fun h10 => ?_)
          ·
            refine run_seq ?_
            refine run_region ?_
            refine run_op (loc_loadOwnN rfl (by first | exact .here | exact .there .here | exact .there (.there .here) | exact .there (.there (.there .here)) | exact .there (.there (.there (.there .here))) | exact .there (.there (.there (.there (.there .here))))) (by rfl)) rfl ?_
            refine run_op (loc_move rfl) rfl ?_
            first | refine run_op (loc_add rfl rfl (by first | omega | assumption)) rfl ?_ | refine run_op (loc_addW rfl rfl) rfl ?_
            refine run_op (loc_call (publish_spec _ _ ⟨by omega, by omega⟩) rfl) rfl ?_
            refine run_op (loc_move rfl) rfl ?_
            refine run_op (loc_extract rfl rfl) rfl ?_
            refine run_op (loc_extract rfl rfl) rfl ?_
            refine run_new (loc_allocOwn (by simp)) rfl (fun b11 _ => ?_)
            refine run_storeN (ho := (by show OneAll [_, _]; infer_instance)) rfl rfl (by first | exact .here | exact .there .here | exact .there (.there .here) | exact .there (.there (.there .here)) | exact .there (.there (.there (.there .here))) | exact .there (.there (.there (.there (.there .here))))) (by rfl) ?_
            refine run_op (loc_assign rfl) rfl ?_
            refine run_nil ?_
            refine run_seq ?_
            refine run_seq ?_
            refine run_region ?_
            refine run_op (loc_move rfl) rfl ?_
            refine run_op (loc_neq rfl rfl) rfl ?_
            refine run_nil ?_
            refine run_cond rfl (fun h12 => ?_) (fun h12 => ?_)
            ·
              have hf := h12
              refine run_seq ?_
              refine run_seq ?_
              refine run_region ?_
              refine run_op (loc_move rfl) rfl ?_
              refine run_op (loc_neq rfl rfl) rfl ?_
              refine run_op (loc_move rfl) rfl ?_
              refine run_gfirst rfl rfl (by first | exact guard_true _ | exact guard_false _ | exact guard_if (guard_true _) | exact guard_if (guard_false _)) (fun hg => loc_fieldAddrOwn rfl) rfl ?_
              refine run_gop rfl rfl (by first | exact guard_true _ | exact guard_false _ | exact guard_if (guard_true _) | exact guard_if (guard_false _)) (fun hg => loc_loadOwn1 rfl (by first | exact .here | exact .there .here | exact .there (.there .here) | exact .there (.there (.there .here)) | exact .there (.there (.there (.there .here))) | exact .there (.there (.there (.there (.there .here))))) (by rfl)) rfl ?_
              refine run_gop rfl rfl (by first | exact guard_true _ | exact guard_false _ | exact guard_if (guard_true _) | exact guard_if (guard_false _)) (fun hg => loc_len rfl) rfl ?_
              refine run_gop rfl rfl (by first | exact guard_true _ | exact guard_false _ | exact guard_if (guard_true _) | exact guard_if (guard_false _)) (fun hg => loc_neq rfl rfl) rfl ?_
              refine run_gleave ?_
              refine run_op (loc_or rfl rfl) rfl ?_
              refine run_nil ?_
              refine run_cond rfl (fun h13 => ?_) (fun h13 => ?_)
              · exfalso; rw [hpe] at h13 hf; split at hf; (· rename_i hc; rw [if_pos hc] at h13; omega); (· exact hf rfl)
              ·
                refine run_skip ?_
                refine run_exit rfl ?_
                refine run_region ?_
                refine run_op (loc_move rfl) rfl ?_
                first | refine run_op (loc_sub rfl rfl (by first | omega | assumption)) rfl ?_ | refine run_op (loc_subW rfl rfl) rfl ?_
                refine run_op (loc_assign rfl) rfl ?_
                refine run_nil ?_
                refine run_drop (.cons _ (.refl _)) ?_
                exact run_againF ih5 ((s.1 - 1, s.2.1, s.2.2.1, s.2.2.2.next.next)) (⟨⟨by simp only; omega, by simp only; omega⟩, hok, hnm, Dc.next_ok hds1, by simp only; omega⟩) (by simp only; omega) (.cons rfl (by first | exact fun _ _ h => h | exact d_int (by omega) | exact d_int (by simp) | exact d_intN (by omega) | exact d_any) (.cons rfl (by first | exact fun _ _ h => h | exact d_int (by omega) | exact d_int (by simp) | exact d_intN (by omega) | exact d_any) .nil)) (.cons rfl (fun _ _ x => x) (.cons rfl (fun _ _ x => x) (.cons rfl (fun _ _ x => x) (.nil)))) (rfl)
            ·
              have hf := Classical.not_not.1 h12
              have hpp := pub_P hf
              have hn3 : newestP (pubP s.2.1 (newestP s.2.1 + 1)) = newestP s.2.1 + 1 := by rw [hpp, newest_snoc]
              refine run_skip ?_
              refine run_region ?_
              refine run_op (loc_loadOwnN rfl (by first | exact .here | exact .there .here | exact .there (.there .here) | exact .there (.there (.there .here)) | exact .there (.there (.there (.there .here))) | exact .there (.there (.there (.there (.there .here))))) (by rfl)) rfl ?_
              refine run_op (loc_move rfl) rfl ?_
              first | refine run_op (loc_add rfl rfl (by first | omega | assumption)) rfl ?_ | refine run_op (loc_addW rfl rfl) rfl ?_
              refine run_storeN (ho := (by show OneAll [_, _]; infer_instance)) rfl rfl (by first | exact .here | exact .there .here | exact .there (.there .here) | exact .there (.there (.there .here)) | exact .there (.there (.there (.there .here))) | exact .there (.there (.there (.there (.there .here))))) (by rfl) ?_
              refine run_op (loc_assign rfl) rfl ?_
              refine run_nil ?_
              refine run_inBlock ?_
              refine run_drop (.cons _ (.refl _)) ?_
              exact run_atF j9 ((pubP s.2.1 (newestP s.2.1 + 1), s.2.2.1)) (⟨pub_ok hok, names_of hnm (pub_rows ..), by simp only; omega⟩) (rfl) (.cons rfl (d_int hn3.symm) .nil) (.cons rfl (fun _ _ x => x) (.cons rfl (fun _ _ x => x) (.cons rfl (fun _ _ x => x) (.cons rfl (fun _ _ x => x) (.nil)))))
          ·
            refine run_seq ?_
            refine run_region ?_
            refine run_op (loc_eql rfl rfl) rfl ?_
            refine run_op (loc_assign rfl) rfl ?_
            refine run_nil ?_
            refine run_cond rfl (fun h14 => ?_) (fun h14 => ?_)
            ·
              refine run_region ?_
              refine run_op (loc_loadOwnN rfl (by first | exact .here | exact .there .here | exact .there (.there .here) | exact .there (.there (.there .here)) | exact .there (.there (.there (.there .here))) | exact .there (.there (.there (.there (.there .here))))) (by rfl)) rfl ?_
              refine run_op (loc_call (collect_spec _ (by assumption) ⟨by omega, by omega⟩) rfl) rfl ?_
              refine run_op (loc_move rfl) rfl ?_
              refine run_op (loc_extract rfl rfl) rfl ?_
              refine run_op (loc_extract rfl rfl) rfl ?_
              refine run_storeN (ho := (by show OneAll [_, _]; infer_instance)) rfl rfl (by first | exact .here | exact .there .here | exact .there (.there .here) | exact .there (.there (.there .here)) | exact .there (.there (.there (.there .here))) | exact .there (.there (.there (.there (.there .here))))) (by rfl) ?_
              refine run_nil ?_
              refine run_inBlock ?_
              exact run_atF j9 ((collP s.2.1, s.2.2.1)) (⟨coll_ok hok, names_of hnm rfl, by simp only; rw [coll_newest hok]; omega⟩) (rfl) (.cons rfl (d_int (coll_newest hok).symm) .nil) (.cons rfl (fun _ _ x => x) (.cons rfl (fun _ _ x => x) (.cons rfl (fun _ _ x => x) (.cons rfl (fun _ _ x => x) (.nil)))))
            ·
              refine run_seq ?_
              refine run_region ?_
              refine run_op (loc_eql rfl rfl) rfl ?_
              refine run_op (loc_assign rfl) rfl ?_
              refine run_nil ?_
              refine run_cond rfl (fun h15 => ?_) (fun h15 => ?_)
              ·
                refine run_seq ?_
                refine run_region ?_
                refine run_op (loc_loadOwnN rfl (by first | exact .here | exact .there .here | exact .there (.there .here) | exact .there (.there (.there .here)) | exact .there (.there (.there (.there .here))) | exact .there (.there (.there (.there (.there .here))))) (by rfl)) rfl ?_
                refine run_op (loc_move rfl) rfl ?_
                refine run_op (loc_call (close_spec _ _ ⟨by omega, by omega⟩) rfl) rfl ?_
                refine run_op (loc_move rfl) rfl ?_
                refine run_op (loc_extract rfl rfl) rfl ?_
                refine run_op (loc_extract rfl rfl) rfl ?_
                refine run_new (loc_allocOwn (by simp)) rfl (fun b16 _ => ?_)
                refine run_storeN (ho := (by show OneAll [_, _]; infer_instance)) rfl rfl (by first | exact .here | exact .there .here | exact .there (.there .here) | exact .there (.there (.there .here)) | exact .there (.there (.there (.there .here))) | exact .there (.there (.there (.there (.there .here))))) (by rfl) ?_
                refine run_op (loc_assign rfl) rfl ?_
                refine run_nil ?_
                refine run_seq ?_
                refine run_seq ?_
                refine run_region ?_
                refine run_op (loc_move rfl) rfl ?_
                refine run_op (loc_eql rfl rfl) rfl ?_
                refine run_op (loc_move rfl) rfl ?_
                refine run_op (loc_move rfl) rfl ?_
                first | refine run_op (loc_indexRow rfl rfl (by first | omega | assumption)) rfl ?_ | refine run_op (loc_indexRowI rfl rfl (by first | omega | assumption)) rfl ?_
                refine run_op (loc_loadRow1 rfl (by first | exact .here | exact .there .here | exact .there (.there .here) | exact .there (.there (.there .here)) | exact .there (.there (.there (.there .here))) | exact .there (.there (.there (.there (.there .here))))) (by first | omega | assumption)) rfl ?_
                refine run_op (loc_gtr rfl rfl) rfl ?_
                refine run_op (loc_neqB rfl rfl) rfl ?_
                refine run_nil ?_
                refine run_cond rfl (fun h17 => ?_) (fun h17 => ?_)
                · exfalso; exact h17 (hce.trans hgt.symm)
                ·
                  refine run_skip ?_
                  refine run_region ?_
                  refine run_op (loc_move rfl) rfl ?_
                  refine run_op (loc_move rfl) rfl ?_
                  refine run_op (loc_loadOwnN rfl (by first | exact .here | exact .there .here | exact .there (.there .here) | exact .there (.there (.there .here)) | exact .there (.there (.there (.there .here))) | exact .there (.there (.there (.there (.there .here))))) (by rfl)) rfl ?_
                  refine run_storeN (ho := (by show OneAll [_, _]; infer_instance)) rfl rfl (by first | exact .here | exact .there .here | exact .there (.there .here) | exact .there (.there (.there .here)) | exact .there (.there (.there (.there .here))) | exact .there (.there (.there (.there (.there .here))))) (by rfl) ?_
                  first | refine run_op (loc_indexRow rfl rfl (by first | omega | assumption)) rfl ?_ | refine run_op (loc_indexRowI rfl rfl (by first | omega | assumption)) rfl ?_
                  refine run_storeRow1 rfl (by first | exact .here | exact .there .here | exact .there (.there .here) | exact .there (.there (.there .here)) | exact .there (.there (.there (.there .here))) | exact .there (.there (.there (.there (.there .here))))) rfl (by rfl) (by first | omega | assumption) ?_
                  refine run_nil ?_
                  refine run_inBlock ?_
                  refine run_drop (.cons _ (.refl _)) ?_
                  exact run_atF j9 ((closeP s.2.1 (s.2.2.2.val 6), s.2.2.1.set (Int.toNat (s.2.2.2.val 6)) 0)) (⟨close_ok hok, names_close hok hnm ⟨hk0, hk6⟩, by simp only; rw [newest_kept close_kept]; omega⟩) (rfl) (.cons rfl (d_int (newest_kept close_kept).symm) .nil) (.cons rfl (fun _ _ x => x) (.cons rfl (fun _ _ x => x) (.cons rfl (fun _ _ x => x) (.cons rfl (fun _ _ x => x) (.nil)))))
              ·
                refine run_seq ?_
                refine run_region ?_
                refine run_op (loc_loadOwnN rfl (by first | exact .here | exact .there .here | exact .there (.there .here) | exact .there (.there (.there .here)) | exact .there (.there (.there (.there .here))) | exact .there (.there (.there (.there (.there .here))))) (by rfl)) rfl ?_
                refine run_op (loc_move rfl) rfl ?_
                refine run_op (loc_call (open_spec _ _ ⟨by omega, by omega⟩) rfl) rfl ?_
                refine run_op (loc_move rfl) rfl ?_
                refine run_op (loc_extract rfl rfl) rfl ?_
                refine run_op (loc_extract rfl rfl) rfl ?_
                refine run_op (loc_extract rfl rfl) rfl ?_
                refine run_new (loc_allocOwn (by simp)) rfl (fun b18 _ => ?_)
                refine run_storeN (ho := (by show OneAll [_, _]; infer_instance)) rfl rfl (by first | exact .here | exact .there .here | exact .there (.there .here) | exact .there (.there (.there .here)) | exact .there (.there (.there (.there .here))) | exact .there (.there (.there (.there (.there .here))))) (by rfl) ?_
                refine run_op (loc_assign rfl) rfl ?_
                refine run_op (loc_assign rfl) rfl ?_
                refine run_nil ?_
                refine run_seq ?_
                refine run_seq ?_
                have hoe : openE s.2.1 (s.2.2.2.val 6) = 0 ↔ ¬ thereP s.2.1 (s.2.2.2.val 6) := by
                  constructor
                  · intro ho hc; have := (openE_there hok hk0 hc); omega
                  · intro hc; rw [open_eq hok hk0 hc, if_neg (by omega)]
                refine run_region ?_
                refine run_op (loc_move rfl) rfl ?_
                refine run_op (loc_eql rfl rfl) rfl ?_
                refine run_op (loc_move rfl) rfl ?_
                refine run_op (loc_move rfl) rfl ?_
                first | refine run_op (loc_indexRow rfl rfl (by first | omega | assumption)) rfl ?_ | refine run_op (loc_indexRowI rfl rfl (by first | omega | assumption)) rfl ?_
                refine run_op (loc_loadRow1 rfl (by first | exact .here | exact .there .here | exact .there (.there .here) | exact .there (.there (.there .here)) | exact .there (.there (.there (.there .here))) | exact .there (.there (.there (.there (.there .here))))) (by first | omega | assumption)) rfl ?_
                refine run_op (loc_eql rfl rfl) rfl ?_
                refine run_op (loc_neqB rfl rfl) rfl ?_
                refine run_op (loc_move rfl) rfl ?_
                refine run_gfirst rfl rfl (by first | exact guard_true _ | exact guard_false _ | exact guard_if (guard_true _) | exact guard_if (guard_false _)) (fun hg => loc_move rfl) rfl ?_
                refine run_gop rfl rfl (by first | exact guard_true _ | exact guard_false _ | exact guard_if (guard_true _) | exact guard_if (guard_false _)) (fun hg => loc_eql rfl rfl) rfl ?_
                refine run_gop rfl rfl (by first | exact guard_true _ | exact guard_false _ | exact guard_if (guard_true _) | exact guard_if (guard_false _)) (fun hg => loc_move rfl) rfl ?_
                refine run_gleave ?_
                refine run_gfirst rfl rfl (by first | exact guard_true _ | exact guard_false _ | exact guard_if (guard_true _) | exact guard_if (guard_false _)) (fun hg => loc_move rfl) rfl ?_
                refine run_gop rfl rfl (by first | exact guard_true _ | exact guard_false _ | exact guard_if (guard_true _) | exact guard_if (guard_false _)) (fun hg => loc_move rfl) rfl ?_
                refine run_gop rfl rfl (by first | exact guard_true _ | exact guard_false _ | exact guard_if (guard_true _) | exact guard_if (guard_false _)) (fun hg => loc_neq rfl rfl) rfl ?_
                refine run_gleave ?_
                first | refine run_gfirst rfl rfl (by first | exact guard_true _ | exact guard_false _ | exact guard_if (guard_true _) | exact guard_if (guard_false _)) (fun hg => loc_and rfl rfl) rfl ?_ | refine run_gfirst rfl rfl (by first | exact guard_true _ | exact guard_false _ | exact guard_if (guard_true _) | exact guard_if (guard_false _)) (fun hg => loc_andG hg rfl rfl) rfl ?_ | refine run_gfirst rfl rfl (by first | exact guard_true _ | exact guard_false _ | exact guard_if (guard_true _) | exact guard_if (guard_false _)) (fun hg => loc_andH hg rfl rfl) rfl ?_
                refine run_gleave ?_
                refine run_op (loc_or rfl rfl) rfl ?_
                refine run_nil ?_
                refine run_cond rfl (fun h19 => ?_) (fun h19 => ?_)
                · exfalso; rcases h19 with hh | hh; (· exact hh (hoe.trans hze.symm)); (· exact hh.2 (open_V hh.1))
                ·
                  refine run_skip ?_
                  refine run_seq ?_
                  refine run_region ?_
                  refine run_op (loc_move rfl) rfl ?_
                  refine run_op (loc_eql rfl rfl) rfl ?_
                  refine run_nil ?_
                  refine run_cond rfl (fun h20 => ?_) (fun h20 => ?_)
                  ·
                    have hoo := h20
                    refine run_region ?_
                    refine run_op (loc_move rfl) rfl ?_
                    refine run_op (loc_move rfl) rfl ?_
                    refine run_op (loc_loadOwnN rfl (by first | exact .here | exact .there .here | exact .there (.there .here) | exact .there (.there (.there .here)) | exact .there (.there (.there (.there .here))) | exact .there (.there (.there (.there (.there .here))))) (by rfl)) rfl ?_
                    refine run_op (loc_move rfl) rfl ?_
                    refine run_storeN (ho := (by show OneAll [_, _]; infer_instance)) rfl rfl (by first | exact .here | exact .there .here | exact .there (.there .here) | exact .there (.there (.there .here)) | exact .there (.there (.there (.there .here))) | exact .there (.there (.there (.there (.there .here))))) (by rfl) ?_
                    first | refine run_op (loc_indexRow rfl rfl (by first | omega | assumption)) rfl ?_ | refine run_op (loc_indexRowI rfl rfl (by first | omega | assumption)) rfl ?_
                    refine run_storeRow1 rfl (by first | exact .here | exact .there .here | exact .there (.there .here) | exact .there (.there (.there .here)) | exact .there (.there (.there (.there .here))) | exact .there (.there (.there (.there (.there .here))))) rfl (by rfl) (by first | omega | assumption) ?_
                    refine run_nil ?_
                    refine run_inBlock ?_
                    refine run_drop (.cons _ (.refl _)) ?_
                    exact run_atF j9 ((openP s.2.1 (s.2.2.2.val 6), s.2.2.1.set (Int.toNat (s.2.2.2.val 6)) (newestP s.2.1))) (⟨open_ok hok, names_open hok hnm ⟨hk0, hk6⟩ hoo (hoe.1 hoo), by simp only; rw [newest_kept open_kept]; omega⟩) (by simp only [appR]; rw [open_V hoo]; rfl) (.cons rfl (d_int (newest_kept open_kept).symm) .nil) (.cons rfl (fun _ _ x => x) (.cons rfl (fun _ _ x => x) (.cons rfl (fun _ _ x => x) (.cons rfl (fun _ _ x => x) (.nil)))))
                  ·
                    refine run_skip ?_
                    refine run_inBlock ?_
                    refine run_drop (.cons _ (.refl _)) ?_
                    exact run_atF j9 ((s.2.1, s.2.2.1)) (⟨hok, hnm, by simp only; omega⟩) (rfl) (.cons rfl (by first | exact fun _ _ h => h | exact d_int (by omega) | exact d_int (by simp) | exact d_intN (by omega) | exact d_any) .nil) (.cons rfl (fun _ _ x => x) (.cons rfl (fun _ _ x => x) (.cons rfl (fun _ _ x => x) (.cons rfl (fun _ _ x => x) (.nil)))))
        rintro r ⟨hokr, hnmr, hnwr⟩
        have rone := hokr.one
        have rmost := hokr.most
        have rreads := hokr.reads
        have rnb := newest_bd hokr
        have hlenr := hnmr.len
        refine run_seq ?_
        refine run_seq ?_
        refine run_region ?_
        refine run_op (loc_loadOwnN rfl (by first | exact .here | exact .there .here | exact .there (.there .here) | exact .there (.there (.there .here)) | exact .there (.there (.there (.there .here))) | exact .there (.there (.there (.there (.there .here))))) (by rfl)) rfl ?_
        refine run_op (loc_call (valid_spec _) rfl) rfl ?_
        refine run_op (loc_not rfl) rfl ?_
        refine run_op (loc_move rfl) rfl ?_
        refine run_gfirst rfl rfl (by first | exact guard_true _ | exact guard_false _ | exact guard_if (guard_true _) | exact guard_if (guard_false _)) (fun hg => loc_fieldAddrOwn rfl) rfl ?_
        refine run_gop rfl rfl (by first | exact guard_true _ | exact guard_false _ | exact guard_if (guard_true _) | exact guard_if (guard_false _)) (fun hg => loc_loadOwn1 rfl (by first | exact .here | exact .there .here | exact .there (.there .here) | exact .there (.there (.there .here)) | exact .there (.there (.there (.there .here))) | exact .there (.there (.there (.there (.there .here))))) (by rfl)) rfl ?_
        refine run_gop rfl rfl (by first | exact guard_true _ | exact guard_false _ | exact guard_if (guard_true _) | exact guard_if (guard_false _)) (fun hg => loc_fieldAddrOwn rfl) rfl ?_
        refine run_gop rfl rfl (by first | exact guard_true _ | exact guard_false _ | exact guard_if (guard_true _) | exact guard_if (guard_false _)) (fun hg => loc_loadOwn1 rfl (by first | exact .here | exact .there .here | exact .there (.there .here) | exact .there (.there (.there .here)) | exact .there (.there (.there (.there .here))) | exact .there (.there (.there (.there (.there .here))))) (by rfl)) rfl ?_
        refine run_gop rfl rfl (by first | exact guard_true _ | exact guard_false _ | exact guard_if (guard_true _) | exact guard_if (guard_false _)) (fun hg => loc_len rfl) rfl ?_
        first | refine run_gop rfl rfl (by first | exact guard_true _ | exact guard_false _ | exact guard_if (guard_true _) | exact guard_if (guard_false _)) (fun hg => loc_sub rfl rfl (by first | omega | assumption)) rfl ?_ | refine run_gop rfl rfl (by first | exact guard_true _ | exact guard_false _ | exact guard_if (guard_true _) | exact guard_if (guard_false _)) (fun hg => loc_subW rfl rfl) rfl ?_
        first | refine run_gop rfl rfl (by first | exact guard_true _ | exact guard_false _ | exact guard_if (guard_true _) | exact guard_if (guard_false _)) (fun hg => loc_index rfl rfl (by first | omega | assumption)) rfl ?_ | refine run_gop rfl rfl (by first | exact guard_true _ | exact guard_false _ | exact guard_if (guard_true _) | exact guard_if (guard_false _)) (fun hg => loc_indexI rfl rfl (by first | omega | assumption)) rfl ?_
        refine run_gop rfl rfl (by first | exact guard_true _ | exact guard_false _ | exact guard_if (guard_true _) | exact guard_if (guard_false _)) (fun hg => loc_load1 rfl) rfl ?_
        refine run_gop rfl rfl (by first | exact guard_true _ | exact guard_false _ | exact guard_if (guard_true _) | exact guard_if (guard_false _)) (fun hg => loc_move rfl) rfl ?_
        refine run_gop rfl rfl (by first | exact guard_true _ | exact guard_false _ | exact guard_if (guard_true _) | exact guard_if (guard_false _)) (fun hg => loc_neq rfl rfl) rfl ?_
        refine run_gleave ?_
        refine run_op (loc_or rfl rfl) rfl ?_
        refine run_nil ?_
        refine run_cond rfl (fun h21 => ?_) (fun h21 => ?_)
        · exfalso; rcases h21 with hh | hh; (· exact hh hokr); (· apply hh; unfold newestP; congr 2; omega)
        ·
          refine run_skip ?_
          refine run_seq ?_
          refine run_region ?_
          refine run_op (loc_move rfl) rfl ?_
          refine run_op (loc_lenRow rfl (by first | exact .here | exact .there .here | exact .there (.there .here) | exact .there (.there (.there .here)) | exact .there (.there (.there (.there .here))) | exact .there (.there (.there (.there (.there .here)))))) rfl ?_
          refine run_op (loc_move rfl) rfl ?_
          refine run_nil ?_
          refine run_block ?_
          refine run_loopC (σ := Nat) (ks := [3, 4, 6, 7, 8, 145, 146]) (.cons rfl (.cons rfl (.cons rfl (.cons rfl (.cons rfl (.cons rfl (.cons rfl (.nil)))))))) (fun a => [(147, dInt .i64 (a : Nat))]) (fun a => a ≤ r.2.length) (fun a => r.2.length - a) (0) ((by omega)) (.cons rfl (by first | exact fun _ _ h => h | exact d_int (by omega) | exact d_int (by simp) | exact d_intN (by omega) | exact d_any) .nil) ?_
          intro a ha ih22
          refine run_seq ?_
          refine run_region ?_
          refine run_op (loc_lss rfl rfl) rfl ?_
          refine run_nil ?_
          refine run_seq ?_
          refine run_cond rfl (fun h23 => ?_) (fun h23 => ?_)
          ·
            refine run_skip ?_
            refine run_seq ?_
            refine run_block ?_
            refine run_seq ?_
            refine run_region ?_
            first | refine run_op (loc_indexRow rfl rfl (by first | omega | assumption)) rfl ?_ | refine run_op (loc_indexRowI rfl rfl (by first | omega | assumption)) rfl ?_
            refine run_op (loc_loadRow1 rfl (by first | exact .here | exact .there .here | exact .there (.there .here) | exact .there (.there (.there .here)) | exact .there (.there (.there (.there .here))) | exact .there (.there (.there (.there (.there .here))))) (by first | omega | assumption)) rfl ?_
            refine run_op (loc_assign rfl) rfl ?_
            refine run_nil ?_
            refine run_seq ?_
            refine run_region ?_
            refine run_op (loc_move rfl) rfl ?_
            refine run_op (loc_eql rfl rfl) rfl ?_
            refine run_op (loc_assign rfl) rfl ?_
            refine run_nil ?_
            refine run_seq ?_
            refine run_seq ?_
            refine run_region ?_
            refine run_op (loc_fieldAddrOwn rfl) rfl ?_
            refine run_op (loc_loadOwn1 rfl (by first | exact .here | exact .there .here | exact .there (.there .here) | exact .there (.there (.there .here)) | exact .there (.there (.there (.there .here))) | exact .there (.there (.there (.there (.there .here))))) (by rfl)) rfl ?_
            first | refine runL_fact (s := 154) rfl (fun _ _ h => dSl_len h) (fun hlen24 => ?_) | skip
            refine run_op (loc_len rfl) rfl ?_
            refine run_op (loc_move rfl) rfl ?_
            refine run_nil ?_
            refine run_block ?_
            refine run_loopC (σ := Nat) (ks := [3, 4, 6, 7, 8, 18, 145, 146, 147, 154, 155]) (.cons rfl (.cons rfl (.cons rfl (.cons rfl (.cons rfl (.cons rfl (.cons rfl (.cons rfl (.cons rfl (.cons rfl (.cons rfl (.nil)))))))))))) (fun c => [(19, dB (r.2[a]?.getD default = 0 ∨ ∃ j, j < c ∧ r.1.kept[j]?.getD default = r.2[a]?.getD default)), (156, dInt .i64 (c : Nat))]) (fun c => c ≤ r.1.kept.length) (fun c => r.1.kept.length - c) (0) ((by omega)) (.cons rfl (d_B ⟨.inl, fun h => by rcases h with h | ⟨j, hj, _⟩; (· exact h); (· omega)⟩) (.cons rfl (by first | exact fun _ _ h => h | exact d_int (by omega) | exact d_int (by simp) | exact d_intN (by omega) | exact d_any) .nil)) ?_
            intro c hc ih25
            refine run_seq ?_
            refine run_region ?_
            refine run_op (loc_lss rfl rfl) rfl ?_
            refine run_nil ?_
            refine run_seq ?_
            refine run_cond rfl (fun h26 => ?_) (fun h26 => ?_)
            ·
              refine run_skip ?_
              refine run_seq ?_
              refine run_block ?_
              refine run_seq ?_
              refine run_region ?_
              first | refine run_op (loc_index rfl rfl (by first | omega | assumption)) rfl ?_ | refine run_op (loc_indexI rfl rfl (by first | omega | assumption)) rfl ?_
              refine run_op (loc_load1 rfl) rfl ?_
              refine run_op (loc_assign rfl) rfl ?_
              refine run_nil ?_
              refine run_region ?_
              refine run_op (loc_move rfl) rfl ?_
              refine run_op (loc_move rfl) rfl ?_
              refine run_gfirst rfl rfl (by first | exact guard_true _ | exact guard_false _ | exact guard_if (guard_true _) | exact guard_if (guard_false _)) (fun hg => loc_move rfl) rfl ?_
              refine run_gop rfl rfl (by first | exact guard_true _ | exact guard_false _ | exact guard_if (guard_true _) | exact guard_if (guard_false _)) (fun hg => loc_move rfl) rfl ?_
              refine run_gop rfl rfl (by first | exact guard_true _ | exact guard_false _ | exact guard_if (guard_true _) | exact guard_if (guard_false _)) (fun hg => loc_eql rfl rfl) rfl ?_
              refine run_gleave ?_
              refine run_op (loc_or rfl rfl) rfl ?_
              refine run_op (loc_assign rfl) rfl ?_
              refine run_nil ?_
              refine run_inBlock ?_
              refine run_region ?_
              first | refine run_op (loc_add rfl rfl (by first | omega | assumption)) rfl ?_ | refine run_op (loc_addW rfl rfl) rfl ?_
              refine run_op (loc_move rfl) rfl ?_
              refine run_nil ?_
              exact run_againC ih25 (c + 1) (by omega) (by omega) (.cons rfl (d_B ⟨fun h => by rcases h with (h | ⟨j, hj, h⟩) | h; (· exact .inl h); (· exact .inr ⟨j, by omega, h⟩); (· exact .inr ⟨c, by omega, h⟩), fun h => by rcases h with h | ⟨j, hj, h⟩; (· exact .inl (.inl h)); (· by_cases e : j = c; (· subst e; exact .inr h); (· exact .inl (.inr ⟨j, by omega, h⟩)))⟩) (.cons rfl (by first | exact fun _ _ h => h | exact d_int (by omega) | exact d_int (by simp) | exact d_intN (by omega) | exact d_any) .nil)) (.cons rfl (fun _ _ x => x) (.cons rfl (fun _ _ x => x) (.cons rfl (fun _ _ x => x) (.cons rfl (fun _ _ x => x) (.cons rfl (fun _ _ x => x) (.cons rfl (fun _ _ x => x) (.cons rfl (fun _ _ x => x) (.cons rfl (fun _ _ x => x) (.cons rfl (fun _ _ x => x) (.cons rfl (fun _ _ x => x) (.cons rfl (fun _ _ x => x) (.nil))))))))))))
            ·
              refine run_exit rfl ?_
              refine run_seq ?_
              refine run_region ?_
              refine run_op (loc_move rfl) rfl ?_
              refine run_op (loc_not rfl) rfl ?_
              refine run_nil ?_
              refine run_cond rfl (fun h27 => ?_) (fun h27 => ?_)
              · exfalso; apply h27; rcases names_keep hokr hnmr (show a < r.2.length by omega) with hh | ⟨j, hj, hh⟩; (· exact .inl hh); (· exact .inr ⟨j, by omega, hh⟩)
              ·
                refine run_skip ?_
                refine run_inBlock ?_
                refine run_region ?_
                first | refine run_op (loc_add rfl rfl (by first | omega | assumption)) rfl ?_ | refine run_op (loc_addW rfl rfl) rfl ?_
                refine run_op (loc_move rfl) rfl ?_
                refine run_nil ?_
                exact run_againC ih22 (a + 1) (by omega) (by omega) (.cons rfl (by first | exact fun _ _ h => h | exact d_int (by omega) | exact d_int (by simp) | exact d_intN (by omega) | exact d_any) .nil) (.cons rfl (fun _ _ x => x) (.cons rfl (fun _ _ x => x) (.cons rfl (fun _ _ x => x) (.cons rfl (fun _ _ x => x) (.cons rfl (fun _ _ x => x) (.cons rfl (fun _ _ x => x) (.cons rfl (fun _ _ x => x) (.nil))))))))
          ·
            refine run_exit rfl ?_
            refine run_inBlock ?_
            refine run_region ?_
            refine run_op (loc_move rfl) rfl ?_
            first | refine run_op (loc_sub rfl rfl (by first | omega | assumption)) rfl ?_ | refine run_op (loc_subW rfl rfl) rfl ?_
            refine run_op (loc_assign rfl) rfl ?_
            refine run_nil ?_
            exact run_againF ih5 ((s.1 - 1, r.1, r.2, s.2.2.2.next.next)) (⟨⟨by simp only; omega, by simp only; omega⟩, hokr, hnmr, Dc.next_ok (Dc.next_ok hds), by simp only; omega⟩) (by simp only; omega) (.cons rfl (by first | exact fun _ _ h => h | exact d_int (by omega) | exact d_int (by simp) | exact d_intN (by omega) | exact d_any) (.cons rfl (by first | exact fun _ _ h => h | exact d_int (by omega) | exact d_int (by simp) | exact d_intN (by omega) | exact d_any) .nil)) (.cons rfl (fun _ _ x => x) (.cons rfl (fun _ _ x => x) (.cons rfl (fun _ _ x => x) (.nil)))) (rfl)
      ·
        refine run_exit rfl ?_
        refine run_seq ?_
        refine run_region ?_
        refine run_op (loc_assign rfl) rfl ?_
        refine run_nil ?_
        refine run_drop (.cons _ (.cons _ (.cons _ (.refl _)))) ?_
        refine run_retP Try.func4 rfl rfl ?_
        exact d_B Iff.rfl

end Go.Q
