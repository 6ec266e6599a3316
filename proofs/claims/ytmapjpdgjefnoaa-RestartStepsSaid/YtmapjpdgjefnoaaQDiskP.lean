/- Disks that dice make. -/
import Derived.Test.YtmapjpdgjefnoaaQDiskS
import Derived.Test.YtmapjpdgjefnoaaQPlainR3
set_option linter.unusedVariables false
set_option linter.unusedSimpArgs false
namespace Go.Q
open Go.Proofs

open Classical
theorem ddisk_spec (b : Nat) (d : Dc) (h : okDc d) : Spec Try.prog 44 [dVal (ptr b 0)] [rDc b d] (σ := Disk × Dc) (fun s => diceD 25 s.1 ∧ okDc s.2 ∧ s.2.xs = d.xs) (fun s => dDisk s.1) (fun s => [rDc b s.2]) := by
  refine spec_of_body Try.func44 rfl rfl (fun I F => ?_)
  refine run_seq ?_
  have hd1 := Dc.next_ok h
  have hv2 := Dc.val_lt (d := d) (n := 200) (by omega)
  have hv20 := Dc.val_nonneg (d := d) (n := 200) (by omega)
  have hv5 := Dc.val_lt (d := d.next) (n := 5) (by omega)
  have hv50 := Dc.val_nonneg (d := d.next) (n := 5) (by omega)
  have hnw := diceD_new (s := 1 + d.val 200) (by omega)
  refine run_region ?_
  refine run_new (loc_allocOwn (by simp)) rfl (fun b1 _ => ?_)
  refine run_nil ?_
  refine run_seq ?_
  refine run_region ?_
  refine run_op (loc_move rfl) rfl ?_
  refine run_callM rfl (by first | exact .here | exact .there .here | exact .there (.there .here) | exact .there (.there (.there .here)) | exact .there (.there (.there (.there .here))) | exact .there (.there (.there (.there (.there .here))))) (pick_spec _ _ _ (by assumption) (by omega)) rfl (fun s2 hs2 => ?_)
  first | refine run_op (loc_add rfl rfl (by first | omega | assumption)) rfl ?_ | refine run_op (loc_addW rfl rfl) rfl ?_
  refine run_op (loc_call (rnewD_spec _) rfl) rfl ?_
  refine run_op (loc_move rfl) rfl ?_
  refine run_op (loc_extract rfl rfl) rfl ?_
  refine run_op (loc_extract rfl rfl) rfl ?_
  refine run_new (loc_allocOwn (by simp)) rfl (fun b3 _ => ?_)
  refine run_storeN (ho := (by show OneAll [_, _, _]; infer_instance)) rfl rfl (by first | exact .here | exact .there .here | exact .there (.there .here) | exact .there (.there (.there .here)) | exact .there (.there (.there (.there .here))) | exact .there (.there (.there (.there (.there .here))))) (by rfl) ?_
  refine run_op (loc_assign rfl) rfl ?_
  refine run_nil ?_
  refine run_seq ?_
  refine run_seq ?_
  refine run_region ?_
  refine run_op (loc_move rfl) rfl ?_
  refine run_callM rfl (by first | exact .here | exact .there .here | exact .there (.there .here) | exact .there (.there (.there .here)) | exact .there (.there (.there (.there .here))) | exact .there (.there (.there (.there (.there .here))))) (pick_spec _ _ _ (by assumption) (by omega)) rfl (fun s3 hs3 => ?_)
  refine run_op (loc_assign rfl) rfl ?_
  refine run_nil ?_
  refine run_block ?_
  refine run_front (.there (.there (.here))) ?_
  refine run_front (.there (.here)) ?_
  refine run_loopF (σ := Int × Disk × Dc) (ks := [0, 2, 3]) (.cons rfl (.cons rfl (.cons rfl (.nil)))) (fun s => [(5, dInt .i64 s.1)]) (fun s => [rCells b3 49 (cDisk s.2.1), rDc b s.2.2]) (fun s => (0 ≤ s.1 ∧ s.1 ≤ 5) ∧ diceD (5 * (5 - s.1)) s.2.1 ∧ okDc s.2.2 ∧ s.2.2.xs = d.xs) (fun s => s.1.toNat) ((d.next.val 5, newD (1 + d.val 200), d.next.next)) (⟨⟨by simp only; omega, by simp only; omega⟩, ⟨hnw.ok, hnw.apart, by have := hnw.few; simp only; omega⟩, Dc.next_ok (Dc.next_ok h), rfl⟩) (.cons rfl (by first | exact fun _ _ h => h | exact d_int (by omega) | exact d_int (by simp) | exact d_intN (by omega) | exact d_any) .nil) (rfl) ?_
  rintro s ⟨h1, hdk, hdc, hxs⟩ ih4
  have hok := hdk.ok
  have most := hok.most
  have dr := hok.drawn
  have hd1 := Dc.next_ok hdc
  have hd2 := Dc.next_ok hd1
  have hd3 := Dc.next_ok hd2
  have hd4 := Dc.next_ok hd3
  have hd5 := Dc.next_ok hd4
  have hd6 := Dc.next_ok hd5
  have hv0 := Dc.val_nonneg (d := s.2.2) (n := 6) (by omega)
  have hw0 := Dc.val_lt (d := s.2.2) (n := 6) (by omega)
  have hv1 := Dc.val_nonneg (d := s.2.2.next) (n := 3) (by omega)
  have hw1 := Dc.val_lt (d := s.2.2.next) (n := 3) (by omega)
  have hv2 := Dc.val_nonneg (d := s.2.2.next.next) (n := 9) (by omega)
  have hw2 := Dc.val_lt (d := s.2.2.next.next) (n := 9) (by omega)
  have hv3 := Dc.val_nonneg (d := s.2.2.next.next.next) (n := 6) (by omega)
  have hw3 := Dc.val_lt (d := s.2.2.next.next.next) (n := 6) (by omega)
  have hv4 := Dc.val_nonneg (d := s.2.2.next.next.next.next) (n := 4) (by omega)
  have hw4 := Dc.val_lt (d := s.2.2.next.next.next.next) (n := 4) (by omega)
  have hv5 := Dc.val_nonneg (d := s.2.2.next.next.next.next.next) (n := 6) (by omega)
  have hw5 := Dc.val_lt (d := s.2.2.next.next.next.next.next) (n := 6) (by omega)
  have hdb : diceD (5 * (5 - (s.1 - 1))) (beginD s.2.1 (s.2.2.val 6) (1 + s.2.2.next.val 3) (2 + s.2.2.next.next.val 9) (s.2.2.next.next.next.val 6)) := diceD_begin hdk (by omega)
  have hbk := hdb.ok
  have bmost := hbk.most
  have bdr := hbk.drawn
  refine run_seq ?_
  refine run_seq ?_
  refine run_region ?_
  refine run_op (loc_move rfl) rfl ?_
  refine run_op (loc_gtr rfl rfl) rfl ?_
  refine run_nil ?_
  refine run_cond rfl (fun h5 => ?_) (fun h5 => ?_)
  ·
    refine run_skip ?_
    refine run_seq ?_
    refine run_block ?_
    refine run_seq ?_
    refine dr_start _ (.none) [⟨[(3, none)], [], some (0, 0, false)⟩,
        ⟨[(0, none)], [], none⟩,
        ⟨[(21, some (1, false))], [1], some (1, 0, true)⟩,
        ⟨[(0, none)], [], none⟩,
        ⟨[(23, some (3, false))], [1, 2, 3], some (1, 1, true)⟩,
        ⟨[(24, some (4, false))], [1, 2, 3, 4], none⟩,
        ⟨[(0, none)], [], none⟩,
        ⟨[(26, some (6, false))], [1, 2, 3, 4, 6], some (1, 2, true)⟩,
        ⟨[(27, some (7, false))], [1, 2, 3, 4, 6, 7], none⟩,
        ⟨[(0, none)], [], none⟩,
        ⟨[(29, some (9, false))], [1, 2, 3, 4, 6, 7, 9], some (1, 3, true)⟩,
        ⟨[(20, some (0, false)), (22, some (2, false)), (25, some (5, false)), (28, some (8, false)), (30, some (10, false))], [0, 1, 2, 3, 4, 5, 6, 7, 8, 9, 10], none⟩,
        ⟨[(31, some (11, false))], [0, 1, 2, 3, 4, 5, 6, 7, 8, 9, 10, 11], none⟩,
        ⟨[(19, some (12, false))], [0, 1, 2, 3, 4, 5, 6, 7, 8, 9, 10, 11, 12], none⟩,
        ⟨[(19, some (12, false))], [0, 1, 2, 3, 4, 5, 6, 7, 8, 9, 10, 11, 12], none⟩,
        ⟨[(19, some (12, false))], [0, 1, 2, 3, 4, 5, 6, 7, 8, 9, 10, 11, 12], none⟩,
        ⟨[(3, none), (32, some (13, false))], [0, 1, 2, 3, 4, 5, 6, 7, 8, 9, 10, 11, 12, 13], some (0, 0, true)⟩] [_, _, _] _ rfl rfl ?_
    refine dq_read rfl (fun s => .g rfl (.nil)) rfl rfl (fun s hs _ hm => loc_loadOwnN rfl hm (by rfl)) (by exact .nil) ?_
    refine dq_pure rfl (fun s => .g rfl (.nil)) (fun s hs _ => loc_move rfl) (by exact .nil) ?_
    refine dq_write rfl (fun s => .op rfl (.nil)) rfl rfl (fun s hs => loc_callM (pick_spec _ _ _ (by assumption) (by omega)) rfl) (by exact .nil) ?_
    refine dq_pure rfl (fun s => .g rfl (.nil)) (fun s hs _ => loc_move rfl) (by exact .nil) ?_
    refine dq_write rfl (fun s => .op rfl (.nil)) rfl rfl (fun s hs => loc_callM (pick_spec _ _ _ (by assumption) (by omega)) rfl) (by exact .nil) ?_
    first | refine dq_pure rfl (fun s => .op rfl (.nil)) (fun s hs _ => loc_add rfl rfl (by first | omega | assumption)) (by exact .nil) ?_ | refine dq_pure rfl (fun s => .op rfl (.nil)) (fun s hs _ => loc_addW rfl rfl) (by exact .nil) ?_
    refine dq_pure rfl (fun s => .g rfl (.nil)) (fun s hs _ => loc_move rfl) (by exact .nil) ?_
    refine dq_write rfl (fun s => .op rfl (.nil)) rfl rfl (fun s hs => loc_callM (pick_spec _ _ _ (by assumption) (by omega)) rfl) (by exact .nil) ?_
    first | refine dq_pure rfl (fun s => .op rfl (.nil)) (fun s hs _ => loc_add rfl rfl (by first | omega | assumption)) (by exact .nil) ?_ | refine dq_pure rfl (fun s => .op rfl (.nil)) (fun s hs _ => loc_addW rfl rfl) (by exact .nil) ?_
    refine dq_pure rfl (fun s => .g rfl (.nil)) (fun s hs _ => loc_move rfl) (by exact .nil) ?_
    refine dq_write rfl (fun s => .op rfl (.nil)) rfl rfl (fun s hs => loc_callM (pick_spec _ _ _ (by assumption) (by omega)) rfl) (by exact .nil) ?_
    refine dq_pure rfl (fun s => .op rfl (.op rfl (.op rfl (.op rfl (.op rfl (.nil)))))) (fun s hs _ => loc_call (rbegin_spec _ _ _ _ _ (by omega)) rfl) (by exact .nil) ?_
    refine dq_pure rfl (fun s => .op rfl (.nil)) (fun s hs _ => loc_move rfl) (by exact .nil) ?_
    refine dq_pure rfl (fun s => .op rfl (.nil)) (fun s hs _ => loc_extract rfl rfl) (by exact .nil) ?_
    refine dq_pure rfl (fun s => .op rfl (.nil)) (fun s hs _ => loc_extract rfl rfl) (by exact .nil) ?_
    refine dq_pure rfl (fun s => .op rfl (.nil)) (fun s hs _ => loc_extract rfl rfl) (by exact .nil) ?_
    refine dq_write0 rfl (fun s => .g rfl (.op rfl (.nil))) rfl rfl (fun s hs => loc_storeN (ho := (by show OneAll [_, _, _]; infer_instance)) rfl rfl rfl) (by exact .nil) ?_
    refine dq_end (rs := [_, _, _]) () rfl (fun _ => rfl) (.nil) rfl (fun _ _ => ?_)
    dsimp only [outG, outM, List.map, List.set, id]
    refine run_seq ?_
    refine run_region ?_
    refine run_op (loc_move rfl) rfl ?_
    refine run_callM rfl (by first | exact .here | exact .there .here | exact .there (.there .here) | exact .there (.there (.there .here)) | exact .there (.there (.there (.there .here))) | exact .there (.there (.there (.there (.there .here))))) (pick_spec _ _ _ (by assumption) (by omega)) rfl (fun s6 hs6 => ?_)
    refine run_op (loc_eql rfl rfl) rfl ?_
    refine run_nil ?_
    refine run_cond rfl (fun h7 => ?_) (fun h7 => ?_)
    ·
      refine dr_start _ (.none) [⟨[(3, none)], [], some (0, 0, false)⟩,
          ⟨[(0, none)], [], none⟩,
          ⟨[(40, some (1, false))], [1], some (1, 0, true)⟩,
          ⟨[(39, some (0, false)), (41, some (2, false))], [0, 1, 2], none⟩,
          ⟨[(42, some (3, false))], [0, 1, 2, 3], none⟩,
          ⟨[(38, some (4, false))], [0, 1, 2, 3, 4], none⟩,
          ⟨[(38, some (4, false))], [0, 1, 2, 3, 4], none⟩,
          ⟨[(3, none), (43, some (5, false))], [0, 1, 2, 3, 4, 5], some (0, 0, true)⟩] [_, _, _] _ rfl rfl ?_
      refine dq_read rfl (fun s => .g rfl (.nil)) rfl rfl (fun s hs _ hm => loc_loadOwnN rfl hm (by rfl)) (by exact .nil) ?_
      refine dq_pure rfl (fun s => .g rfl (.nil)) (fun s hs _ => loc_move rfl) (by exact .nil) ?_
      refine dq_write rfl (fun s => .op rfl (.nil)) rfl rfl (fun s hs => loc_callM (pick_spec _ _ _ (by assumption) (by omega)) rfl) (by exact .nil) ?_
      refine dq_pure rfl (fun s => .op rfl (.op rfl (.nil))) (fun s hs _ => loc_call (rendD_spec _ _ (by omega)) rfl) (by exact .nil) ?_
      refine dq_pure rfl (fun s => .op rfl (.nil)) (fun s hs _ => loc_move rfl) (by exact .nil) ?_
      refine dq_pure rfl (fun s => .op rfl (.nil)) (fun s hs _ => loc_extract rfl rfl) (by exact .nil) ?_
      refine dq_pure rfl (fun s => .op rfl (.nil)) (fun s hs _ => loc_extract rfl rfl) (by exact .nil) ?_
      refine dq_write0 rfl (fun s => .g rfl (.op rfl (.nil))) rfl rfl (fun s hs => loc_storeN (ho := (by show OneAll [_, _, _]; infer_instance)) rfl rfl rfl) (by exact .nil) ?_
      refine dq_end (rs := [_, _, _]) () rfl (fun _ => rfl) (.nil) rfl (fun _ _ => ?_)
      dsimp only [outG, outM, List.map, List.set, id]
      refine run_inBlock ?_
      refine run_region ?_
      refine run_op (loc_move rfl) rfl ?_
      first | refine run_op (loc_sub rfl rfl (by first | omega | assumption)) rfl ?_ | refine run_op (loc_subW rfl rfl) rfl ?_
      refine run_op (loc_assign rfl) rfl ?_
      refine run_nil ?_
      exact run_againF ih4 ((s.1 - 1, endD (beginD s.2.1 (s.2.2.val 6) (1 + s.2.2.next.val 3) (2 + s.2.2.next.next.val 9) (s.2.2.next.next.next.val 6)) (s.2.2.next.next.next.next.next.val 6), s.2.2.next.next.next.next.next.next)) (⟨⟨by simp only; omega, by simp only; omega⟩, diceD_end hdb, hd6, hxs⟩) (by simp only; omega) (.cons rfl (by first | exact fun _ _ h => h | exact d_int (by omega) | exact d_int (by simp) | exact d_intN (by omega) | exact d_any) .nil) (.cons rfl (fun _ _ x => x) (.cons rfl (fun _ _ x => x) (.cons rfl (fun _ _ x => x) (.nil)))) (rfl)
    ·
      refine run_skip ?_
      refine run_inBlock ?_
      refine run_region ?_
      refine run_op (loc_move rfl) rfl ?_
      first | refine run_op (loc_sub rfl rfl (by first | omega | assumption)) rfl ?_ | refine run_op (loc_subW rfl rfl) rfl ?_
      refine run_op (loc_assign rfl) rfl ?_
      refine run_nil ?_
      exact run_againF ih4 ((s.1 - 1, (beginD s.2.1 (s.2.2.val 6) (1 + s.2.2.next.val 3) (2 + s.2.2.next.next.val 9) (s.2.2.next.next.next.val 6)), s.2.2.next.next.next.next.next)) (⟨⟨by simp only; omega, by simp only; omega⟩, hdb, hd5, hxs⟩) (by simp only; omega) (.cons rfl (by first | exact fun _ _ h => h | exact d_int (by omega) | exact d_int (by simp) | exact d_intN (by omega) | exact d_any) .nil) (.cons rfl (fun _ _ x => x) (.cons rfl (fun _ _ x => x) (.cons rfl (fun _ _ x => x) (.nil)))) (rfl)
  ·
    refine run_exit rfl ?_
    refine run_seq ?_
    refine run_region ?_
    refine run_op (loc_loadOwnN rfl (by first | exact .here | exact .there .here | exact .there (.there .here) | exact .there (.there (.there .here)) | exact .there (.there (.there (.there .here))) | exact .there (.there (.there (.there (.there .here))))) (by rfl)) rfl ?_
    refine run_storeN (ho := (by show OneAll [_, _, _]; infer_instance)) rfl rfl (by first | exact .here | exact .there .here | exact .there (.there .here) | exact .there (.there (.there .here)) | exact .there (.there (.there (.there .here))) | exact .there (.there (.there (.there (.there .here))))) (by rfl) ?_
    refine run_nil ?_
    refine run_retG (s.2) Try.func44 rfl (.cellN rfl (by first | exact .here | exact .there .here | exact .there (.there .here) | exact .there (.there (.there .here)) | exact .there (.there (.there (.there .here))) | exact .there (.there (.there (.there (.there .here))))) (by rfl) (.nil)) ?_ (⟨⟨hdk.ok, hdk.apart, by have := hdk.few; omega⟩, hdc, hxs⟩) (fun _ _ h => h.sub (.cons _ (.cons_cons _ (.cons _ (.refl _)))))
    exact fun _ _ h => h

end Go.Q
