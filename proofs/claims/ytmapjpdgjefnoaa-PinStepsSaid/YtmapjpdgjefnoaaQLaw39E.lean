/- The law of the steps of pins. -/
import Derived.Test.YtmapjpdgjefnoaaQPinS
import Derived.Test.YtmapjpdgjefnoaaQOps5
set_option linter.unusedVariables false
set_option linter.unusedSimpArgs false
namespace Go.Q
open Go.Proofs

open Classical
theorem dice_okE {xs : List Int} (h : ∀ x ∈ xs, 0 ≤ x ∧ x ≤ 255) : okDc ⟨xs.take 300, 0⟩ := ⟨fun x hm => h x (List.mem_of_mem_take hm), by simp; omega⟩
abbrev fP : Pins → List D := cPins
theorem pinSteps_spec (xs : List Int) (raw : Pins) (v u : Int) (hx : ∀ x ∈ xs, 0 ≤ x ∧ x ≤ 255) : SpecP Try.prog 9 [dBy xs, dPins raw, dInt .i64 v, dInt .i64 u] (dB True) := by
  refine specP_of_body Try.func9 rfl rfl (fun I M => ?_)
  refine run_seq ?_
  refine run_region ?_
  refine run_op (loc_boxN rfl) rfl ?_
  refine run_op (loc_assign rfl) rfl ?_
  refine run_nil ?_
  refine run_seq ?_
  refine run_seq ?_
  refine run_region ?_
  refine run_op (loc_call (sane39_spec) rfl) rfl ?_
  refine run_op (loc_not rfl) rfl ?_
  refine run_nil ?_
  refine run_cond rfl (fun h1 => ?_) (fun h1 => ?_)
  · exfalso; exact h1 trivial
  ·
    refine run_skip ?_
    refine run_seq ?_
    refine run_seq ?_
    refine run_region ?_
    refine run_op (loc_fieldAddr rfl) rfl ?_
    refine run_op (loc_load1 rfl) rfl ?_
    first | refine runL_fact (s := 43) rfl (fun _ _ h => dSl_len h) (fun hlen2 => ?_) | skip
    refine run_op (loc_len rfl) rfl ?_
    refine run_op (loc_gtr rfl rfl) rfl ?_
    refine run_op (loc_move rfl) rfl ?_
    refine run_gfirst rfl rfl (by first | exact guard_true _ | exact guard_false _ | exact guard_if (guard_true _) | exact guard_if (guard_false _)) (fun hg => loc_fieldAddr rfl) rfl ?_
    refine run_gop rfl rfl (by first | exact guard_true _ | exact guard_false _ | exact guard_if (guard_true _) | exact guard_if (guard_false _)) (fun hg => loc_load1 rfl) rfl ?_
    refine run_gop rfl rfl (by first | exact guard_true _ | exact guard_false _ | exact guard_if (guard_true _) | exact guard_if (guard_false _)) (fun hg => loc_len rfl) rfl ?_
    refine run_gop rfl rfl (by first | exact guard_true _ | exact guard_false _ | exact guard_if (guard_true _) | exact guard_if (guard_false _)) (fun hg => loc_gtr rfl rfl) rfl ?_
    refine run_gleave ?_
    refine run_op (loc_or rfl rfl) rfl ?_
    refine run_nil ?_
    refine run_cond rfl (fun h3 => ?_) (fun h3 => ?_)
    ·
      refine run_seq ?_
      refine run_region ?_
      refine run_op (loc_assign rfl) rfl ?_
      refine run_nil ?_
      refine run_retP Try.func9 rfl rfl ?_
      exact d_B (by simp)
    ·
      refine run_skip ?_
      refine run_seq ?_
      refine run_region ?_
      refine run_op (loc_move rfl) rfl ?_
      refine run_callN rfl (dnew_spec _) rfl (fun bd hbd => ?_)
      refine run_op (loc_assign rfl) rfl ?_
      refine run_nil ?_
      refine run_seq ?_
      refine run_region ?_
      refine run_op (loc_move rfl) rfl ?_
      refine run_callM rfl (by first | exact .here | exact .there .here | exact .there (.there .here) | exact .there (.there (.there .here)) | exact .there (.there (.there (.there .here))) | exact .there (.there (.there (.there (.there .here))))) (dpins_spec _ _ (dice_okE hx)) rfl (fun pd hpd => ?_)
      refine run_new (loc_allocOwn (by simp)) rfl (fun b4 _ => ?_)
      refine run_storeN (ho := (by show OneAll [_, _]; infer_instance)) rfl rfl (by first | exact .here | exact .there .here | exact .there (.there .here) | exact .there (.there (.there .here)) | exact .there (.there (.there (.there .here))) | exact .there (.there (.there (.there (.there .here))))) (by rfl) ?_
      refine run_nil ?_
      obtain ⟨hok, hdc, -, hse, hnw⟩ := hpd
      have one := hok.one
      have most := hok.most
      have reads := hok.reads
      have nb := newest_bd hok
      have hd1 := Dc.next_ok hdc
      have hv3 := Dc.val_lt (d := pd.2.next) (n := 3) (by omega)
      have hv30 := Dc.val_nonneg (d := pd.2.next) (n := 3) (by omega)
      have hvl := Dc.val_lt (d := pd.2) (n := (pd.1.kept.length : Nat)) (by omega)
      have hvl0 := Dc.val_nonneg (d := pd.2) (n := (pd.1.kept.length : Nat)) (by omega)
      have hki := (hok.kept (pd.2.val (pd.1.kept.length : Nat)).toNat (by omega)).1
      have hki2 := (hok.kept (pd.2.val (pd.1.kept.length : Nat)).toNat (by omega)).2.1
      refine run_seq ?_
      refine run_region ?_
      refine run_op (loc_loadOwnN rfl (by first | exact .here | exact .there .here | exact .there (.there .here) | exact .there (.there (.there .here)) | exact .there (.there (.there (.there .here))) | exact .there (.there (.there (.there (.there .here))))) (by rfl)) rfl ?_
      refine run_new (loc_allocOwn (by simp)) rfl (fun b5 _ => ?_)
      refine run_storeN (ho := (by show OneAll [_, _]; infer_instance)) rfl rfl (by first | exact .here | exact .there .here | exact .there (.there .here) | exact .there (.there (.there .here)) | exact .there (.there (.there (.there .here))) | exact .there (.there (.there (.there (.there .here))))) (by rfl) ?_
      refine run_nil ?_
      refine run_seq ?_
      refine run_region ?_
      refine run_new (loc_build0 fI) rfl (fun b6 _ => ?_)
      refine run_op (loc_fieldAddrOwn rfl) rfl ?_
      refine run_op (loc_loadOwn1 rfl (by first | exact .here | exact .there .here | exact .there (.there .here) | exact .there (.there (.there .here)) | exact .there (.there (.there (.there .here))) | exact .there (.there (.there (.there (.there .here))))) (by rfl)) rfl ?_
      refine run_append rfl (by first | exact .here | exact .there .here | exact .there (.there .here) | exact .there (.there (.there .here)) | exact .there (.there (.there (.there .here))) | exact .there (.there (.there (.there (.there .here))))) rfl (by rfl) (by first | omega | (unfold lenMax; omega) | assumption | (simp; omega) | (simp [lenMax]; omega)) (by first | omega | (unfold lenMax; omega) | assumption | (simp; omega) | (simp [lenMax]; omega)) rfl (fun v7 => ?_)
      refine run_op (loc_fieldAddrOwn rfl) rfl ?_
      refine runL_rowV (s := 60) rfl (.here) ?_
      refine run_store1 rfl rfl (by first | exact .here | exact .there .here | exact .there (.there .here) | exact .there (.there (.there .here)) | exact .there (.there (.there (.there .here))) | exact .there (.there (.there (.there (.there .here))))) (by rfl) ?_
      refine run_nil ?_
      rw [List.nil_append]
      refine run_seq ?_
      refine run_rowForm (.here) (by omega) (fun bq cq hvq => ?_)
      subst hvq
      refine dr_start (Unit) (fun _ => True) 15 [⟨[(11, none)], [], none⟩,
          ⟨[(62, some (0, false))], [0], some (1, 0, false)⟩,
          ⟨[(9, none)], [], none⟩,
          ⟨[(11, none)], [], none⟩,
          ⟨[(65, some (3, false))], [3], some (1, 0, false)⟩,
          ⟨[(66, some (4, false))], [3, 4], some (0, 0, false)⟩,
          ⟨[(64, some (2, false)), (67, some (5, false))], [2, 3, 4, 5], some (3, 0, true)⟩,
          ⟨[(63, some (1, false)), (68, some (6, false))], [0, 1, 2, 3, 4, 5, 6], none⟩,
          ⟨[(69, some (7, false))], [0, 1, 2, 3, 4, 5, 6, 7], some (0, 0, false)⟩,
          ⟨[(9, none)], [], none⟩,
          ⟨[(71, some (9, false))], [2, 3, 4, 5, 6, 9], some (3, 1, true)⟩,
          ⟨[(72, some (10, false))], [2, 3, 4, 5, 6, 9, 10], none⟩,
          ⟨[(70, some (8, false)), (73, some (11, false))], [0, 1, 2, 3, 4, 5, 6, 7, 8, 9, 10, 11], none⟩,
          ⟨[(63, some (1, false)), (68, some (6, false))], [0, 1, 2, 3, 4, 5, 6, 7, 8, 9, 10, 11, 12], none⟩,
          ⟨[(75, some (13, false)), (74, some (12, false))], [0, 1, 2, 3, 4, 5, 6, 7, 8, 9, 10, 11, 12, 13], some (0, 0, true)⟩] [_, _, _, _] _ rfl rfl ?_
      refine dq_pure rfl (fun s => .g rfl (.nil)) (fun s hs _ => loc_fieldAddrOwn rfl) (by first | exact .inl fun _ _ => rfl | exact .inr rfl) ?_
      first | refine dq_read rfl (fun s => .op rfl (.nil)) rfl rfl (fun s hs _ hm => LocP.upV (loc_loadOwn1 rfl hm (by rfl))) (by first | exact .inl fun _ _ => rfl | exact .inr rfl) ?_ | refine dq_read rfl (fun s => .op rfl (.nil)) rfl rfl (fun s hs _ hm => loc_loadOwn1 rfl hm (by rfl)) (by first | exact .inl fun _ _ => rfl | exact .inr rfl) ?_
      refine dq_pure rfl (fun s => .g rfl (.nil)) (fun s hs _ => loc_move rfl) (by first | exact .inl fun _ _ => rfl | exact .inr rfl) ?_
      refine dq_pure rfl (fun s => .g rfl (.nil)) (fun s hs _ => loc_fieldAddrOwn rfl) (by first | exact .inl fun _ _ => rfl | exact .inr rfl) ?_
      first | refine dq_read rfl (fun s => .op rfl (.nil)) rfl rfl (fun s hs _ hm => LocP.upV (loc_loadOwn1 rfl hm (by rfl))) (by first | exact .inl fun _ _ => rfl | exact .inr rfl) ?_ | refine dq_read rfl (fun s => .op rfl (.nil)) rfl rfl (fun s hs _ hm => loc_loadOwn1 rfl hm (by rfl)) (by first | exact .inl fun _ _ => rfl | exact .inr rfl) ?_
      refine dq_read rfl (fun s => .op rfl (.nil)) rfl rfl (fun s hs _ hm => loc_lenRow rfl hm) (by first | exact .inl fun _ _ => rfl | exact .inr rfl) ?_
      refine dq_write rfl (fun s => .op rfl (.op rfl (.nil))) rfl rfl (fun s hs => loc_callM (pick_spec _ _ _ (by assumption) (by omega)) rfl) (by first | exact .inl fun _ _ => ⟨rfl, rfl⟩ | exact .inr rfl) ?_
      first | refine dq_pure rfl (fun s => .op rfl (.op rfl (.nil))) (fun s hs _ => loc_indexRow rfl rfl (by first | omega | assumption)) (by first | exact .inl fun _ _ => rfl | exact .inr rfl) ?_ | refine dq_pure rfl (fun s => .op rfl (.op rfl (.nil))) (fun s hs _ => loc_indexRowI rfl rfl (by first | omega | assumption)) (by first | exact .inl fun _ _ => rfl | exact .inr rfl) ?_
      refine dq_read rfl (fun s => .op rfl (.nil)) rfl rfl (fun s hs _ hm => loc_loadRow1 rfl hm (by first | omega | assumption)) (by first | exact .inl fun _ _ => rfl | exact .inr rfl) ?_
      refine dq_pure rfl (fun s => .g rfl (.nil)) (fun s hs _ => loc_move rfl) (by first | exact .inl fun _ _ => rfl | exact .inr rfl) ?_
      refine dq_write rfl (fun s => .op rfl (.nil)) rfl rfl (fun s hs => loc_callM (pick_spec _ _ _ (by assumption) (by omega)) rfl) (by first | exact .inl fun _ _ => ⟨rfl, rfl⟩ | exact .inr rfl) ?_
      first | refine dq_pure rfl (fun s => .op rfl (.nil)) (fun s hs _ => loc_sub rfl rfl (by first | omega | assumption)) (by first | exact .inl fun _ _ => rfl | exact .inr rfl) ?_ | refine dq_pure rfl (fun s => .op rfl (.nil)) (fun s hs _ => loc_subW rfl rfl) (by first | exact .inl fun _ _ => rfl | exact .inr rfl) ?_
      first | refine dq_pure rfl (fun s => .op rfl (.op rfl (.nil))) (fun s hs _ => loc_add rfl rfl (by first | omega | assumption)) (by first | exact .inl fun _ _ => rfl | exact .inr rfl) ?_ | refine dq_pure rfl (fun s => .op rfl (.op rfl (.nil))) (fun s hs _ => loc_addW rfl rfl) (by first | exact .inl fun _ _ => rfl | exact .inr rfl) ?_
      first | refine dq_pure rfl (fun s => .op rfl (.op rfl (.nil))) (fun s hs _ => loc_indexRow rfl rfl (by first | omega | assumption)) (by first | exact .inl fun _ _ => rfl | exact .inr rfl) ?_ | refine dq_pure rfl (fun s => .op rfl (.op rfl (.nil))) (fun s hs _ => loc_indexRowI rfl rfl (by first | omega | assumption)) (by first | exact .inl fun _ _ => rfl | exact .inr rfl) ?_
      refine dq_write0 rfl (fun s => .op rfl (.op rfl (.nil))) rfl rfl (fun s hs => loc_storeRow1 _ rfl rfl rfl (by first | omega | assumption)) (by first | exact .inl fun _ _ => rfl | exact .inr rfl) ?_
      refine dq_end (rs := [_, _, _, _]) () rfl (fun _ => rfl) (fun _ _ => trivial) rfl (fun _ _ => ?_)
      dsimp only [outG, outM, List.map, List.set]
      first | refine run_freezeRowCellV (kk := 1) (.here) (.here) rfl ?_ | refine run_freezeRowCell (kk := 1) (.here) (.here) rfl ?_
      refine run_seq ?_
      refine run_region ?_
      refine run_op (loc_move rfl) rfl ?_
      refine run_op (loc_call (pnew_spec _) rfl) rfl ?_
      refine run_op (loc_move rfl) rfl ?_
      refine run_op (loc_extract rfl rfl) rfl ?_
      refine run_op (loc_extract rfl rfl) rfl ?_
      refine run_new (loc_allocOwn (by simp)) rfl (fun b8 _ => ?_)
      refine run_storeN (ho := (by show OneAll [_, _]; infer_instance)) rfl rfl (by first | exact .here | exact .there .here | exact .there (.there .here) | exact .there (.there (.there .here)) | exact .there (.there (.there (.there .here))) | exact .there (.there (.there (.there (.there .here))))) (by rfl) ?_
      refine run_op (loc_assign rfl) rfl ?_
      refine run_nil ?_
      refine run_seq ?_
      refine run_region ?_
      refine run_op (loc_move rfl) rfl ?_
      refine run_op (loc_call (rpnew_spec _) rfl) rfl ?_
      refine run_op (loc_move rfl) rfl ?_
      refine run_op (loc_extract rfl rfl) rfl ?_
      refine run_op (loc_extract rfl rfl) rfl ?_
      refine run_new (loc_allocOwn (by simp)) rfl (fun b9 _ => ?_)
      refine run_storeN (ho := (by show OneAll [_, _]; infer_instance)) rfl rfl (by first | exact .here | exact .there .here | exact .there (.there .here) | exact .there (.there (.there .here)) | exact .there (.there (.there (.there .here))) | exact .there (.there (.there (.there (.there .here))))) (by rfl) ?_
      refine run_op (loc_assign rfl) rfl ?_
      refine run_nil ?_
      refine run_seq ?_
      refine run_seq ?_
      refine run_region ?_
      refine run_op (loc_move rfl) rfl ?_
      refine run_op (loc_move rfl) rfl ?_
      refine run_op (loc_neq rfl rfl) rfl ?_
      refine run_op (loc_move rfl) rfl ?_
      refine run_gfirst rfl rfl (by first | exact guard_true _ | exact guard_false _ | exact guard_if (guard_true _) | exact guard_if (guard_false _)) (fun hg => loc_loadOwnN rfl (by first | exact .here | exact .there .here | exact .there (.there .here) | exact .there (.there (.there .here)) | exact .there (.there (.there (.there .here))) | exact .there (.there (.there (.there (.there .here))))) (by rfl)) rfl ?_
      refine run_gop rfl rfl (by first | exact guard_true _ | exact guard_false _ | exact guard_if (guard_true _) | exact guard_if (guard_false _)) (fun hg => loc_loadOwnN rfl (by first | exact .here | exact .there .here | exact .there (.there .here) | exact .there (.there (.there .here)) | exact .there (.there (.there (.there .here))) | exact .there (.there (.there (.there (.there .here))))) (by rfl)) rfl ?_
      refine run_gop rfl rfl (by first | exact guard_true _ | exact guard_false _ | exact guard_if (guard_true _) | exact guard_if (guard_false _)) (fun hg => loc_call (rsameP_spec _ _) rfl) rfl ?_
      refine run_gop rfl rfl (by first | exact guard_true _ | exact guard_false _ | exact guard_if (guard_true _) | exact guard_if (guard_false _)) (fun hg => loc_not rfl) rfl ?_
      refine run_gleave ?_
      refine run_op (loc_or rfl rfl) rfl ?_
      refine run_nil ?_
      refine run_cond rfl (fun h10 => ?_) (fun h10 => ?_)
      · exfalso; simp at h10
      ·
        refine run_skip ?_
        refine run_seq ?_
        refine run_seq ?_
        refine run_region ?_
        refine run_op (loc_loadOwnN rfl (by first | exact .here | exact .there .here | exact .there (.there .here) | exact .there (.there (.there .here)) | exact .there (.there (.there (.there .here))) | exact .there (.there (.there (.there (.there .here))))) (by rfl)) rfl ?_
        refine run_op (loc_loadOwnN rfl (by first | exact .here | exact .there .here | exact .there (.there .here) | exact .there (.there (.there .here)) | exact .there (.there (.there (.there .here))) | exact .there (.there (.there (.there (.there .here))))) (by rfl)) rfl ?_
        refine run_op (loc_loadN rfl rfl) rfl ?_
        refine run_op (loc_buildSlice rfl rfl (.agg rfl (.agg rfl (.agg rfl (.nil)))) rfl rfl) rfl ?_
        refine runL_recast (s := 98) rfl (d_sl (ys := [pd.1, ⟨pd.1.rows, pd.1.kept.set ((pd.2.val (pd.1.kept.length : Nat)).toNat) (pd.1.kept[(pd.2.val (pd.1.kept.length : Nat)).toNat]?.getD default + (pd.2.next.val 3 - 1))⟩, raw]) (h := cPins) rfl) ?_
        have hz : ∀ z ∈ ([pd.1, ⟨pd.1.rows, pd.1.kept.set ((pd.2.val (pd.1.kept.length : Nat)).toNat) (pd.1.kept[(pd.2.val (pd.1.kept.length : Nat)).toNat]?.getD default + (pd.2.next.val 3 - 1))⟩, raw] : List Pins), z.rows.length ≤ 64 ∧ z.kept.length ≤ 18 := by
          intro z hz; simp only [List.mem_cons, List.not_mem_nil, or_false] at hz; rcases hz with rfl | rfl | rfl <;> refine ⟨?_, ?_⟩ <;> first | omega | (simp; omega)
        generalize ([pd.1, ⟨pd.1.rows, pd.1.kept.set ((pd.2.val (pd.1.kept.length : Nat)).toNat) (pd.1.kept[(pd.2.val (pd.1.kept.length : Nat)).toNat]?.getD default + (pd.2.next.val 3 - 1))⟩, raw] : List Pins) = zs at hz ⊢
        first | refine runL_fact (s := 98) rfl (fun _ _ h => dSl_len h) (fun hlen11 => ?_) | skip
        refine run_op (loc_len rfl) rfl ?_
        refine run_op (loc_move rfl) rfl ?_
        refine run_nil ?_
        refine run_block ?_
        refine run_front (.there (.there (.there (.there (.here))))) ?_
        refine run_loopF (σ := Nat × Dc) (ks := [2, 3, 9, 10, 98, 99]) (.cons rfl (.cons rfl (.cons rfl (.cons rfl (.cons rfl (.cons rfl (.nil))))))) (fun s => [(100, dInt .i64 (s.1 : Nat))]) (fun s => [rDc bd s.2]) (fun s => s.1 ≤ zs.length ∧ okDc s.2) (fun s => zs.length - s.1) ((0, pd.2.next.next)) (⟨Nat.zero_le _, Dc.next_ok (Dc.next_ok hdc)⟩) (.cons rfl (by first | exact fun _ _ h => h | exact d_int (by omega) | exact d_int (by simp) | exact d_intN (by omega) | exact d_any) .nil) (rfl) ?_
        rintro s ⟨hs, hds⟩ ih12
        have hzb : s.1 < zs.length → (zs[s.1]?.getD default).rows.length ≤ 64 ∧ (zs[s.1]?.getD default).kept.length ≤ 18 := fun h => hz _ (getD_mem h)
        refine run_seq ?_
        refine run_region ?_
        refine run_op (loc_lss rfl rfl) rfl ?_
        refine run_nil ?_
        refine run_seq ?_
        refine run_cond rfl (fun h13 => ?_) (fun h13 => ?_)
        ·
          replace hzb := hzb (by omega)
          refine run_skip ?_
          refine run_seq ?_
          refine run_block ?_
          refine run_seq ?_
          refine run_region ?_
          first | refine run_op (loc_index rfl rfl (by first | omega | assumption)) rfl ?_ | refine run_op (loc_indexI rfl rfl (by first | omega | assumption)) rfl ?_
          refine run_op (loc_loadN rfl rfl) rfl ?_
          refine run_new (loc_allocOwn (by simp)) rfl (fun b14 _ => ?_)
          refine run_storeN (ho := (by show OneAll [_, _]; infer_instance)) rfl rfl (by first | exact .here | exact .there .here | exact .there (.there .here) | exact .there (.there (.there .here)) | exact .there (.there (.there (.there .here))) | exact .there (.there (.there (.there (.there .here))))) (by rfl) ?_
          refine run_nil ?_
          refine run_seq ?_
          refine run_seq ?_
          refine dr_start (Unit) (fun _ => True) 30 [⟨[(17, none)], [], some (0, 0, false)⟩,
              ⟨[(104, some (0, false))], [0], none⟩,
              ⟨[(17, none)], [], some (0, 0, false)⟩,
              ⟨[(106, some (2, false))], [0, 1, 2], none⟩,
              ⟨[(105, some (1, false)), (107, some (3, false))], [0, 1, 2, 3], none⟩,
              ⟨[(108, some (4, false))], [0, 1, 2, 3, 4], none⟩,
              ⟨[(17, none)], [0, 1, 2, 3, 4, 5], some (0, 0, false)⟩,
              ⟨[(10, none)], [0, 1, 2, 3, 4, 5], some (5, 0, false)⟩,
              ⟨[(110, some (6, true)), (111, some (7, true))], [0, 1, 2, 3, 4, 5, 6, 7], none⟩,
              ⟨[(17, none)], [0, 1, 2, 3, 4, 5], some (0, 0, false)⟩,
              ⟨[(10, none)], [0, 1, 2, 3, 4, 5], some (5, 0, false)⟩,
              ⟨[(113, some (9, true)), (114, some (10, true))], [0, 1, 2, 3, 4, 5, 6, 7, 8, 9, 10], none⟩,
              ⟨[(112, some (8, true)), (115, some (11, true))], [0, 1, 2, 3, 4, 5, 6, 7, 8, 9, 10, 11], none⟩,
              ⟨[(109, some (5, false)), (116, some (12, false))], [0, 1, 2, 3, 4, 5, 6, 7, 8, 9, 10, 11, 12], none⟩,
              ⟨[(117, some (13, false))], [0, 1, 2, 3, 4, 5, 6, 7, 8, 9, 10, 11, 12, 13], none⟩,
              ⟨[(17, none)], [0, 1, 2, 3, 4, 5, 6, 7, 8, 9, 10, 11, 12, 13, 14], some (0, 0, false)⟩,
              ⟨[(2, none)], [0, 1, 2, 3, 4, 5, 6, 7, 8, 9, 10, 11, 12, 13, 14], none⟩,
              ⟨[(119, some (15, true)), (120, some (16, true))], [0, 1, 2, 3, 4, 5, 6, 7, 8, 9, 10, 11, 12, 13, 14, 15, 16], none⟩,
              ⟨[(17, none)], [0, 1, 2, 3, 4, 5, 6, 7, 8, 9, 10, 11, 12, 13, 14], some (0, 0, false)⟩,
              ⟨[(2, none)], [0, 1, 2, 3, 4, 5, 6, 7, 8, 9, 10, 11, 12, 13, 14], none⟩,
              ⟨[(122, some (18, true)), (123, some (19, true))], [0, 1, 2, 3, 4, 5, 6, 7, 8, 9, 10, 11, 12, 13, 14, 15, 16, 17, 18, 19], none⟩,
              ⟨[(121, some (17, true)), (124, some (20, true))], [0, 1, 2, 3, 4, 5, 6, 7, 8, 9, 10, 11, 12, 13, 14, 15, 16, 17, 18, 19, 20], none⟩,
              ⟨[(118, some (14, false)), (125, some (21, false))], [0, 1, 2, 3, 4, 5, 6, 7, 8, 9, 10, 11, 12, 13, 14, 15, 16, 17, 18, 19, 20, 21], none⟩,
              ⟨[(126, some (22, false))], [0, 1, 2, 3, 4, 5, 6, 7, 8, 9, 10, 11, 12, 13, 14, 15, 16, 17, 18, 19, 20, 21, 22], none⟩,
              ⟨[(17, none)], [0, 1, 2, 3, 4, 5, 6, 7, 8, 9, 10, 11, 12, 13, 14, 15, 16, 17, 18, 19, 20, 21, 22, 23], some (0, 0, false)⟩,
              ⟨[(128, some (24, true))], [0, 1, 2, 3, 4, 5, 6, 7, 8, 9, 10, 11, 12, 13, 14, 15, 16, 17, 18, 19, 20, 21, 22, 23, 24], none⟩,
              ⟨[(17, none)], [0, 1, 2, 3, 4, 5, 6, 7, 8, 9, 10, 11, 12, 13, 14, 15, 16, 17, 18, 19, 20, 21, 22, 23], some (0, 0, false)⟩,
              ⟨[(130, some (26, true))], [0, 1, 2, 3, 4, 5, 6, 7, 8, 9, 10, 11, 12, 13, 14, 15, 16, 17, 18, 19, 20, 21, 22, 23, 24, 25, 26], none⟩,
              ⟨[(129, some (25, true)), (131, some (27, true))], [0, 1, 2, 3, 4, 5, 6, 7, 8, 9, 10, 11, 12, 13, 14, 15, 16, 17, 18, 19, 20, 21, 22, 23, 24, 25, 26, 27], none⟩,
              ⟨[(127, some (23, false)), (132, some (28, false))], [0, 1, 2, 3, 4, 5, 6, 7, 8, 9, 10, 11, 12, 13, 14, 15, 16, 17, 18, 19, 20, 21, 22, 23, 24, 25, 26, 27, 28], none⟩] [_, _, _, _, _, _] _ rfl rfl ?_
          refine dq_read rfl (fun s => .g rfl (.nil)) rfl rfl (fun s hs _ hm => loc_loadOwnN rfl hm (by rfl)) (by first | exact .inl fun _ _ => rfl | exact .inr rfl) ?_
          refine dq_pure rfl (fun s => .op rfl (.nil)) (fun s hs _ => loc_call (valid_spec _) rfl) (by first | exact .inl fun _ _ => rfl | exact .inr rfl) ?_
          refine dq_read rfl (fun s => .g rfl (.nil)) rfl rfl (fun s hs _ hm => loc_loadOwnN rfl hm (by rfl)) (by first | exact .inl fun _ _ => rfl | exact .inr rfl) ?_
          refine dq_pure rfl (fun s => .op rfl (.nil)) (fun s hs _ => loc_call (rvalid_spec _) rfl) (by first | exact .inl fun _ _ => rfl | exact .inr rfl) ?_
          refine dq_pure rfl (fun s => .op rfl (.op rfl (.nil))) (fun s hs _ => loc_neqB rfl rfl) (by first | exact .inl fun _ _ => rfl | exact .inr rfl) ?_
          refine dq_pure rfl (fun s => .op rfl (.nil)) (fun s hs _ => loc_move rfl) (by first | exact .inl fun _ _ => rfl | exact .inr rfl) ?_
          refine dq_gread rfl (fun s => .g rfl (.nil)) rfl rfl rfl (fun _ => by first | exact guard_true _ | exact guard_false _ | exact guard_if (guard_true _) | exact guard_if (guard_false _)) (fun s hs hg _ hm => loc_loadOwnN rfl hm (by rfl)) (by first | exact .inl fun _ _ => rfl | exact .inr rfl) ?_
          refine dq_gread rfl (fun s => .g rfl (.nil)) rfl rfl rfl (fun _ => by first | exact guard_true _ | exact guard_false _ | exact guard_if (guard_true _) | exact guard_if (guard_false _)) (fun s hs hg _ hm => loc_loadOwnN rfl hm (by rfl)) (by first | exact .inl fun _ _ => rfl | exact .inr rfl) ?_
          refine dq_gpure rfl (fun s => .opU rfl (.opU rfl (.nil))) rfl (fun _ => by first | exact guard_true _ | exact guard_false _ | exact guard_if (guard_true _) | exact guard_if (guard_false _)) (fun s hs hg _ => loc_call (sameP_spec _ _) rfl) (by first | exact .inl fun _ _ => rfl | exact .inr rfl) ?_
          refine dq_gread rfl (fun s => .g rfl (.nil)) rfl rfl rfl (fun _ => by first | exact guard_true _ | exact guard_false _ | exact guard_if (guard_true _) | exact guard_if (guard_false _)) (fun s hs hg _ hm => loc_loadOwnN rfl hm (by rfl)) (by first | exact .inl fun _ _ => rfl | exact .inr rfl) ?_
          refine dq_gread rfl (fun s => .g rfl (.nil)) rfl rfl rfl (fun _ => by first | exact guard_true _ | exact guard_false _ | exact guard_if (guard_true _) | exact guard_if (guard_false _)) (fun s hs hg _ hm => loc_loadOwnN rfl hm (by rfl)) (by first | exact .inl fun _ _ => rfl | exact .inr rfl) ?_
          refine dq_gpure rfl (fun s => .opU rfl (.opU rfl (.nil))) rfl (fun _ => by first | exact guard_true _ | exact guard_false _ | exact guard_if (guard_true _) | exact guard_if (guard_false _)) (fun s hs hg _ => loc_call (rsameP_spec _ _) rfl) (by first | exact .inl fun _ _ => rfl | exact .inr rfl) ?_
          refine dq_gpure rfl (fun s => .opU rfl (.opU rfl (.nil))) rfl (fun _ => by first | exact guard_true _ | exact guard_false _ | exact guard_if (guard_true _) | exact guard_if (guard_false _)) (fun s hs hg _ => loc_neqB rfl rfl) (by first | exact .inl fun _ _ => rfl | exact .inr rfl) ?_
          refine dq_pure rfl (fun s => .op rfl (.op rfl (.nil))) (fun s hs _ => loc_or rfl rfl) (by first | exact .inl fun _ _ => rfl | exact .inr rfl) ?_
          refine dq_pure rfl (fun s => .op rfl (.nil)) (fun s hs _ => loc_move rfl) (by first | exact .inl fun _ _ => rfl | exact .inr rfl) ?_
          refine dq_gread rfl (fun s => .g rfl (.nil)) rfl rfl rfl (fun _ => by first | exact guard_true _ | exact guard_false _ | exact guard_if (guard_true _) | exact guard_if (guard_false _)) (fun s hs hg _ hm => loc_loadOwnN rfl hm (by rfl)) (by first | exact .inl fun _ _ => rfl | exact .inr rfl) ?_
          refine dq_gpure rfl (fun s => .g rfl (.nil)) rfl (fun _ => by first | exact guard_true _ | exact guard_false _ | exact guard_if (guard_true _) | exact guard_if (guard_false _)) (fun s hs hg _ => loc_move rfl) (by first | exact .inl fun _ _ => rfl | exact .inr rfl) ?_
          refine dq_gpure rfl (fun s => .opU rfl (.opU rfl (.nil))) rfl (fun _ => by first | exact guard_true _ | exact guard_false _ | exact guard_if (guard_true _) | exact guard_if (guard_false _)) (fun s hs hg _ => loc_call (named_spec _ _) rfl) (by first | exact .inl fun _ _ => rfl | exact .inr rfl) ?_
          refine dq_gread rfl (fun s => .g rfl (.nil)) rfl rfl rfl (fun _ => by first | exact guard_true _ | exact guard_false _ | exact guard_if (guard_true _) | exact guard_if (guard_false _)) (fun s hs hg _ hm => loc_loadOwnN rfl hm (by rfl)) (by first | exact .inl fun _ _ => rfl | exact .inr rfl) ?_
          refine dq_gpure rfl (fun s => .g rfl (.nil)) rfl (fun _ => by first | exact guard_true _ | exact guard_false _ | exact guard_if (guard_true _) | exact guard_if (guard_false _)) (fun s hs hg _ => loc_move rfl) (by first | exact .inl fun _ _ => rfl | exact .inr rfl) ?_
          refine dq_gpure rfl (fun s => .opU rfl (.opU rfl (.nil))) rfl (fun _ => by first | exact guard_true _ | exact guard_false _ | exact guard_if (guard_true _) | exact guard_if (guard_false _)) (fun s hs hg _ => loc_call (rnamed_spec _ _) rfl) (by first | exact .inl fun _ _ => rfl | exact .inr rfl) ?_
          refine dq_gpure rfl (fun s => .opU rfl (.opU rfl (.nil))) rfl (fun _ => by first | exact guard_true _ | exact guard_false _ | exact guard_if (guard_true _) | exact guard_if (guard_false _)) (fun s hs hg _ => loc_neq rfl rfl) (by first | exact .inl fun _ _ => rfl | exact .inr rfl) ?_
          refine dq_pure rfl (fun s => .op rfl (.op rfl (.nil))) (fun s hs _ => loc_or rfl rfl) (by first | exact .inl fun _ _ => rfl | exact .inr rfl) ?_
          refine dq_pure rfl (fun s => .op rfl (.nil)) (fun s hs _ => loc_move rfl) (by first | exact .inl fun _ _ => rfl | exact .inr rfl) ?_
          refine dq_gread rfl (fun s => .g rfl (.nil)) rfl rfl rfl (fun _ => by first | exact guard_true _ | exact guard_false _ | exact guard_if (guard_true _) | exact guard_if (guard_false _)) (fun s hs hg _ hm => loc_loadOwnN rfl hm (by rfl)) (by first | exact .inl fun _ _ => rfl | exact .inr rfl) ?_
          refine dq_gpure rfl (fun s => .opU rfl (.nil)) rfl (fun _ => by first | exact guard_true _ | exact guard_false _ | exact guard_if (guard_true _) | exact guard_if (guard_false _)) (fun s hs hg _ => loc_call (named_spec _ _) rfl) (by first | exact .inl fun _ _ => rfl | exact .inr rfl) ?_
          refine dq_gread rfl (fun s => .g rfl (.nil)) rfl rfl rfl (fun _ => by first | exact guard_true _ | exact guard_false _ | exact guard_if (guard_true _) | exact guard_if (guard_false _)) (fun s hs hg _ hm => loc_loadOwnN rfl hm (by rfl)) (by first | exact .inl fun _ _ => rfl | exact .inr rfl) ?_
          refine dq_gpure rfl (fun s => .opU rfl (.nil)) rfl (fun _ => by first | exact guard_true _ | exact guard_false _ | exact guard_if (guard_true _) | exact guard_if (guard_false _)) (fun s hs hg _ => loc_call (rnamed_spec _ _) rfl) (by first | exact .inl fun _ _ => rfl | exact .inr rfl) ?_
          refine dq_gpure rfl (fun s => .opU rfl (.opU rfl (.nil))) rfl (fun _ => by first | exact guard_true _ | exact guard_false _ | exact guard_if (guard_true _) | exact guard_if (guard_false _)) (fun s hs hg _ => loc_neq rfl rfl) (by first | exact .inl fun _ _ => rfl | exact .inr rfl) ?_
          refine dq_pure rfl (fun s => .op rfl (.op rfl (.nil))) (fun s hs _ => loc_or rfl rfl) (by first | exact .inl fun _ _ => rfl | exact .inr rfl) ?_
          refine dq_end (rs := [_, _, _, _, _, _]) () rfl (fun _ => rfl) (fun _ _ => trivial) rfl (fun _ _ => ?_)
          dsimp only [outG, outM, List.map, List.set]
          refine run_cond rfl (fun h15 => ?_) (fun h15 => ?_)
          · exfalso; simp at h15
          ·
            refine run_skip ?_
            refine run_seq ?_
            refine run_seq ?_
            refine run_region ?_
            refine run_op (loc_move rfl) rfl ?_
            refine run_op (loc_fieldAddrOwn rfl) rfl ?_
            refine run_op (loc_loadOwn1 rfl (by first | exact .here | exact .there .here | exact .there (.there .here) | exact .there (.there (.there .here)) | exact .there (.there (.there (.there .here))) | exact .there (.there (.there (.there (.there .here))))) (by rfl)) rfl ?_
            refine run_op (loc_fieldAddrOwn rfl) rfl ?_
            refine run_op (loc_loadOwn1 rfl (by first | exact .here | exact .there .here | exact .there (.there .here) | exact .there (.there (.there .here)) | exact .there (.there (.there (.there .here))) | exact .there (.there (.there (.there (.there .here))))) (by rfl)) rfl ?_
            first | refine runL_fact (s := 138) rfl (fun _ _ h => dSl_len h) (fun hlen16 => ?_) | skip
            refine run_op (loc_len rfl) rfl ?_
            first | refine run_op (loc_sub rfl rfl (by first | omega | assumption)) rfl ?_ | refine run_op (loc_subW rfl rfl) rfl ?_
            first | refine run_op (loc_index rfl rfl (by first | omega | assumption)) rfl ?_ | refine run_op (loc_indexI rfl rfl (by first | omega | assumption)) rfl ?_
            refine run_op (loc_load1 rfl) rfl ?_
            first | refine run_op (loc_add rfl rfl (by first | omega | assumption)) rfl ?_ | refine run_op (loc_addW rfl rfl) rfl ?_
            refine run_op (loc_buildSlice rfl rfl (.one rfl (.one rfl (.one rfl (.one rfl (.nil))))) rfl rfl) rfl ?_
            refine runL_recast (s := 144) rfl (d_sl (ys := [v, _, 2147483646, 2147483647]) (h := fI) rfl) ?_
            generalize ([v, _, 2147483646, 2147483647] : List Int) = ks
            first | refine runL_fact (s := 144) rfl (fun _ _ h => dSl_len h) (fun hlen17 => ?_) | skip
            refine run_op (loc_len rfl) rfl ?_
            refine run_op (loc_move rfl) rfl ?_
            refine run_nil ?_
            refine run_block ?_
            refine run_loopC (σ := Nat) (ks := [2, 3, 9, 10, 17, 98, 99, 100, 144, 145]) (.cons rfl (.cons rfl (.cons rfl (.cons rfl (.cons rfl (.cons rfl (.cons rfl (.cons rfl (.cons rfl (.cons rfl (.nil))))))))))) (fun i => [(146, dInt .i64 (i : Nat))]) (fun i => i ≤ ks.length) (fun i => ks.length - i) (0) ((by omega)) (.cons rfl (by first | exact fun _ _ h => h | exact d_int (by omega) | exact d_int (by simp) | exact d_intN (by omega) | exact d_any) .nil) ?_
            intro i hi ih18
            refine run_seq ?_
            refine run_region ?_
            refine run_op (loc_lss rfl rfl) rfl ?_
            refine run_nil ?_
            refine run_seq ?_
            refine run_cond rfl (fun h19 => ?_) (fun h19 => ?_)
            ·
              refine run_skip ?_
              refine run_seq ?_
              refine run_block ?_
              refine run_seq ?_
              refine run_region ?_
              first | refine run_op (loc_index rfl rfl (by first | omega | assumption)) rfl ?_ | refine run_op (loc_indexI rfl rfl (by first | omega | assumption)) rfl ?_
              refine run_op (loc_load1 rfl) rfl ?_
              refine run_op (loc_assign rfl) rfl ?_
              refine run_nil ?_
              refine run_seq ?_
              refine run_region ?_
              refine run_op (loc_loadOwnN rfl (by first | exact .here | exact .there .here | exact .there (.there .here) | exact .there (.there (.there .here)) | exact .there (.there (.there (.there .here))) | exact .there (.there (.there (.there (.there .here))))) (by rfl)) rfl ?_
              refine run_op (loc_move rfl) rfl ?_
              refine run_op (loc_call (publish_spec _ _ ⟨by omega, by omega⟩) rfl) rfl ?_
              refine run_op (loc_move rfl) rfl ?_
              refine run_op (loc_extract rfl rfl) rfl ?_
              refine run_op (loc_extract rfl rfl) rfl ?_
              refine run_new (loc_allocOwn (by simp)) rfl (fun b20 _ => ?_)
              refine run_storeN (ho := (by show OneAll [_, _]; infer_instance)) rfl rfl (by first | exact .here | exact .there .here | exact .there (.there .here) | exact .there (.there (.there .here)) | exact .there (.there (.there (.there .here))) | exact .there (.there (.there (.there (.there .here))))) (by rfl) ?_
              refine run_op (loc_assign rfl) rfl ?_
              refine run_nil ?_
              refine run_seq ?_
              refine run_region ?_
              refine run_op (loc_loadOwnN rfl (by first | exact .here | exact .there .here | exact .there (.there .here) | exact .there (.there (.there .here)) | exact .there (.there (.there (.there .here))) | exact .there (.there (.there (.there (.there .here))))) (by rfl)) rfl ?_
              refine run_op (loc_move rfl) rfl ?_
              refine run_op (loc_call (rpublish_spec _ _ ⟨by omega, by omega⟩) rfl) rfl ?_
              refine run_op (loc_move rfl) rfl ?_
              refine run_op (loc_extract rfl rfl) rfl ?_
              refine run_op (loc_extract rfl rfl) rfl ?_
              refine run_new (loc_allocOwn (by simp)) rfl (fun b21 _ => ?_)
              refine run_storeN (ho := (by show OneAll [_, _]; infer_instance)) rfl rfl (by first | exact .here | exact .there .here | exact .there (.there .here) | exact .there (.there (.there .here)) | exact .there (.there (.there (.there .here))) | exact .there (.there (.there (.there (.there .here))))) (by rfl) ?_
              refine run_op (loc_assign rfl) rfl ?_
              refine run_nil ?_
              refine run_seq ?_
              refine run_region ?_
              refine run_op (loc_move rfl) rfl ?_
              refine run_op (loc_move rfl) rfl ?_
              refine run_op (loc_neq rfl rfl) rfl ?_
              refine run_op (loc_move rfl) rfl ?_
              refine run_gfirst rfl rfl (by first | exact guard_true _ | exact guard_false _ | exact guard_if (guard_true _) | exact guard_if (guard_false _)) (fun hg => loc_loadOwnN rfl (by first | exact .here | exact .there .here | exact .there (.there .here) | exact .there (.there (.there .here)) | exact .there (.there (.there (.there .here))) | exact .there (.there (.there (.there (.there .here))))) (by rfl)) rfl ?_
              refine run_gop rfl rfl (by first | exact guard_true _ | exact guard_false _ | exact guard_if (guard_true _) | exact guard_if (guard_false _)) (fun hg => loc_loadOwnN rfl (by first | exact .here | exact .there .here | exact .there (.there .here) | exact .there (.there (.there .here)) | exact .there (.there (.there (.there .here))) | exact .there (.there (.there (.there (.there .here))))) (by rfl)) rfl ?_
              refine run_gop rfl rfl (by first | exact guard_true _ | exact guard_false _ | exact guard_if (guard_true _) | exact guard_if (guard_false _)) (fun hg => loc_call (rsameP_spec _ _) rfl) rfl ?_
              refine run_gop rfl rfl (by first | exact guard_true _ | exact guard_false _ | exact guard_if (guard_true _) | exact guard_if (guard_false _)) (fun hg => loc_not rfl) rfl ?_
              refine run_gleave ?_
              refine run_op (loc_or rfl rfl) rfl ?_
              refine run_nil ?_
              refine run_cond rfl (fun h22 => ?_) (fun h22 => ?_)
              · exfalso; simp at h22
              ·
                refine run_skip ?_
                refine run_inBlock ?_
                refine run_region ?_
                first | refine run_op (loc_add rfl rfl (by first | omega | assumption)) rfl ?_ | refine run_op (loc_addW rfl rfl) rfl ?_
                refine run_op (loc_move rfl) rfl ?_
                refine run_nil ?_
                refine run_drop (.cons _ (.cons _ (.refl _))) ?_
                exact run_againC ih18 (i + 1) (by omega) (by omega) (.cons rfl (by first | exact fun _ _ h => h | exact d_int (by omega) | exact d_int (by simp) | exact d_intN (by omega) | exact d_any) .nil) (.cons rfl (fun _ _ x => x) (.cons rfl (fun _ _ x => x) (.cons rfl (fun _ _ x => x) (.cons rfl (fun _ _ x => x) (.cons rfl (fun _ _ x => x) (.cons rfl (fun _ _ x => x) (.cons rfl (fun _ _ x => x) (.cons rfl (fun _ _ x => x) (.cons rfl (fun _ _ x => x) (.cons rfl (fun _ _ x => x) (.nil)))))))))))
            ·
              refine run_exit rfl ?_
              refine run_seq ?_
              refine run_seq ?_
              refine run_region ?_
              refine run_op (loc_move rfl) rfl ?_
              refine run_op (loc_move rfl) rfl ?_
              refine run_callM rfl (by first | exact .here | exact .there .here | exact .there (.there .here) | exact .there (.there (.there .here)) | exact .there (.there (.there (.there .here))) | exact .there (.there (.there (.there (.there .here))))) (pick_spec _ _ _ (by assumption) (by omega)) rfl (fun s23 hs23 => ?_)
              refine run_op (loc_buildSlice rfl rfl (.one rfl (.one rfl (.nil))) rfl rfl) rfl ?_
              refine runL_recast (s := 175) rfl (d_sl (ys := [u, s.2.val 6]) (h := fI) rfl) ?_
              generalize ([u, s.2.val 6] : List Int) = us
              first | refine runL_fact (s := 175) rfl (fun _ _ h => dSl_len h) (fun hlen24 => ?_) | skip
              refine run_op (loc_len rfl) rfl ?_
              refine run_op (loc_move rfl) rfl ?_
              refine run_nil ?_
              refine run_block ?_
              refine run_loopC (σ := Nat) (ks := [2, 3, 9, 10, 17, 98, 99, 100, 175, 176]) (.cons rfl (.cons rfl (.cons rfl (.cons rfl (.cons rfl (.cons rfl (.cons rfl (.cons rfl (.cons rfl (.cons rfl (.nil))))))))))) (fun j => [(177, dInt .i64 (j : Nat))]) (fun j => j ≤ us.length) (fun j => us.length - j) (0) ((by omega)) (.cons rfl (by first | exact fun _ _ h => h | exact d_int (by omega) | exact d_int (by simp) | exact d_intN (by omega) | exact d_any) .nil) ?_
              intro j hj ih25
              refine run_seq ?_
              refine run_region ?_
              refine run_op (loc_lss rfl rfl) rfl ?_
              refine run_nil ?_
              refine run_seq ?_
              refine run_cond rfl (fun h26 => ?_) (fun h26 => ?_)
              ·
                refine run_skip ?_
                refine run_seq ?_
                refine run_block ?_
                refine run_seq ?_
                refine run_region ?_
                first | refine run_op (loc_index rfl rfl (by first | omega | assumption)) rfl ?_ | refine run_op (loc_indexI rfl rfl (by first | omega | assumption)) rfl ?_
                refine run_op (loc_load1 rfl) rfl ?_
                refine run_op (loc_assign rfl) rfl ?_
                refine run_nil ?_
                refine run_seq ?_
                refine run_region ?_
                refine run_op (loc_loadOwnN rfl (by first | exact .here | exact .there .here | exact .there (.there .here) | exact .there (.there (.there .here)) | exact .there (.there (.there (.there .here))) | exact .there (.there (.there (.there (.there .here))))) (by rfl)) rfl ?_
                refine run_op (loc_move rfl) rfl ?_
                refine run_op (loc_call (open_spec _ _ ⟨by omega, by omega⟩) rfl) rfl ?_
                refine run_op (loc_move rfl) rfl ?_
                refine run_op (loc_extract rfl rfl) rfl ?_
                refine run_op (loc_extract rfl rfl) rfl ?_
                refine run_op (loc_extract rfl rfl) rfl ?_
                refine run_new (loc_allocOwn (by simp)) rfl (fun b27 _ => ?_)
                refine run_storeN (ho := (by show OneAll [_, _]; infer_instance)) rfl rfl (by first | exact .here | exact .there .here | exact .there (.there .here) | exact .there (.there (.there .here)) | exact .there (.there (.there (.there .here))) | exact .there (.there (.there (.there (.there .here))))) (by rfl) ?_
                refine run_op (loc_assign rfl) rfl ?_
                refine run_op (loc_assign rfl) rfl ?_
                refine run_nil ?_
                refine run_seq ?_
                refine run_region ?_
                refine run_op (loc_loadOwnN rfl (by first | exact .here | exact .there .here | exact .there (.there .here) | exact .there (.there (.there .here)) | exact .there (.there (.there (.there .here))) | exact .there (.there (.there (.there (.there .here))))) (by rfl)) rfl ?_
                refine run_op (loc_move rfl) rfl ?_
                refine run_op (loc_call (ropen_spec _ _ ⟨by omega, by omega⟩) rfl) rfl ?_
                refine run_op (loc_move rfl) rfl ?_
                refine run_op (loc_extract rfl rfl) rfl ?_
                refine run_op (loc_extract rfl rfl) rfl ?_
                refine run_op (loc_extract rfl rfl) rfl ?_
                refine run_new (loc_allocOwn (by simp)) rfl (fun b28 _ => ?_)
                refine run_storeN (ho := (by show OneAll [_, _]; infer_instance)) rfl rfl (by first | exact .here | exact .there .here | exact .there (.there .here) | exact .there (.there (.there .here)) | exact .there (.there (.there (.there .here))) | exact .there (.there (.there (.there (.there .here))))) (by rfl) ?_
                refine run_op (loc_assign rfl) rfl ?_
                refine run_op (loc_assign rfl) rfl ?_
                refine run_nil ?_
                refine run_seq ?_
                refine run_region ?_
                refine run_op (loc_loadOwnN rfl (by first | exact .here | exact .there .here | exact .there (.there .here) | exact .there (.there (.there .here)) | exact .there (.there (.there (.there .here))) | exact .there (.there (.there (.there (.there .here))))) (by rfl)) rfl ?_
                refine run_op (loc_move rfl) rfl ?_
                refine run_op (loc_call (close_spec _ _ ⟨by omega, by omega⟩) rfl) rfl ?_
                refine run_op (loc_move rfl) rfl ?_
                refine run_op (loc_extract rfl rfl) rfl ?_
                refine run_op (loc_extract rfl rfl) rfl ?_
                refine run_new (loc_allocOwn (by simp)) rfl (fun b29 _ => ?_)
                refine run_storeN (ho := (by show OneAll [_, _]; infer_instance)) rfl rfl (by first | exact .here | exact .there .here | exact .there (.there .here) | exact .there (.there (.there .here)) | exact .there (.there (.there (.there .here))) | exact .there (.there (.there (.there (.there .here))))) (by rfl) ?_
                refine run_op (loc_assign rfl) rfl ?_
                refine run_nil ?_
                refine run_seq ?_
                refine run_region ?_
                refine run_op (loc_loadOwnN rfl (by first | exact .here | exact .there .here | exact .there (.there .here) | exact .there (.there (.there .here)) | exact .there (.there (.there (.there .here))) | exact .there (.there (.there (.there (.there .here))))) (by rfl)) rfl ?_
                refine run_op (loc_move rfl) rfl ?_
                refine run_op (loc_call (rclose_spec _ _ ⟨by omega, by omega⟩) rfl) rfl ?_
                refine run_op (loc_move rfl) rfl ?_
                refine run_op (loc_extract rfl rfl) rfl ?_
                refine run_op (loc_extract rfl rfl) rfl ?_
                refine run_new (loc_allocOwn (by simp)) rfl (fun b30 _ => ?_)
                refine run_storeN (ho := (by show OneAll [_, _]; infer_instance)) rfl rfl (by first | exact .here | exact .there .here | exact .there (.there .here) | exact .there (.there (.there .here)) | exact .there (.there (.there (.there .here))) | exact .there (.there (.there (.there (.there .here))))) (by rfl) ?_
                refine run_op (loc_assign rfl) rfl ?_
                refine run_nil ?_
                refine run_seq ?_
                refine run_region ?_
                refine run_op (loc_move rfl) rfl ?_
                refine run_op (loc_move rfl) rfl ?_
                refine run_op (loc_neq rfl rfl) rfl ?_
                refine run_op (loc_move rfl) rfl ?_
                refine run_gfirst rfl rfl (by first | exact guard_true _ | exact guard_false _ | exact guard_if (guard_true _) | exact guard_if (guard_false _)) (fun hg => loc_move rfl) rfl ?_
                refine run_gop rfl rfl (by first | exact guard_true _ | exact guard_false _ | exact guard_if (guard_true _) | exact guard_if (guard_false _)) (fun hg => loc_move rfl) rfl ?_
                refine run_gop rfl rfl (by first | exact guard_true _ | exact guard_false _ | exact guard_if (guard_true _) | exact guard_if (guard_false _)) (fun hg => loc_neq rfl rfl) rfl ?_
                refine run_gleave ?_
                refine run_op (loc_or rfl rfl) rfl ?_
                refine run_op (loc_move rfl) rfl ?_
                refine run_gfirst rfl rfl (by first | exact guard_true _ | exact guard_false _ | exact guard_if (guard_true _) | exact guard_if (guard_false _)) (fun hg => loc_move rfl) rfl ?_
                refine run_gop rfl rfl (by first | exact guard_true _ | exact guard_false _ | exact guard_if (guard_true _) | exact guard_if (guard_false _)) (fun hg => loc_move rfl) rfl ?_
                refine run_gop rfl rfl (by first | exact guard_true _ | exact guard_false _ | exact guard_if (guard_true _) | exact guard_if (guard_false _)) (fun hg => loc_neq rfl rfl) rfl ?_
                refine run_gleave ?_
                refine run_op (loc_or rfl rfl) rfl ?_
                refine run_op (loc_move rfl) rfl ?_
                refine run_gfirst rfl rfl (by first | exact guard_true _ | exact guard_false _ | exact guard_if (guard_true _) | exact guard_if (guard_false _)) (fun hg => loc_loadOwnN rfl (by first | exact .here | exact .there .here | exact .there (.there .here) | exact .there (.there (.there .here)) | exact .there (.there (.there (.there .here))) | exact .there (.there (.there (.there (.there .here))))) (by rfl)) rfl ?_
                refine run_gop rfl rfl (by first | exact guard_true _ | exact guard_false _ | exact guard_if (guard_true _) | exact guard_if (guard_false _)) (fun hg => loc_loadOwnN rfl (by first | exact .here | exact .there .here | exact .there (.there .here) | exact .there (.there (.there .here)) | exact .there (.there (.there (.there .here))) | exact .there (.there (.there (.there (.there .here))))) (by rfl)) rfl ?_
                refine run_gop rfl rfl (by first | exact guard_true _ | exact guard_false _ | exact guard_if (guard_true _) | exact guard_if (guard_false _)) (fun hg => loc_call (rsameP_spec _ _) rfl) rfl ?_
                refine run_gop rfl rfl (by first | exact guard_true _ | exact guard_false _ | exact guard_if (guard_true _) | exact guard_if (guard_false _)) (fun hg => loc_not rfl) rfl ?_
                refine run_gleave ?_
                refine run_op (loc_or rfl rfl) rfl ?_
                refine run_op (loc_move rfl) rfl ?_
                refine run_gfirst rfl rfl (by first | exact guard_true _ | exact guard_false _ | exact guard_if (guard_true _) | exact guard_if (guard_false _)) (fun hg => loc_loadOwnN rfl (by first | exact .here | exact .there .here | exact .there (.there .here) | exact .there (.there (.there .here)) | exact .there (.there (.there (.there .here))) | exact .there (.there (.there (.there (.there .here))))) (by rfl)) rfl ?_
                refine run_gop rfl rfl (by first | exact guard_true _ | exact guard_false _ | exact guard_if (guard_true _) | exact guard_if (guard_false _)) (fun hg => loc_loadOwnN rfl (by first | exact .here | exact .there .here | exact .there (.there .here) | exact .there (.there (.there .here)) | exact .there (.there (.there (.there .here))) | exact .there (.there (.there (.there (.there .here))))) (by rfl)) rfl ?_
                refine run_gop rfl rfl (by first | exact guard_true _ | exact guard_false _ | exact guard_if (guard_true _) | exact guard_if (guard_false _)) (fun hg => loc_call (rsameP_spec _ _) rfl) rfl ?_
                refine run_gop rfl rfl (by first | exact guard_true _ | exact guard_false _ | exact guard_if (guard_true _) | exact guard_if (guard_false _)) (fun hg => loc_not rfl) rfl ?_
                refine run_gleave ?_
                refine run_op (loc_or rfl rfl) rfl ?_
                refine run_nil ?_
                refine run_cond rfl (fun h31 => ?_) (fun h31 => ?_)
                · exfalso; simp at h31
                ·
                  refine run_skip ?_
                  refine run_inBlock ?_
                  refine run_region ?_
                  first | refine run_op (loc_add rfl rfl (by first | omega | assumption)) rfl ?_ | refine run_op (loc_addW rfl rfl) rfl ?_
                  refine run_op (loc_move rfl) rfl ?_
                  refine run_nil ?_
                  refine run_drop (.cons _ (.cons _ (.cons _ (.cons _ (.refl _))))) ?_
                  exact run_againC ih25 (j + 1) (by omega) (by omega) (.cons rfl (by first | exact fun _ _ h => h | exact d_int (by omega) | exact d_int (by simp) | exact d_intN (by omega) | exact d_any) .nil) (.cons rfl (fun _ _ x => x) (.cons rfl (fun _ _ x => x) (.cons rfl (fun _ _ x => x) (.cons rfl (fun _ _ x => x) (.cons rfl (fun _ _ x => x) (.cons rfl (fun _ _ x => x) (.cons rfl (fun _ _ x => x) (.cons rfl (fun _ _ x => x) (.cons rfl (fun _ _ x => x) (.cons rfl (fun _ _ x => x) (.nil)))))))))))
              ·
                refine run_exit rfl ?_
                refine run_seq ?_
                refine run_region ?_
                refine run_op (loc_loadOwnN rfl (by first | exact .here | exact .there .here | exact .there (.there .here) | exact .there (.there (.there .here)) | exact .there (.there (.there (.there .here))) | exact .there (.there (.there (.there (.there .here))))) (by rfl)) rfl ?_
                refine run_op (loc_call (rvalid_spec _) rfl) rfl ?_
                refine run_nil ?_
                refine run_cond rfl (fun h32 => ?_) (fun h32 => ?_)
                ·
                  have hokz := h32
                  refine run_seq ?_
                  refine run_region ?_
                  refine run_op (loc_loadOwnN rfl (by first | exact .here | exact .there .here | exact .there (.there .here) | exact .there (.there (.there .here)) | exact .there (.there (.there (.there .here))) | exact .there (.there (.there (.there (.there .here))))) (by rfl)) rfl ?_
                  refine run_op (loc_call (collect_spec _ (by assumption) ⟨by omega, by omega⟩) rfl) rfl ?_
                  refine run_op (loc_move rfl) rfl ?_
                  refine run_op (loc_extract rfl rfl) rfl ?_
                  refine run_op (loc_extract rfl rfl) rfl ?_
                  refine run_new (loc_allocOwn (by simp)) rfl (fun b33 _ => ?_)
                  refine run_storeN (ho := (by show OneAll [_, _]; infer_instance)) rfl rfl (by first | exact .here | exact .there .here | exact .there (.there .here) | exact .there (.there (.there .here)) | exact .there (.there (.there (.there .here))) | exact .there (.there (.there (.there (.there .here))))) (by rfl) ?_
                  refine run_op (loc_assign rfl) rfl ?_
                  refine run_nil ?_
                  refine run_seq ?_
                  refine run_region ?_
                  refine run_op (loc_loadOwnN rfl (by first | exact .here | exact .there .here | exact .there (.there .here) | exact .there (.there (.there .here)) | exact .there (.there (.there (.there .here))) | exact .there (.there (.there (.there (.there .here))))) (by rfl)) rfl ?_
                  refine run_op (loc_call (rcollect_spec _ (by assumption)) rfl) rfl ?_
                  refine run_op (loc_move rfl) rfl ?_
                  refine run_op (loc_extract rfl rfl) rfl ?_
                  refine run_op (loc_extract rfl rfl) rfl ?_
                  refine run_new (loc_allocOwn (by simp)) rfl (fun b34 _ => ?_)
                  refine run_storeN (ho := (by show OneAll [_, _]; infer_instance)) rfl rfl (by first | exact .here | exact .there .here | exact .there (.there .here) | exact .there (.there (.there .here)) | exact .there (.there (.there (.there .here))) | exact .there (.there (.there (.there (.there .here))))) (by rfl) ?_
                  refine run_op (loc_assign rfl) rfl ?_
                  refine run_nil ?_
                  refine run_seq ?_
                  refine run_region ?_
                  refine run_op (loc_loadOwnN rfl (by first | exact .here | exact .there .here | exact .there (.there .here) | exact .there (.there (.there .here)) | exact .there (.there (.there (.there .here))) | exact .there (.there (.there (.there (.there .here))))) (by rfl)) rfl ?_
                  refine run_op (loc_loadOwnN rfl (by first | exact .here | exact .there .here | exact .there (.there .here) | exact .there (.there (.there .here)) | exact .there (.there (.there (.there .here))) | exact .there (.there (.there (.there (.there .here))))) (by rfl)) rfl ?_
                  refine run_op (loc_call (rsameP_spec _ _) rfl) rfl ?_
                  refine run_op (loc_not rfl) rfl ?_
                  refine run_op (loc_move rfl) rfl ?_
                  refine run_gfirst rfl rfl (by first | exact guard_true _ | exact guard_false _ | exact guard_if (guard_true _) | exact guard_if (guard_false _)) (fun hg => loc_move rfl) rfl ?_
                  refine run_gop rfl rfl (by first | exact guard_true _ | exact guard_false _ | exact guard_if (guard_true _) | exact guard_if (guard_false _)) (fun hg => loc_move rfl) rfl ?_
                  refine run_gop rfl rfl (by first | exact guard_true _ | exact guard_false _ | exact guard_if (guard_true _) | exact guard_if (guard_false _)) (fun hg => loc_call (ints_spec _ _) rfl) rfl ?_
                  refine run_gop rfl rfl (by first | exact guard_true _ | exact guard_false _ | exact guard_if (guard_true _) | exact guard_if (guard_false _)) (fun hg => loc_not rfl) rfl ?_
                  refine run_gleave ?_
                  refine run_op (loc_or rfl rfl) rfl ?_
                  refine run_nil ?_
                  refine run_cond rfl (fun h35 => ?_) (fun h35 => ?_)
                  · exfalso; simp at h35
                  ·
                    refine run_skip ?_
                    refine run_inBlock ?_
                    refine run_region ?_
                    first | refine run_op (loc_add rfl rfl (by first | omega | assumption)) rfl ?_ | refine run_op (loc_addW rfl rfl) rfl ?_
                    refine run_op (loc_move rfl) rfl ?_
                    refine run_nil ?_
                    refine run_drop (.cons _ (.cons _ (.cons _ (.refl _)))) ?_
                    exact run_againF ih12 ((s.1 + 1, s.2.next)) (⟨by simp only; omega, Dc.next_ok hds⟩) (by simp only; omega) (.cons rfl (by first | exact fun _ _ h => h | exact d_int (by omega) | exact d_int (by simp) | exact d_intN (by omega) | exact d_any) .nil) (.cons rfl (fun _ _ x => x) (.cons rfl (fun _ _ x => x) (.cons rfl (fun _ _ x => x) (.cons rfl (fun _ _ x => x) (.cons rfl (fun _ _ x => x) (.cons rfl (fun _ _ x => x) (.nil))))))) (rfl)
                ·
                  refine run_skip ?_
                  refine run_inBlock ?_
                  refine run_region ?_
                  first | refine run_op (loc_add rfl rfl (by first | omega | assumption)) rfl ?_ | refine run_op (loc_addW rfl rfl) rfl ?_
                  refine run_op (loc_move rfl) rfl ?_
                  refine run_nil ?_
                  refine run_drop (.cons _ (.refl _)) ?_
                  exact run_againF ih12 ((s.1 + 1, s.2.next)) (⟨by simp only; omega, Dc.next_ok hds⟩) (by simp only; omega) (.cons rfl (by first | exact fun _ _ h => h | exact d_int (by omega) | exact d_int (by simp) | exact d_intN (by omega) | exact d_any) .nil) (.cons rfl (fun _ _ x => x) (.cons rfl (fun _ _ x => x) (.cons rfl (fun _ _ x => x) (.cons rfl (fun _ _ x => x) (.cons rfl (fun _ _ x => x) (.cons rfl (fun _ _ x => x) (.nil))))))) (rfl)
        ·
          refine run_exit rfl ?_
          refine run_seq ?_
          refine run_region ?_
          refine run_op (loc_assign rfl) rfl ?_
          refine run_nil ?_
          refine run_drop (.cons _ (.cons _ (.cons _ (.cons _ (.cons _ (.refl _)))))) ?_
          refine run_retP Try.func9 rfl rfl ?_
          exact d_B Iff.rfl

end Go.Q
