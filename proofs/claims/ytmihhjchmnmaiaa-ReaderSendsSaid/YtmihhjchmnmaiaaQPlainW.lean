/- Contracts of what dice make. -/
import Derived.Test.YtmihhjchmnmaiaaQScheme
import Derived.Test.YtmihhjchmnmaiaaQDice
set_option linter.unusedVariables false
set_option linter.unusedSimpArgs false
namespace Go.Q
open Go.Proofs

open Classical
theorem spec_some {P : Program} {f : FuncId} {Ds : List D} {Min : List Res} {σ : Type} {φ : σ → Prop} {d : σ → D} {Mout : σ → List Res} {d0 : D} {M0 : List Res} (h : Spec P f Ds Min (σ := Unit) (fun _ => True) (fun _ => d0) (fun _ => M0)) (s : σ) (hφ : φ s) (hd : d0 = d s := by rfl) (hM : M0 = Mout s := by rfl) : Spec P f Ds Min φ d Mout := by
  subst hd hM
  intro I F w vs hv hi
  refine (h I F w vs hv hi).mono ?_
  rintro e w' ⟨v, rfl, _, _, J, h1, h2, h3⟩
  exact ⟨v, rfl, s, hφ, J, h1, h2, h3⟩
theorem dfield_spec (b : Nat) (d : Dc) (h : okDc d) : Spec Try.prog 28 [dVal (ptr b 0)] [rDc b d] (σ := Int × Dc) (fun s => dieP s.1 ∧ okDc s.2) (fun s => dAgg [dInt .i64 s.1]) (fun s => [rDc b s.2]) := by
  refine spec_of_body Try.func28 rfl rfl (fun I F => ?_)
  refine run_seq ?_
  have hv0 := Dc.val_lt (d := d) (n := 4) (by omega)
  have hw0 := Dc.val_nonneg (d := d) (n := 4) (by omega)
  refine run_region ?_
  refine run_new (loc_allocOwn (by simp)) rfl (fun b1 _ => ?_)
  refine run_nil ?_
  refine run_seq ?_
  refine run_region ?_
  refine run_op (loc_buildSlice rfl rfl (.one rfl (.one rfl (.one rfl (.one rfl (.nil))))) rfl rfl) rfl ?_
  refine run_op (loc_move rfl) rfl ?_
  refine run_callM rfl (.there (.here)) (pick_spec b _ _ (by assumption) (by omega)) rfl (fun s2 hs2 => ?_)
  refine runL_recast (s := 3) rfl (d_sl (ys := [7, 11, 13, 257]) (h := fI) rfl) ?_
  first | refine run_op (loc_index rfl rfl (by first | omega | assumption | (simp; omega))) rfl ?_ | refine run_op (loc_indexI rfl rfl (by first | omega | assumption | (simp; omega))) rfl ?_
  refine run_op (loc_load1 rfl) rfl ?_
  refine run_op (loc_build (.one rfl rfl rfl (.nil))) rfl ?_
  refine run_storeN (ho := (by show OneAll [_]; infer_instance)) rfl rfl (.here) (by rfl) ?_
  refine run_nil ?_
  refine run_retG ((([7, 11, 13, 257] : List Int)[(d.val 4).toNat]?.getD default, d.next)) Try.func28 rfl (.cellN rfl (by first | exact .here | exact .there .here | exact .there (.there .here) | exact .there (.there (.there .here)) | exact .there (.there (.there (.there .here))) | exact .there (.there (.there (.there (.there .here))))) (by rfl) (.nil)) ?_ (⟨die_get ⟨hw0, hv0⟩, Dc.next_ok h⟩) (fun _ _ h => h.sub (.cons _ (.cons_cons _ (.refl _))))
  exact fun _ _ h => h

theorem dschemeD_spec (b : Nat) (d : Dc) (h : okDc d) : Spec Try.prog 12 [dVal (ptr b 0)] [rDc b d] (σ := Unit) (fun _ => True) (fun _ => dSchm (schV d)) (fun _ => [rDc b (schD d)]) := by
  refine spec_of_body Try.func12 rfl rfl (fun I F => ?_)
  refine run_seq ?_
  refine run_region ?_
  refine run_new (loc_allocOwn (by simp)) rfl (fun b1 _ => ?_)
  refine run_nil ?_
  refine run_seq ?_
  have hv0 := Dc.val_lt (d := d) (n := 4) (by omega)
  have hw0 := Dc.val_nonneg (d := d) (n := 4) (by omega)
  have h1 := Dc.next_ok h
  have h2 := Dc.next_ok h1
  have h3 := Dc.next_ok h2
  have hif : okDc (@ite _ (¬ 3 + d.val 4 < 4) (Classical.propDecidable _) d.next.next.next d.next.next) := schI_ok h
  have hv1 := Dc.val_lt (d := d.next) (n := 3) (by omega)
  have hw1 := Dc.val_nonneg (d := d.next) (n := 3) (by omega)
  have hv2 := Dc.val_lt (d := d.next.next) (n := 2) (by omega)
  have hw2 := Dc.val_nonneg (d := d.next.next) (n := 2) (by omega)
  have hvi := Dc.val_lt (d := @ite _ (¬ 3 + d.val 4 < 4) (Classical.propDecidable _) d.next.next.next d.next.next) (n := 2) (by omega)
  have hwi := Dc.val_nonneg (d := @ite _ (¬ 3 + d.val 4 < 4) (Classical.propDecidable _) d.next.next.next d.next.next) (n := 2) (by omega)
  refine run_region ?_
  refine run_op (loc_move rfl) rfl ?_
  refine run_callM rfl (.there (.here)) (pick_spec b _ _ (by assumption) (by omega)) rfl (fun s2 hs2 => ?_)
  first | refine run_op (loc_add rfl rfl (by first | omega | assumption | (simp; omega))) rfl ?_ | refine run_op (loc_addW rfl rfl) rfl ?_
  refine run_op (loc_assign rfl) rfl ?_
  refine run_nil ?_
  refine run_seq ?_
  refine run_seq ?_
  refine run_region ?_
  refine run_op (loc_move rfl) rfl ?_
  refine run_callM rfl (.there (.here)) (pick_spec b _ _ (by assumption) (by omega)) rfl (fun s3 hs3 => ?_)
  refine run_nil ?_
  refine run_block ?_
  refine run_seq ?_
  refine run_region ?_
  refine run_op (loc_eql rfl rfl) rfl ?_
  refine run_op (loc_assign rfl) rfl ?_
  refine run_nil ?_
  refine run_cond rfl (fun h4 => ?_) (fun h4 => ?_)
  ·
    have k1 := h4
    refine run_seq ?_
    refine run_region ?_
    refine run_op (loc_move rfl) rfl ?_
    refine run_op (loc_build (.one rfl rfl rfl (.one rfl rfl rfl (.nil)))) rfl ?_
    refine run_storeN (ho := (by show OneAll [_, _, _, _]; infer_instance)) rfl rfl (.here) (by rfl) ?_
    refine run_nil ?_
    refine run_retG (()) Try.func12 rfl (.cellN rfl (by first | exact .here | exact .there .here | exact .there (.there .here) | exact .there (.there (.there .here)) | exact .there (.there (.there (.there .here))) | exact .there (.there (.there (.there (.there .here))))) (by rfl) (.nil)) ?_ (trivial) (fun I w h => by rw [show schD d = _ by unfold schD; rw [if_pos k1]]; exact (fun _ _ h => h.sub (.cons _ (.cons_cons _ (.refl _)))) I w h)
    exact d_eq (by unfold schV; rw [if_pos k1] <;> rfl)
  ·
    have k1 := h4
    refine run_seq ?_
    refine run_region ?_
    refine run_op (loc_eql rfl rfl) rfl ?_
    refine run_op (loc_assign rfl) rfl ?_
    refine run_nil ?_
    refine run_cond rfl (fun h5 => ?_) (fun h5 => ?_)
    ·
      have k2 := h5
      refine run_seq ?_
      refine run_region ?_
      refine run_op (loc_move rfl) rfl ?_
      refine run_op (loc_move rfl) rfl ?_
      refine run_callM rfl (.there (.here)) (pick_spec b _ _ (by assumption) (by omega)) rfl (fun s6 hs6 => ?_)
      first | refine run_op (loc_add rfl rfl (by first | omega | assumption | (simp; omega))) rfl ?_ | refine run_op (loc_addW rfl rfl) rfl ?_
      refine run_op (loc_build (.one rfl rfl rfl (.one rfl rfl rfl (.one rfl rfl rfl (.nil))))) rfl ?_
      refine run_storeN (ho := (by show OneAll [_, _, _, _]; infer_instance)) rfl rfl (.here) (by rfl) ?_
      refine run_nil ?_
      refine run_retG (()) Try.func12 rfl (.cellN rfl (by first | exact .here | exact .there .here | exact .there (.there .here) | exact .there (.there (.there .here)) | exact .there (.there (.there (.there .here))) | exact .there (.there (.there (.there (.there .here))))) (by rfl) (.nil)) ?_ (trivial) (fun I w h => by rw [show schD d = _ by unfold schD; rw [if_neg k1, if_pos k2]]; exact (fun _ _ h => h.sub (.cons _ (.cons_cons _ (.refl _)))) I w h)
      exact d_eq (by unfold schV; rw [if_neg k1, if_pos k2] <;> rfl)
    ·
      have k2 := h5
      refine run_skip ?_
      refine run_inBlock ?_
      refine run_seq ?_
      refine run_seq ?_
      refine run_region ?_
      refine run_op (loc_move rfl) rfl ?_
      refine run_op (loc_lss rfl rfl) rfl ?_
      refine run_op (loc_move rfl) rfl ?_
      refine run_gfirst rfl rfl (by first | exact guard_true _ | exact guard_false _ | exact guard_if (guard_true _) | exact guard_if (guard_false _)) (fun hg => loc_move rfl) rfl ?_
      refine run_gopM (rDc b) rfl rfl (by first | exact guard_true _ | exact guard_false _ | exact guard_if (guard_true _) | exact guard_if (guard_false _)) (fun hg => loc_callM (pick_spec b _ _ (by assumption) (by omega)) rfl) rfl (.there (.here)) ?_
      refine run_gop rfl rfl (by first | exact guard_true _ | exact guard_false _ | exact guard_if (guard_true _) | exact guard_if (guard_false _)) (fun hg => loc_eql rfl rfl) rfl ?_
      refine run_gleave ?_
      refine run_op (loc_or rfl rfl) rfl ?_
      refine run_nil ?_
      refine run_cond rfl (fun h7 => ?_) (fun h7 => ?_)
      ·
        have k3 := h7
        refine run_seq ?_
        refine run_region ?_
        refine run_op (loc_move rfl) rfl ?_
        refine run_op (loc_move rfl) rfl ?_
        refine run_callM rfl (.there (.here)) (pick_spec b _ _ (by assumption) (by omega)) rfl (fun s8 hs8 => ?_)
        first | refine run_op (loc_add rfl rfl (by first | omega | assumption | (simp; omega))) rfl ?_ | refine run_op (loc_addW rfl rfl) rfl ?_
        refine run_op (loc_build (.one rfl rfl rfl (.one rfl rfl rfl (.one rfl rfl rfl (.one rfl rfl rfl (.nil)))))) rfl ?_
        refine run_storeN (ho := (by show OneAll [_, _, _, _]; infer_instance)) rfl rfl (.here) (by rfl) ?_
        refine run_nil ?_
        refine run_retG (()) Try.func12 rfl (.cellN rfl (by first | exact .here | exact .there .here | exact .there (.there .here) | exact .there (.there (.there .here)) | exact .there (.there (.there (.there .here))) | exact .there (.there (.there (.there (.there .here))))) (by rfl) (.nil)) ?_ (trivial) (fun I w h => by rw [show schD d = _ by unfold schD; rw [if_neg k1, if_neg k2, if_pos k3]]; exact (fun _ _ h => h.sub (.cons _ (.cons_cons _ (.refl _)))) I w h)
        exact d_eq (by unfold schV; rw [if_neg k1, if_neg k2, if_pos k3] <;> rfl)
      ·
        have k3 := h7
        refine run_skip ?_
        refine run_seq ?_
        refine run_region ?_
        refine run_op (loc_move rfl) rfl ?_
        refine run_op (loc_build (.one rfl rfl rfl (.one rfl rfl rfl (.one rfl rfl rfl (.one rfl rfl rfl (.nil)))))) rfl ?_
        refine run_storeN (ho := (by show OneAll [_, _, _, _]; infer_instance)) rfl rfl (.here) (by rfl) ?_
        refine run_nil ?_
        refine run_retG (()) Try.func12 rfl (.cellN rfl (by first | exact .here | exact .there .here | exact .there (.there .here) | exact .there (.there (.there .here)) | exact .there (.there (.there (.there .here))) | exact .there (.there (.there (.there (.there .here))))) (by rfl) (.nil)) ?_ (trivial) (fun I w h => by rw [show schD d = _ by unfold schD; rw [if_neg k1, if_neg k2, if_neg k3]]; exact (fun _ _ h => h.sub (.cons _ (.cons_cons _ (.refl _)))) I w h)
        exact d_eq (by unfold schV; rw [if_neg k1, if_neg k2, if_neg k3] <;> rfl)

theorem dscheme_spec (b : Nat) (d : Dc) (h : okDc d) : Spec Try.prog 12 [dVal (ptr b 0)] [rDc b d] (σ := Schm × Dc) (fun s => dieS s.1 ∧ okDc s.2) (fun s => dSchm s.1) (fun s => [rDc b s.2]) :=
  spec_some (dschemeD_spec b d h) (schV d, schD d) ⟨schV_die d, schD_ok h⟩
theorem doddD_spec (b : Nat) (d : Dc) (h : okDc d) : Spec Try.prog 11 [dVal (ptr b 0)] [rDc b d] (σ := Unit) (fun _ => True) (fun _ => dSchm (oddV d)) (fun _ => [rDc b (oddD d)]) := by
  refine spec_of_body Try.func11 rfl rfl (fun I F => ?_)
  refine run_seq ?_
  refine run_region ?_
  refine run_new (loc_allocOwn (by simp)) rfl (fun b2 _ => ?_)
  refine run_nil ?_
  refine run_seq ?_
  refine run_region ?_
  refine run_op (loc_move rfl) rfl ?_
  refine run_callM rfl (.there (.here)) (dschemeD_spec b _ (by assumption)) rfl (fun s1 hs1 => ?_)
  refine run_new (loc_allocOwn (by simp)) rfl (fun b3 _ => ?_)
  refine run_storeN (ho := (by show OneAll [_, _, _, _]; infer_instance)) rfl rfl (.here) (by rfl) ?_
  refine run_nil ?_
  have hx5b := schD_ok h
  have hx5c := Dc.next_ok hx5b
  have hv6 := Dc.val_lt (d := (schD d).next) (n := 6) (by omega)
  have hw6 := Dc.val_nonneg (d := (schD d).next) (n := 6) (by omega)
  have hsv := (schV_die d).2
  have hv4 := Dc.val_lt (d := (schD d).next) (n := 4) (by omega)
  have hw4 := Dc.val_nonneg (d := (schD d).next) (n := 4) (by omega)
  refine run_seq ?_
  refine run_seq ?_
  refine run_region ?_
  refine run_op (loc_move rfl) rfl ?_
  refine run_callM rfl (.there (.there (.here))) (pick_spec b _ _ (by assumption) (by omega)) rfl (fun s2 hs2 => ?_)
  refine run_nil ?_
  refine run_joinE (σ := Schm × Dc) (ks := [2, 3]) (.cons rfl (.cons rfl (.nil))) (fun s => []) (fun s => rCells b3 24 (cSchm s.1) :: rCells b2 24 (cSchm ⟨0, 0, 0, 0⟩) :: rDc b s.2 :: F) (fun s => s = (oddV d, oddD d)) (fun j3 => ?_) ?_
  ·
    refine run_block ?_
    refine run_seq ?_
    refine run_region ?_
    refine run_op (loc_eql rfl rfl) rfl ?_
    refine run_op (loc_assign rfl) rfl ?_
    refine run_nil ?_
    refine run_cond rfl (fun h4 => ?_) (fun h4 => ?_)
    ·
      have k1 := h4
      refine run_region ?_
      refine run_op (loc_move rfl) rfl ?_
      refine run_callM rfl (.there (.there (.here))) (pick_spec b _ _ (by assumption) (by omega)) rfl (fun s5 hs5 => ?_)
      refine run_op (loc_fieldAddrOwn rfl) rfl ?_
      refine run_store1 rfl rfl (.here) (by rfl) ?_
      refine run_nil ?_
      refine run_inBlock ?_
      exact run_atE j3 ((⟨(schD d).next.val 6, (schV d).servers, (schV d).degree, (schV d).group⟩, (schD d).next.next)) (Prod.ext (by unfold oddV; simp only [if_pos k1]) (by unfold oddD; rw [if_pos (.inl k1)])) (rfl) (.nil) (.cons rfl (fun _ _ x => x) (.cons rfl (fun _ _ x => x) (.nil)))
    ·
      have k1 := h4
      refine run_seq ?_
      refine run_region ?_
      refine run_op (loc_eql rfl rfl) rfl ?_
      refine run_op (loc_assign rfl) rfl ?_
      refine run_nil ?_
      refine run_cond rfl (fun h6 => ?_) (fun h6 => ?_)
      ·
        have k2 := h6
        refine run_region ?_
        refine run_op (loc_buildSlice rfl rfl (.one rfl (.one rfl (.one rfl (.one rfl (.one rfl (.one rfl (.nil))))))) rfl rfl) rfl ?_
        refine run_op (loc_move rfl) rfl ?_
        refine run_callM rfl (.there (.there (.here))) (pick_spec b _ _ (by assumption) (by omega)) rfl (fun s7 hs7 => ?_)
        refine runL_recast (s := 15) rfl (d_sl (ys := [0, 1, 2, 10, 11, -1]) (h := fI) rfl) ?_
        first | refine run_op (loc_index rfl rfl (by first | omega | assumption | (simp; omega))) rfl ?_ | refine run_op (loc_indexI rfl rfl (by first | omega | assumption | (simp; omega))) rfl ?_
        refine run_op (loc_load1 rfl) rfl ?_
        refine run_op (loc_fieldAddrOwn rfl) rfl ?_
        refine run_store1 rfl rfl (.here) (by rfl) ?_
        refine run_nil ?_
        refine run_inBlock ?_
        exact run_atE j3 ((⟨(schV d).kind, ([0, 1, 2, 10, 11, -1] : List Int)[((schD d).next.val 6).toNat]?.getD default, (schV d).degree, (schV d).group⟩, (schD d).next.next)) (Prod.ext (by unfold oddV; simp only [if_neg k1, if_pos k2]) (by unfold oddD; rw [if_pos (.inr (.inl k2))])) (rfl) (.nil) (.cons rfl (fun _ _ x => x) (.cons rfl (fun _ _ x => x) (.nil)))
      ·
        have k2 := h6
        refine run_seq ?_
        refine run_region ?_
        refine run_op (loc_eql rfl rfl) rfl ?_
        refine run_op (loc_assign rfl) rfl ?_
        refine run_nil ?_
        refine run_cond rfl (fun h8 => ?_) (fun h8 => ?_)
        ·
          have k3 := h8
          refine dr_start _ (.none) [⟨[(3, none)], [], none⟩,
              ⟨[(23, some (0, false))], [0], some (0, 0, false)⟩,
              ⟨[(24, some (1, false))], [0, 1], none⟩,
              ⟨[(3, none)], [], none⟩,
              ⟨[(26, some (3, false))], [3], some (0, 0, false)⟩,
              ⟨[(25, some (2, false)), (27, some (4, false))], [0, 1, 2, 3, 4], none⟩,
              ⟨[(0, none)], [], none⟩,
              ⟨[(29, some (6, false))], [6], some (2, 0, true)⟩,
              ⟨[(28, some (5, false)), (30, some (7, false))], [0, 1, 2, 3, 4, 5, 6, 7], none⟩,
              ⟨[(31, some (8, false))], [0, 1, 2, 3, 4, 5, 6, 7, 8], none⟩,
              ⟨[(3, none)], [0, 1, 2, 3, 4, 5, 6, 7, 8, 9], none⟩,
              ⟨[(33, some (10, false)), (32, some (9, false))], [0, 1, 2, 3, 4, 5, 6, 7, 8, 9, 10], some (0, 0, true)⟩] [_, _, _] _ rfl rfl ?_
          refine dq_pure rfl (fun s => .g rfl (.nil)) (fun s hs _ => loc_fieldAddrOwn rfl) (by exact .nil) ?_
          refine dq_read rfl (fun s => .op rfl (.nil)) rfl rfl (fun s hs _ hm => loc_loadOwn1 rfl hm (by rfl)) (by exact .nil) ?_
          first | refine dq_pure rfl (fun s => .op rfl (.nil)) (fun s hs _ => loc_sub rfl rfl (by first | omega | assumption | (simp; omega))) (by exact .nil) ?_ | refine dq_pure rfl (fun s => .op rfl (.nil)) (fun s hs _ => loc_subW rfl rfl) (by exact .nil) ?_
          refine dq_pure rfl (fun s => .g rfl (.nil)) (fun s hs _ => loc_fieldAddrOwn rfl) (by exact .nil) ?_
          refine dq_read rfl (fun s => .op rfl (.nil)) rfl rfl (fun s hs _ hm => loc_loadOwn1 rfl hm (by rfl)) (by exact .nil) ?_
          refine dq_pure rfl (fun s => .op rfl (.op rfl (.nil))) (fun s hs _ => LocP.imp (loc_buildSlice rfl rfl (.one rfl (.one rfl (.one rfl (.one rfl (.nil))))) rfl rfl) (d_sl (ys := [0, -1, (schV d).servers - 1, (schV d).servers]) (h := fI) rfl)) (by exact .nil) ?_
          refine dq_pure rfl (fun s => .g rfl (.nil)) (fun s hs _ => loc_move rfl) (by exact .nil) ?_
          refine dq_write rfl (fun s => .op rfl (.nil)) rfl rfl (fun s hs => loc_callM (pick_spec b _ _ (by assumption) (by omega)) rfl) (by exact .nil) ?_
          first | refine dq_pure rfl (fun s => .op rfl (.op rfl (.nil))) (fun s hs _ => loc_index rfl rfl (by first | omega | assumption | (simp; omega))) (by exact .nil) ?_ | refine dq_pure rfl (fun s => .op rfl (.op rfl (.nil))) (fun s hs _ => loc_indexI rfl rfl (by first | omega | assumption | (simp; omega))) (by exact .nil) ?_
          refine dq_pure rfl (fun s => .op rfl (.nil)) (fun s hs _ => loc_load1 rfl) (by exact .nil) ?_
          refine dq_pure rfl (fun s => .g rfl (.nil)) (fun s hs _ => loc_fieldAddrOwn rfl) (by exact .nil) ?_
          refine dq_write0 rfl (fun s => .op rfl (.op rfl (.nil))) rfl rfl (fun s hs => loc_store1 rfl rfl rfl) (by exact .nil) ?_
          refine dq_end (rs := [_, _, _]) () rfl (fun _ => rfl) (.nil) rfl (fun _ _ => ?_)
          dsimp only [outG, outM, List.map, List.set, id]
          refine run_inBlock ?_
          exact run_atE j3 ((⟨(schV d).kind, (schV d).servers, ([0, -1, (schV d).servers - 1, (schV d).servers] : List Int)[((schD d).next.val 4).toNat]?.getD default, (schV d).group⟩, (schD d).next.next)) (Prod.ext (by unfold oddV; simp only [if_neg k1, if_neg k2, if_pos k3]) (by unfold oddD; rw [if_pos (.inr (.inr (.inl k3)))])) (rfl) (.nil) (.cons rfl (fun _ _ x => x) (.cons rfl (fun _ _ x => x) (.nil)))
        ·
          have k3 := h8
          refine run_seq ?_
          refine run_region ?_
          refine run_op (loc_eql rfl rfl) rfl ?_
          refine run_op (loc_assign rfl) rfl ?_
          refine run_nil ?_
          refine run_cond rfl (fun h9 => ?_) (fun h9 => ?_)
          ·
            have k4 := h9
            refine run_region ?_
            refine run_op (loc_buildSlice rfl rfl (.one rfl (.one rfl (.one rfl (.one rfl (.nil))))) rfl rfl) rfl ?_
            refine run_op (loc_move rfl) rfl ?_
            refine run_callM rfl (.there (.there (.here))) (pick_spec b _ _ (by assumption) (by omega)) rfl (fun s10 hs10 => ?_)
            refine runL_recast (s := 36) rfl (d_sl (ys := [0, 1, 3, -1]) (h := fI) rfl) ?_
            first | refine run_op (loc_index rfl rfl (by first | omega | assumption | (simp; omega))) rfl ?_ | refine run_op (loc_indexI rfl rfl (by first | omega | assumption | (simp; omega))) rfl ?_
            refine run_op (loc_load1 rfl) rfl ?_
            refine run_op (loc_fieldAddrOwn rfl) rfl ?_
            refine run_store1 rfl rfl (.here) (by rfl) ?_
            refine run_nil ?_
            refine run_inBlock ?_
            exact run_atE j3 ((⟨(schV d).kind, (schV d).servers, (schV d).degree, ([0, 1, 3, -1] : List Int)[((schD d).next.val 4).toNat]?.getD default⟩, (schD d).next.next)) (Prod.ext (by unfold oddV; simp only [if_neg k1, if_neg k2, if_neg k3, if_pos k4]) (by unfold oddD; rw [if_pos (.inr (.inr (.inr k4)))])) (rfl) (.nil) (.cons rfl (fun _ _ x => x) (.cons rfl (fun _ _ x => x) (.nil)))
          ·
            have k4 := h9
            refine run_skip ?_
            refine run_inBlock ?_
            exact run_atE j3 ((schV d, (schD d).next)) (Prod.ext (by unfold oddV; simp only [if_neg k1, if_neg k2, if_neg k3, if_neg k4]) (by unfold oddD; rw [if_neg (by omega)])) (rfl) (.nil) (.cons rfl (fun _ _ x => x) (.cons rfl (fun _ _ x => x) (.nil)))
  rintro s rfl
  refine run_seq ?_
  refine run_region ?_
  refine run_op (loc_loadOwnN rfl (.here) (by rfl)) rfl ?_
  refine run_storeN (ho := (by show OneAll [_, _, _, _]; infer_instance)) rfl rfl (.there (.here)) (by rfl) ?_
  refine run_nil ?_
  refine run_retG (()) Try.func11 rfl (.cellN rfl (by first | exact .here | exact .there .here | exact .there (.there .here) | exact .there (.there (.there .here)) | exact .there (.there (.there (.there .here))) | exact .there (.there (.there (.there (.there .here))))) (by rfl) (.nil)) ?_ (trivial) (fun _ _ h => h.sub (.cons _ (.cons _ (.cons_cons _ (.refl _)))))
  exact fun _ _ h => h

theorem delements_spec (b : Nat) (d : Dc) (h : okDc d) (p n : Int) (hp : 2 ≤ p ∧ p ≤ 65521) (hn : n ≤ 100000) : Spec Try.prog 66 [dVal (ptr b 0), dAgg [dInt .i64 p], dInt .i64 n] [rDc b d] (σ := List Int × Dc) (fun s => (s.1.length = n.toNat ∧ ∀ x ∈ s.1, hasP p x) ∧ okDc s.2) (fun s => dInts s.1) (fun s => [rDc b s.2]) := by
  refine spec_of_body Try.func66 rfl rfl (fun I F => ?_)
  refine run_seq ?_
  refine run_region ?_
  refine run_op (loc_boxN rfl) rfl ?_
  refine run_op (loc_assign rfl) rfl ?_
  refine run_nil ?_
  refine run_seq ?_
  refine run_region ?_
  refine run_op (loc_assign rfl) rfl ?_
  refine run_nil ?_
  refine run_seq ?_
  refine run_seq ?_
  refine run_region ?_
  refine run_op (loc_assign rfl) rfl ?_
  refine run_nil ?_
  refine run_block ?_
  refine run_rowNil 3 1 fI ?_
  refine run_loopF (σ := Value × List Int × Dc) (ks := [0, 2, 4]) (.cons rfl (.cons rfl (.cons rfl (.nil)))) (fun q => [(7, dVal q.1), (8, dInt .i64 (q.2.1.length : Nat))]) (fun q => [rRow q.1 3 1 fI q.2.1, rDc b q.2.2]) (fun q => q.2.1.length ≤ n.toNat ∧ (∀ x ∈ q.2.1, hasP p x) ∧ okDc q.2.2) (fun q => n.toNat - q.2.1.length) ((.slice none 0 0, [], d)) (⟨Nat.zero_le _, fun x hx => (by cases hx), h⟩) (.cons rfl (by first | exact fun _ _ h => h | exact d_int (by omega) | exact d_int (by simp) | exact d_intN (by omega) | exact d_any) (.cons rfl (d_int rfl) .nil)) (rfl) ?_
  rintro q ⟨hl, hall, hok⟩ ih1
  have hok1 := Dc.next_ok hok
  have hv0 := Dc.val_lt (d := q.2.2) (n := 256) (by omega)
  have hw0 := Dc.val_nonneg (d := q.2.2) (n := 256) (by omega)
  have hv1 := Dc.val_lt (d := q.2.2.next) (n := 2) (by omega)
  have hw1 := Dc.val_nonneg (d := q.2.2.next) (n := 2) (by omega)
  have hxb := mod_bd (q.2.2.val 256 + q.2.2.next.val 2 * 128) (show 0 < p by omega)
  refine run_seq ?_
  refine run_seq ?_
  refine run_region ?_
  refine run_op (loc_move rfl) rfl ?_
  refine run_op (loc_move rfl) rfl ?_
  refine run_op (loc_lss rfl rfl) rfl ?_
  refine run_nil ?_
  refine run_cond rfl (fun h2 => ?_) (fun h2 => ?_)
  ·
    refine run_skip ?_
    refine run_seq ?_
    refine run_block ?_
    refine dr_start _ (.one (σ := Value) 11 (fun _ => True)) [⟨[(7, none)], [], none⟩,
        ⟨[(0, none)], [], none⟩,
        ⟨[(15, some (1, false))], [1], some (1, 0, true)⟩,
        ⟨[(0, none)], [], none⟩,
        ⟨[(17, some (3, false))], [1, 2, 3], some (1, 1, true)⟩,
        ⟨[(18, some (4, false))], [1, 2, 3, 4], none⟩,
        ⟨[(16, some (2, false)), (19, some (5, false))], [1, 2, 3, 4, 5], none⟩,
        ⟨[(4, none)], [], none⟩,
        ⟨[(21, some (7, false))], [7], none⟩,
        ⟨[(20, some (6, false)), (22, some (8, false))], [1, 2, 3, 4, 5, 6, 7, 8], none⟩,
        ⟨[(23, some (9, false))], [1, 2, 3, 4, 5, 6, 7, 8, 9], none⟩,
        ⟨[(14, some (0, false)), (24, some (10, false))], [0, 1, 2, 3, 4, 5, 6, 7, 8, 9, 10], some (0, 0, true)⟩,
        ⟨[(25, some (11, false))], [0, 1, 2, 3, 4, 5, 6, 7, 8, 9, 10, 11], none⟩] [_, _] _ rfl rfl ?_
    refine dq_pure rfl (fun s => .g rfl (.nil)) (fun s hs _ => loc_move rfl) (by exact .cons (.inr fun _ _ _ => rfl) (.nil)) ?_
    refine dq_pure rfl (fun s => .g rfl (.nil)) (fun s hs _ => loc_move rfl) (by exact .cons (.inr fun _ _ _ => rfl) (.nil)) ?_
    refine dq_write rfl (fun s => .op rfl (.nil)) rfl rfl (fun s hs => loc_callM (pick_spec b _ _ (by assumption) (by omega)) rfl) (by exact .cons (.inr fun _ _ _ => ⟨rfl, rfl⟩) (.nil)) ?_
    refine dq_pure rfl (fun s => .g rfl (.nil)) (fun s hs _ => loc_move rfl) (by exact .cons (.inr fun _ _ _ => rfl) (.nil)) ?_
    refine dq_write rfl (fun s => .op rfl (.nil)) rfl rfl (fun s hs => loc_callM (pick_spec b _ _ (by assumption) (by omega)) rfl) (by exact .cons (.inr fun _ _ _ => ⟨rfl, rfl⟩) (.nil)) ?_
    first | refine dq_pure rfl (fun s => .op rfl (.nil)) (fun s hs _ => loc_mul rfl rfl (by first | omega | assumption | (simp; omega))) (by exact .cons (.inr fun _ _ _ => rfl) (.nil)) ?_ | refine dq_pure rfl (fun s => .op rfl (.nil)) (fun s hs _ => loc_mulW rfl rfl) (by exact .cons (.inr fun _ _ _ => rfl) (.nil)) ?_
    first | refine dq_pure rfl (fun s => .op rfl (.op rfl (.nil))) (fun s hs _ => loc_add rfl rfl (by first | omega | assumption | (simp; omega))) (by exact .cons (.inr fun _ _ _ => rfl) (.nil)) ?_ | refine dq_pure rfl (fun s => .op rfl (.op rfl (.nil))) (fun s hs _ => loc_addW rfl rfl) (by exact .cons (.inr fun _ _ _ => rfl) (.nil)) ?_
    refine dq_pure rfl (fun s => .g rfl (.nil)) (fun s hs _ => loc_fieldAddr rfl) (by exact .cons (.inr fun _ _ _ => rfl) (.nil)) ?_
    refine dq_pure rfl (fun s => .op rfl (.nil)) (fun s hs _ => loc_load1 rfl) (by exact .cons (.inr fun _ _ _ => rfl) (.nil)) ?_
    first | refine dq_pure rfl (fun s => .op rfl (.op rfl (.nil))) (fun s hs _ => loc_rem rfl rfl (by first | omega | assumption | (simp; omega))) (by exact .cons (.inr fun _ _ _ => rfl) (.nil)) ?_ | refine dq_pure rfl (fun s => .op rfl (.op rfl (.nil))) (fun s hs _ => loc_remW rfl rfl (by first | omega | assumption | (simp; omega))) (by exact .cons (.inr fun _ _ _ => rfl) (.nil)) ?_
    refine dq_pure rfl (fun s => .op rfl (.nil)) (fun s hs _ => loc_buildSlice rfl rfl (.one rfl (.nil)) rfl rfl) (by exact .cons (.inr fun _ _ _ => rfl) (.nil)) ?_
    refine dq_choose id (fun _ t => t) rfl (fun _ _ => ⟨rfl, id, trivial⟩) (fun s => .op rfl (.op rfl (.nil))) rfl rfl (fun s hs => loc_append1 _ rfl rfl rfl rfl (by first | omega | (unfold lenMax; omega) | assumption | (simp; omega) | (simp [lenMax]; omega)) (by first | omega | (unfold lenMax; omega) | assumption | (simp; omega) | (simp [lenMax]; omega))) (by exact .cons (.inl rfl) (.nil)) ?_
    refine dq_pure rfl (fun s => .op rfl (.nil)) (fun s hs _ => loc_assign rfl) (by exact .cons (.inl rfl) (.nil)) ?_
    refine dq_end (rs := [_, _]) (.bool true) rfl (fun _ => rfl) (.cons rfl (.nil)) rfl (fun v3 _ => ?_)
    dsimp only [outG, outM, List.map, List.set, id]
    refine run_inBlock ?_
    refine run_region ?_
    refine run_op (loc_move rfl) rfl ?_
    first | refine run_op (loc_add rfl rfl (by first | omega | assumption | (simp; omega))) rfl ?_ | refine run_op (loc_addW rfl rfl) rfl ?_
    refine run_op (loc_assign rfl) rfl ?_
    refine run_nil ?_
    exact run_againF ih1 ((v3, q.2.1 ++ [(q.2.2.val 256 + q.2.2.next.val 2 * 128) % p], q.2.2.next.next)) (⟨by simp only [List.length_append, List.length_singleton]; omega, fun x hx => by rcases List.mem_append.1 hx with hx | hx; (· exact hall x hx); (· rw [List.mem_singleton.1 hx]; exact hxb), Dc.next_ok hok1⟩) (by simp only [List.length_append, List.length_singleton]; omega) (.cons rfl (by first | exact fun _ _ h => h | exact d_int (by omega) | exact d_int (by simp) | exact d_intN (by omega) | exact d_any) (.cons rfl (d_int (by simp only [List.length_append, List.length_singleton]; omega)) .nil)) (.cons rfl (fun _ _ x => x) (.cons rfl (fun _ _ x => x) (.cons rfl (fun _ _ x => x) (.nil)))) (rfl)
  ·
    refine run_exit rfl ?_
    refine run_seq ?_
    refine run_freezeRow (s := 7) rfl (.here) ?_
    refine run_region ?_
    refine run_op (loc_move rfl) rfl ?_
    refine run_op (loc_assign rfl) rfl ?_
    refine run_nil ?_
    refine run_ret (q.2) Try.func66 rfl rfl ?_ (⟨⟨by omega, hall⟩, hok⟩) (fun _ _ h => h.sub (.cons_cons _ (.refl _)))
    exact fun _ _ h => h

theorem drows_spec (b : Nat) (d : Dc) (h : okDc d) (p n w : Int) (hp : 2 ≤ p ∧ p ≤ 65521) (hn : n ≤ 100000) (hw : w ≤ 100000) : Spec Try.prog 51 [dVal (ptr b 0), dAgg [dInt .i64 p], dInt .i64 n, dInt .i64 w] [rDc b d] (σ := List (List Int) × Dc) (fun s => (s.1.length = n.toNat ∧ ∀ r ∈ s.1, r.length = w.toNat ∧ ∀ x ∈ r, hasP p x) ∧ okDc s.2) (fun s => dRows s.1) (fun s => [rDc b s.2]) := by
  refine spec_of_body Try.func51 rfl rfl (fun I F => ?_)
  refine run_seq ?_
  refine run_region ?_
  refine run_op (loc_boxN rfl) rfl ?_
  refine run_op (loc_assign rfl) rfl ?_
  refine run_nil ?_
  refine run_seq ?_
  refine run_region ?_
  refine run_op (loc_assign rfl) rfl ?_
  refine run_nil ?_
  refine run_seq ?_
  refine run_seq ?_
  refine run_region ?_
  refine run_op (loc_assign rfl) rfl ?_
  refine run_nil ?_
  refine run_block ?_
  refine run_rowNil 40 1 fR ?_
  refine run_loopF (σ := Value × List (List Int) × Dc) (ks := [0, 2, 3, 5]) (.cons rfl (.cons rfl (.cons rfl (.cons rfl (.nil))))) (fun q => [(9, dVal q.1), (10, dInt .i64 (q.2.1.length : Nat))]) (fun q => [rRow q.1 40 1 fR q.2.1, rDc b q.2.2]) (fun q => q.2.1.length ≤ n.toNat ∧ (∀ r ∈ q.2.1, r.length = w.toNat ∧ ∀ x ∈ r, hasP p x) ∧ okDc q.2.2) (fun q => n.toNat - q.2.1.length) ((.slice none 0 0, [], d)) (⟨Nat.zero_le _, fun x hx => (by cases hx), h⟩) (.cons rfl (by first | exact fun _ _ h => h | exact d_int (by omega) | exact d_int (by simp) | exact d_intN (by omega) | exact d_any) (.cons rfl (d_int rfl) .nil)) (rfl) ?_
  rintro q ⟨hl, hall, hok⟩ ih1
  refine run_seq ?_
  refine run_seq ?_
  refine run_region ?_
  refine run_op (loc_move rfl) rfl ?_
  refine run_op (loc_move rfl) rfl ?_
  refine run_op (loc_lss rfl rfl) rfl ?_
  refine run_nil ?_
  refine run_cond rfl (fun h2 => ?_) (fun h2 => ?_)
  ·
    refine run_skip ?_
    refine run_seq ?_
    refine run_block ?_
    refine run_region ?_
    refine run_op (loc_move rfl) rfl ?_
    refine run_op (loc_move rfl) rfl ?_
    refine run_op (loc_loadN rfl rfl) rfl ?_
    refine run_op (loc_move rfl) rfl ?_
    refine run_callM rfl (.there (.here)) (delements_spec b _ (by assumption) p w hp hw) rfl (fun x20 hx20 => ?_)
    refine run_op (loc_buildSlice rfl rfl (.one rfl (.nil)) rfl rfl) rfl ?_
    refine run_append1 rfl (.here) rfl (by rfl) (by rfl) (by first | omega | (unfold lenMax; omega) | assumption | (simp; omega) | (simp [lenMax]; omega)) (by first | omega | (unfold lenMax; omega) | assumption | (simp; omega) | (simp [lenMax]; omega)) rfl (fun v3 => ?_)
    refine run_op (loc_assign rfl) rfl ?_
    refine run_nil ?_
    refine run_inBlock ?_
    refine run_region ?_
    refine run_op (loc_move rfl) rfl ?_
    first | refine run_op (loc_add rfl rfl (by first | omega | assumption | (simp; omega))) rfl ?_ | refine run_op (loc_addW rfl rfl) rfl ?_
    refine run_op (loc_assign rfl) rfl ?_
    refine run_nil ?_
    exact run_againF ih1 ((v3, q.2.1 ++ [x20.1], x20.2)) (⟨by simp only [List.length_append, List.length_singleton]; omega, fun x hx => by rcases List.mem_append.1 hx with hx | hx; (· exact hall x hx); (· rw [List.mem_singleton.1 hx]; exact hx20.1), hx20.2⟩) (by simp only [List.length_append, List.length_singleton]; omega) (.cons rfl (by first | exact fun _ _ h => h | exact d_int (by omega) | exact d_int (by simp) | exact d_intN (by omega) | exact d_any) (.cons rfl (d_int (by simp only [List.length_append, List.length_singleton]; omega)) .nil)) (.cons rfl (fun _ _ x => x) (.cons rfl (fun _ _ x => x) (.cons rfl (fun _ _ x => x) (.cons rfl (fun _ _ x => x) (.nil))))) (rfl)
  ·
    refine run_exit rfl ?_
    refine run_seq ?_
    refine run_freezeRow (s := 9) rfl (.here) ?_
    refine run_region ?_
    refine run_op (loc_move rfl) rfl ?_
    refine run_op (loc_assign rfl) rfl ?_
    refine run_nil ?_
    refine run_ret (q.2) Try.func51 rfl rfl ?_ (⟨⟨by omega, hall⟩, hok⟩) (fun _ _ h => h.sub (.cons_cons _ (.refl _)))
    exact fun _ _ h => h

theorem dtable_spec (b : Nat) (d : Dc) (h : okDc d) (p : Int) (hp : dieP p) : Spec Try.prog 27 [dVal (ptr b 0), dAgg [dInt .i64 p]] [rDc b d] (σ := Tab × Dc) (fun s => dieT p s.1 ∧ okDc s.2) (fun s => dTab s.1) (fun s => [rDc b s.2]) := by
  refine spec_of_body Try.func27 rfl rfl (fun I F => ?_)
  refine run_seq ?_
  refine run_region ?_
  refine run_op (loc_boxN rfl) rfl ?_
  refine run_new (loc_allocOwn (by simp)) rfl (fun b1 _ => ?_)
  refine run_nil ?_
  refine run_seq ?_
  have hpb := (dieP_ok hp).2
  have h1 := Dc.next_ok h
  have h2 := Dc.next_ok h1
  have h3 := Dc.next_ok h2
  have hv0 := Dc.val_lt (d := d) (n := 3) (by omega)
  have hw0 := Dc.val_nonneg (d := d) (n := 3) (by omega)
  have hv1 := Dc.val_lt (d := d.next) (n := 3) (by omega)
  have hw1 := Dc.val_nonneg (d := d.next) (n := 3) (by omega)
  have hv2 := Dc.val_lt (d := d.next.next) (n := 5) (by omega)
  have hw2 := Dc.val_nonneg (d := d.next.next) (n := 5) (by omega)
  refine run_region ?_
  refine run_op (loc_move rfl) rfl ?_
  refine run_callM rfl (.there (.here)) (pick_spec b _ _ (by assumption) (by omega)) rfl (fun s2 hs2 => ?_)
  first | refine run_op (loc_add rfl rfl (by first | omega | assumption | (simp; omega))) rfl ?_ | refine run_op (loc_addW rfl rfl) rfl ?_
  refine run_op (loc_assign rfl) rfl ?_
  refine run_nil ?_
  refine run_seq ?_
  refine dr_start _ (.one (σ := List (List Int) × Dc) 11 (fun s => (s.1.length = (1 + d.next.next.val 5).toNat ∧ ∀ r ∈ s.1, r.length = (1 + d.val 3).toNat ∧ ∀ x ∈ r, hasP p x) ∧ okDc s.2)) [⟨[(0, none)], [], none⟩,
      ⟨[(9, some (0, false))], [0], some (1, 0, true)⟩,
      ⟨[(10, some (1, false))], [0, 1], none⟩,
      ⟨[(3, none)], [], none⟩,
      ⟨[(5, none)], [], none⟩,
      ⟨[(0, none)], [], none⟩,
      ⟨[(3, none)], [], none⟩,
      ⟨[(0, none)], [], none⟩,
      ⟨[(16, some (7, false))], [0, 1, 7], some (1, 1, true)⟩,
      ⟨[(17, some (8, false))], [0, 1, 7, 8], none⟩,
      ⟨[(5, none)], [], none⟩,
      ⟨[(14, some (5, false)), (15, some (6, false)), (18, some (9, false)), (19, some (10, false))], [0, 1, 5, 6, 7, 8, 9, 10], some (1, 2, true)⟩,
      ⟨[(11, some (2, false)), (12, some (3, false)), (13, some (4, false)), (20, some (11, false))], [0, 1, 2, 3, 4, 5, 6, 7, 8, 9, 10, 11], none⟩,
      ⟨[(4, none), (21, some (12, false))], [0, 1, 2, 3, 4, 5, 6, 7, 8, 9, 10, 11, 12], some (0, 0, true)⟩] [_, _] _ rfl rfl ?_
  refine dq_pure rfl (fun s => .g rfl (.nil)) (fun s hs _ => loc_move rfl) (by exact .cons (.inr fun _ _ _ => rfl) (.nil)) ?_
  refine dq_write rfl (fun s => .op rfl (.nil)) rfl rfl (fun s hs => loc_callM (pick_spec b _ _ (by assumption) (by omega)) rfl) (by exact .cons (.inr fun _ _ _ => ⟨rfl, rfl⟩) (.nil)) ?_
  first | refine dq_pure rfl (fun s => .op rfl (.nil)) (fun s hs _ => loc_add rfl rfl (by first | omega | assumption | (simp; omega))) (by exact .cons (.inr fun _ _ _ => rfl) (.nil)) ?_ | refine dq_pure rfl (fun s => .op rfl (.nil)) (fun s hs _ => loc_addW rfl rfl) (by exact .cons (.inr fun _ _ _ => rfl) (.nil)) ?_
  refine dq_pure rfl (fun s => .g rfl (.nil)) (fun s hs _ => loc_loadN rfl rfl) (by exact .cons (.inr fun _ _ _ => rfl) (.nil)) ?_
  refine dq_pure rfl (fun s => .g rfl (.nil)) (fun s hs _ => loc_move rfl) (by exact .cons (.inr fun _ _ _ => rfl) (.nil)) ?_
  refine dq_pure rfl (fun s => .g rfl (.nil)) (fun s hs _ => loc_move rfl) (by exact .cons (.inr fun _ _ _ => rfl) (.nil)) ?_
  refine dq_pure rfl (fun s => .g rfl (.nil)) (fun s hs _ => loc_loadN rfl rfl) (by exact .cons (.inr fun _ _ _ => rfl) (.nil)) ?_
  refine dq_pure rfl (fun s => .g rfl (.nil)) (fun s hs _ => loc_move rfl) (by exact .cons (.inr fun _ _ _ => rfl) (.nil)) ?_
  refine dq_write rfl (fun s => .op rfl (.nil)) rfl rfl (fun s hs => loc_callM (pick_spec b _ _ (by assumption) (by omega)) rfl) (by exact .cons (.inr fun _ _ _ => ⟨rfl, rfl⟩) (.nil)) ?_
  first | refine dq_pure rfl (fun s => .op rfl (.nil)) (fun s hs _ => loc_add rfl rfl (by first | omega | assumption | (simp; omega))) (by exact .cons (.inr fun _ _ _ => rfl) (.nil)) ?_ | refine dq_pure rfl (fun s => .op rfl (.nil)) (fun s hs _ => loc_addW rfl rfl) (by exact .cons (.inr fun _ _ _ => rfl) (.nil)) ?_
  refine dq_pure rfl (fun s => .g rfl (.nil)) (fun s hs _ => loc_move rfl) (by exact .cons (.inr fun _ _ _ => rfl) (.nil)) ?_
  refine dq_choose id (fun _ t => t) rfl (fun _ _ => ⟨rfl, id, trivial⟩) (fun s => .op rfl (.op rfl (.op rfl (.op rfl (.nil))))) rfl rfl (fun s hs => loc_callM (drows_spec b _ (by assumption) p _ _ ⟨by omega, by omega⟩ (by omega) (by omega)) rfl) (by exact .cons (.inl rfl) (.nil)) ?_
  refine dq_pure rfl (fun s => .op rfl (.op rfl (.op rfl (.op rfl (.nil))))) (fun s hs _ => loc_build (.one rfl rfl rfl (.agg rfl rfl rfl rfl (.one rfl rfl rfl (.one rfl rfl rfl (.nil)))))) (by exact .cons (.inl rfl) (.nil)) ?_
  refine dq_write0 rfl (fun s => .g rfl (.op rfl (.nil))) rfl rfl (fun s hs => loc_storeN (ho := (by show OneAll [_, _, _, _]; infer_instance)) rfl rfl rfl) (by exact .cons (.inl rfl) (.nil)) ?_
  refine dq_end (rs := [_, _]) ([], d) rfl (fun _ => rfl) (.cons rfl (.nil)) rfl (fun r9 h9 => ?_)
  obtain hr9 := Ch.one_good h9
  dsimp only [outG, outM, List.map, List.set, id]
  refine run_retG ((⟨1 + d.next.val 3, p, 1 + d.val 3, r9.1⟩, r9.2)) Try.func27 rfl (.cellN rfl (by first | exact .here | exact .there .here | exact .there (.there .here) | exact .there (.there (.there .here)) | exact .there (.there (.there (.there .here))) | exact .there (.there (.there (.there (.there .here))))) (by rfl) (.nil)) ?_ (⟨dieT_of hp (by omega) (by omega) (by omega) hr9.1, hr9.2⟩) (fun _ _ h => h.sub (.cons _ (.cons_cons _ (.refl _))))
  exact fun _ _ h => h

theorem dtape_spec (b : Nat) (d : Dc) (h : okDc d) (ls : List Int) (hl : ls.length ≤ 100000) (hlo : ∀ l ∈ ls, 1 ≤ l) : Spec Try.prog 32 [dVal (ptr b 0), dInts ls] [rDc b d] (σ := Tape × Dc) (fun s => dieTp ls s.1 ∧ okDc s.2) (fun s => dTape s.1) (fun s => [rDc b s.2]) := by
  refine spec_of_body Try.func32 rfl rfl (fun I F => ?_)
  refine run_seq ?_
  refine run_region ?_
  refine run_new (loc_allocOwn (by simp)) rfl (fun b4 _ => ?_)
  refine run_nil ?_
  refine run_seq ?_
  refine run_region ?_
  refine run_new (loc_allocOwn (by simp)) rfl (fun b5 _ => ?_)
  refine run_nil ?_
  refine run_seq ?_
  refine run_seq ?_
  refine run_region ?_
  refine run_op (loc_assign rfl) rfl ?_
  refine run_nil ?_
  refine run_block ?_
  refine run_rowNil 3 1 fI ?_
  refine run_cellsUp (kk := 0) (b := b5) (dVal (.slice none 0 0)) (dSlV (.slice none 0 0)) (.there (.here)) rfl (fun J u h => ⟨h, _, _, _, h⟩) ?_
  refine run_front (.there (.there (.there (.here)))) ?_
  refine run_front (.there (.here)) ?_
  refine run_front (.there (.there (.here))) ?_
  refine run_loopF (σ := Value × List Int × Dc) (ks := [0, 1, 4, 5]) (.cons rfl (.cons rfl (.cons rfl (.cons rfl (.nil))))) (fun q => [(6, dInt .i64 (q.2.1.length : Nat))]) (fun q => [rCells b5 57 [dSlV q.1, dInt .i64 0], rRow q.1 3 1 fI q.2.1, rDc b q.2.2]) (fun q => q.2.1.length ≤ ls.length ∧ (∀ j, j < q.2.1.length → 0 ≤ q.2.1[j]?.getD default ∧ q.2.1[j]?.getD default < ls[j]?.getD default) ∧ okDc q.2.2) (fun q => ls.length - q.2.1.length) ((.slice none 0 0, [], d)) (⟨Nat.zero_le _, fun j hj => by simp at hj, h⟩) (.cons rfl (d_int rfl) .nil) (rfl) ?_
  rintro q ⟨hql, hall, hok⟩ ih1
  have hok1 := Dc.next_ok hok
  have hv0 := Dc.val_lt (d := q.2.2) (n := 256) (by omega)
  have hw0 := Dc.val_nonneg (d := q.2.2) (n := 256) (by omega)
  have hv1 := Dc.val_lt (d := q.2.2.next) (n := 5) (by omega)
  have hw1 := Dc.val_nonneg (d := q.2.2.next) (n := 5) (by omega)
  have hmm := mul_bd (a := 7 * (q.2.1.length : Int)) (b := q.2.2.next.val 5) (A := 700000) (B := 5) (by omega) (by omega) (by omega) (by omega)
  refine run_seq ?_
  refine run_seq ?_
  refine run_region ?_
  refine run_op (loc_move rfl) rfl ?_
  refine run_op (loc_move rfl) rfl ?_
  first | refine runL_fact (s := 8) rfl (fun _ _ h => dSl_len h) (fun hlen2 => ?_) | skip
  refine run_op (loc_len rfl) rfl ?_
  refine run_op (loc_lss rfl rfl) rfl ?_
  refine run_nil ?_
  refine run_cond rfl (fun h3 => ?_) (fun h3 => ?_)
  ·
    have hl1 := hlo (ls[q.2.1.length]?.getD default) (getD_mem (by omega))
    have hxb := mod_bd (q.2.2.val 256 + 7 * (q.2.1.length : Int) * q.2.2.next.val 5) (show 0 < ls[q.2.1.length]?.getD default by omega)
    refine run_skip ?_
    refine run_seq ?_
    refine run_block ?_
    refine dr_start _ (.one (σ := Value) 16 (fun _ => True)) [⟨[(5, none)], [], none⟩,
        ⟨[(13, some (0, false))], [0], some (0, 0, false)⟩,
        ⟨[(0, none)], [], none⟩,
        ⟨[(15, some (2, false))], [2], some (2, 0, true)⟩,
        ⟨[(6, none)], [], none⟩,
        ⟨[(17, some (4, false))], [4], none⟩,
        ⟨[(0, none)], [], none⟩,
        ⟨[(19, some (6, false))], [2, 3, 6], some (2, 1, true)⟩,
        ⟨[(18, some (5, false)), (20, some (7, false))], [2, 3, 4, 5, 6, 7], none⟩,
        ⟨[(16, some (3, false)), (21, some (8, false))], [2, 3, 4, 5, 6, 7, 8], none⟩,
        ⟨[(1, none)], [], none⟩,
        ⟨[(6, none)], [], none⟩,
        ⟨[(23, some (10, false)), (24, some (11, false))], [10, 11], none⟩,
        ⟨[(25, some (12, false))], [10, 11, 12], none⟩,
        ⟨[(22, some (9, false)), (26, some (13, false))], [2, 3, 4, 5, 6, 7, 8, 9, 10, 11, 12, 13], none⟩,
        ⟨[(27, some (14, false))], [2, 3, 4, 5, 6, 7, 8, 9, 10, 11, 12, 13, 14], none⟩,
        ⟨[(14, some (1, false)), (28, some (15, false))], [0, 1, 2, 3, 4, 5, 6, 7, 8, 9, 10, 11, 12, 13, 14, 15], some (1, 0, true)⟩,
        ⟨[(5, none)], [0, 1, 2, 3, 4, 5, 6, 7, 8, 9, 10, 11, 12, 13, 14, 15, 16], none⟩,
        ⟨[(30, some (17, false)), (29, some (16, false))], [0, 1, 2, 3, 4, 5, 6, 7, 8, 9, 10, 11, 12, 13, 14, 15, 16, 17], some (0, 0, true)⟩] [_, _, _, _] _ rfl rfl ?_
    refine dq_pure rfl (fun s => .g rfl (.nil)) (fun s hs _ => loc_fieldAddrOwn rfl) (by exact .cons (.inr fun _ _ _ => rfl) (.nil)) ?_
    first | refine dq_read rfl (fun s => .op rfl (.nil)) rfl rfl (fun s hs _ hm => LocP.upV (loc_loadOwn1 rfl hm (by rfl))) (by exact .cons (.inr fun _ _ _ => rfl) (.nil)) ?_ | refine dq_read rfl (fun s => .op rfl (.nil)) rfl rfl (fun s hs _ hm => loc_loadOwn1 rfl hm (by rfl)) (by exact .cons (.inr fun _ _ _ => rfl) (.nil)) ?_
    refine dq_pure rfl (fun s => .g rfl (.nil)) (fun s hs _ => loc_move rfl) (by exact .cons (.inr fun _ _ _ => rfl) (.nil)) ?_
    refine dq_write rfl (fun s => .op rfl (.nil)) rfl rfl (fun s hs => loc_callM (pick_spec b _ _ (by assumption) (by omega)) rfl) (by exact .cons (.inr fun _ _ _ => ⟨rfl, rfl⟩) (.nil)) ?_
    refine dq_pure rfl (fun s => .g rfl (.nil)) (fun s hs _ => loc_move rfl) (by exact .cons (.inr fun _ _ _ => rfl) (.nil)) ?_
    first | refine dq_pure rfl (fun s => .op rfl (.nil)) (fun s hs _ => loc_mul rfl rfl (by first | omega | assumption | (simp; omega))) (by exact .cons (.inr fun _ _ _ => rfl) (.nil)) ?_ | refine dq_pure rfl (fun s => .op rfl (.nil)) (fun s hs _ => loc_mulW rfl rfl) (by exact .cons (.inr fun _ _ _ => rfl) (.nil)) ?_
    refine dq_pure rfl (fun s => .g rfl (.nil)) (fun s hs _ => loc_move rfl) (by exact .cons (.inr fun _ _ _ => rfl) (.nil)) ?_
    refine dq_write rfl (fun s => .op rfl (.nil)) rfl rfl (fun s hs => loc_callM (pick_spec b _ _ (by assumption) (by omega)) rfl) (by exact .cons (.inr fun _ _ _ => ⟨rfl, rfl⟩) (.nil)) ?_
    first | refine dq_pure rfl (fun s => .op rfl (.op rfl (.nil))) (fun s hs _ => loc_mul rfl rfl (by first | omega | assumption | (simp; omega))) (by exact .cons (.inr fun _ _ _ => rfl) (.nil)) ?_ | refine dq_pure rfl (fun s => .op rfl (.op rfl (.nil))) (fun s hs _ => loc_mulW rfl rfl) (by exact .cons (.inr fun _ _ _ => rfl) (.nil)) ?_
    first | refine dq_pure rfl (fun s => .op rfl (.op rfl (.nil))) (fun s hs _ => loc_add rfl rfl (by first | omega | assumption | (simp; omega))) (by exact .cons (.inr fun _ _ _ => rfl) (.nil)) ?_ | refine dq_pure rfl (fun s => .op rfl (.op rfl (.nil))) (fun s hs _ => loc_addW rfl rfl) (by exact .cons (.inr fun _ _ _ => rfl) (.nil)) ?_
    refine dq_pure rfl (fun s => .g rfl (.nil)) (fun s hs _ => loc_move rfl) (by exact .cons (.inr fun _ _ _ => rfl) (.nil)) ?_
    refine dq_pure rfl (fun s => .g rfl (.nil)) (fun s hs _ => loc_move rfl) (by exact .cons (.inr fun _ _ _ => rfl) (.nil)) ?_
    first | refine dq_pure rfl (fun s => .op rfl (.op rfl (.nil))) (fun s hs _ => loc_index rfl rfl (by first | omega | assumption | (simp; omega))) (by exact .cons (.inr fun _ _ _ => rfl) (.nil)) ?_ | refine dq_pure rfl (fun s => .op rfl (.op rfl (.nil))) (fun s hs _ => loc_indexI rfl rfl (by first | omega | assumption | (simp; omega))) (by exact .cons (.inr fun _ _ _ => rfl) (.nil)) ?_
    refine dq_pure rfl (fun s => .op rfl (.nil)) (fun s hs _ => loc_load1 rfl) (by exact .cons (.inr fun _ _ _ => rfl) (.nil)) ?_
    first | refine dq_pure rfl (fun s => .op rfl (.op rfl (.nil))) (fun s hs _ => loc_rem rfl rfl (by first | omega | assumption | (simp; omega))) (by exact .cons (.inr fun _ _ _ => rfl) (.nil)) ?_ | refine dq_pure rfl (fun s => .op rfl (.op rfl (.nil))) (fun s hs _ => loc_remW rfl rfl (by first | omega | assumption | (simp; omega))) (by exact .cons (.inr fun _ _ _ => rfl) (.nil)) ?_
    refine dq_pure rfl (fun s => .op rfl (.nil)) (fun s hs _ => loc_buildSlice rfl rfl (.one rfl (.nil)) rfl rfl) (by exact .cons (.inr fun _ _ _ => rfl) (.nil)) ?_
    refine dq_choose id (fun _ t => t) rfl (fun _ _ => ⟨rfl, id, trivial⟩) (fun s => .op rfl (.op rfl (.nil))) rfl rfl (fun s hs => LocM.rowV (loc_append1 _ rfl rfl rfl rfl (by first | omega | (unfold lenMax; omega) | assumption | (simp; omega) | (simp [lenMax]; omega)) (by first | omega | (unfold lenMax; omega) | assumption | (simp; omega) | (simp [lenMax]; omega)))) (by exact .cons (.inl rfl) (.nil)) ?_
    refine dq_pure rfl (fun s => .g rfl (.nil)) (fun s hs _ => loc_fieldAddrOwn rfl) (by exact .cons (.inl rfl) (.nil)) ?_
    refine dq_write0 rfl (fun s => .op rfl (.op rfl (.nil))) rfl rfl (fun s hs => loc_store1 rfl rfl rfl) (by exact .cons (.inl rfl) (.nil)) ?_
    refine dq_end (rs := [_, _, _, _]) (.bool true) rfl (fun _ => rfl) (.cons rfl (.nil)) rfl (fun v9 _ => ?_)
    dsimp only [outG, outM, List.map, List.set, id]
    refine run_inBlock ?_
    refine run_region ?_
    refine run_op (loc_move rfl) rfl ?_
    first | refine run_op (loc_add rfl rfl (by first | omega | assumption | (simp; omega))) rfl ?_ | refine run_op (loc_addW rfl rfl) rfl ?_
    refine run_op (loc_assign rfl) rfl ?_
    refine run_nil ?_
    exact run_againF ih1 ((v9, q.2.1 ++ [(q.2.2.val 256 + 7 * (q.2.1.length : Int) * q.2.2.next.val 5) % (ls[q.2.1.length]?.getD default)], q.2.2.next.next)) (⟨by simp only [List.length_append, List.length_singleton]; omega, snoc_all hall hxb, Dc.next_ok hok1⟩) (by simp only [List.length_append, List.length_singleton]; omega) (.cons rfl (d_int (by simp only [List.length_append, List.length_singleton]; omega)) .nil) (.cons rfl (fun _ _ x => x) (.cons rfl (fun _ _ x => x) (.cons rfl (fun _ _ x => x) (.cons rfl (fun _ _ x => x) (.nil))))) (rfl)
  ·
    refine run_exit rfl ?_
    refine run_seq ?_
    first | refine run_freezeRowCellV (kk := 0) (.there (.here)) (.here) rfl ?_ | refine run_freezeRowCell (kk := 0) (.there (.here)) (.here) rfl ?_
    refine run_region ?_
    refine run_op (loc_loadOwnN rfl (.here) (by rfl)) rfl ?_
    refine run_storeN (ho := (by show OneAll [_, _]; infer_instance)) rfl rfl (.there (.there (.here))) (by rfl) ?_
    refine run_nil ?_
    refine run_retG ((⟨q.2.1, 0⟩, q.2.2)) Try.func32 rfl (.cellN rfl (by first | exact .here | exact .there .here | exact .there (.there .here) | exact .there (.there (.there .here)) | exact .there (.there (.there (.there .here))) | exact .there (.there (.there (.there (.there .here))))) (by rfl) (.nil)) ?_ (⟨⟨rfl, by simp only; omega, fun j hj => hall j (by omega)⟩, hok⟩) (fun _ _ h => h.sub (.cons _ (.cons_cons _ (.cons _ (.refl _)))))
    exact fun _ _ h => h

theorem dwish_spec (b : Nat) (d : Dc) (h : okDc d) (n : Int) (hn : 0 ≤ n ∧ n ≤ 100000) : Spec Try.prog 30 [dVal (ptr b 0), dInt .i64 n] [rDc b d] (σ := List Int × Dc) (fun s => dieW n s.1 ∧ okDc s.2) (fun s => dInts s.1) (fun s => [rDc b s.2]) := by
  refine spec_of_body Try.func30 rfl rfl (fun I F => ?_)
  refine run_seq ?_
  refine run_region ?_
  refine run_op (loc_assign rfl) rfl ?_
  refine run_nil ?_
  refine run_seq ?_
  refine run_region ?_
  refine run_op (loc_assign rfl) rfl ?_
  refine run_nil ?_
  refine run_seq ?_
  refine run_seq ?_
  have hv0 := Dc.val_lt (d := d) (n := 3) (by omega)
  have hw0 := Dc.val_nonneg (d := d) (n := 3) (by omega)
  refine run_region ?_
  refine run_op (loc_move rfl) rfl ?_
  refine run_callM rfl (.here) (pick_spec b _ _ (by assumption) (by omega)) rfl (fun s1 hs1 => ?_)
  first | refine run_op (loc_add rfl rfl (by first | omega | assumption | (simp; omega))) rfl ?_ | refine run_op (loc_addW rfl rfl) rfl ?_
  refine run_op (loc_assign rfl) rfl ?_
  refine run_nil ?_
  refine run_block ?_
  refine run_rowNil 3 1 fI ?_
  refine run_loopF (σ := Value × List Int × Dc) (ks := [0, 1]) (.cons rfl (.cons rfl (.nil))) (fun q => [(5, dVal q.1), (6, dInt .i64 (1 + d.val 3 - q.2.1.length))]) (fun q => [rRow q.1 3 1 fI q.2.1, rDc b q.2.2]) (fun q => (q.2.1.length : Int) ≤ 1 + d.val 3 ∧ (∀ x ∈ q.2.1, -1 ≤ x ∧ x < n) ∧ okDc q.2.2) (fun q => 3 - q.2.1.length) ((.slice none 0 0, [], d.next)) (⟨by simp only [List.length_nil]; omega, fun x hx => (by cases hx), Dc.next_ok h⟩) (.cons rfl (by first | exact fun _ _ h => h | exact d_int (by omega) | exact d_int (by simp) | exact d_intN (by omega) | exact d_any) (.cons rfl (d_int (by simp)) .nil)) (rfl) ?_
  rintro q ⟨hql, hall, hok⟩ ih2
  have hv1 := Dc.val_lt (d := q.2.2) (n := (n + 1)) (by omega)
  have hw1 := Dc.val_nonneg (d := q.2.2) (n := (n + 1)) (by omega)
  refine run_seq ?_
  refine run_seq ?_
  refine run_region ?_
  refine run_op (loc_move rfl) rfl ?_
  refine run_op (loc_gtr rfl rfl) rfl ?_
  refine run_nil ?_
  refine run_cond rfl (fun h3 => ?_) (fun h3 => ?_)
  ·
    refine run_skip ?_
    refine run_seq ?_
    refine run_block ?_
    refine run_region ?_
    refine run_op (loc_move rfl) rfl ?_
    refine run_op (loc_move rfl) rfl ?_
    refine run_op (loc_move rfl) rfl ?_
    first | refine run_op (loc_add rfl rfl (by first | omega | assumption | (simp; omega))) rfl ?_ | refine run_op (loc_addW rfl rfl) rfl ?_
    refine run_callM rfl (.there (.here)) (pick_spec b _ _ (by assumption) (by omega)) rfl (fun s4 hs4 => ?_)
    first | refine run_op (loc_sub rfl rfl (by first | omega | assumption | (simp; omega))) rfl ?_ | refine run_op (loc_subW rfl rfl) rfl ?_
    refine run_op (loc_buildSlice rfl rfl (.one rfl (.nil)) rfl rfl) rfl ?_
    refine run_append1 rfl (.here) rfl (by rfl) (by rfl) (by first | omega | (unfold lenMax; omega) | assumption | (simp; omega) | (simp [lenMax]; omega)) (by first | omega | (unfold lenMax; omega) | assumption | (simp; omega) | (simp [lenMax]; omega)) rfl (fun v5 => ?_)
    refine run_op (loc_assign rfl) rfl ?_
    refine run_nil ?_
    refine run_inBlock ?_
    refine run_region ?_
    refine run_op (loc_move rfl) rfl ?_
    first | refine run_op (loc_sub rfl rfl (by first | omega | assumption | (simp; omega))) rfl ?_ | refine run_op (loc_subW rfl rfl) rfl ?_
    refine run_op (loc_assign rfl) rfl ?_
    refine run_nil ?_
    exact run_againF ih2 ((v5, q.2.1 ++ [q.2.2.val (n + 1) - 1], q.2.2.next)) (⟨by simp only [List.length_append, List.length_singleton]; omega, fun x hx => by rcases List.mem_append.1 hx with hx | hx; (· exact hall x hx); (· rw [List.mem_singleton.1 hx]; omega), Dc.next_ok hok⟩) (by simp only [List.length_append, List.length_singleton]; omega) (.cons rfl (by first | exact fun _ _ h => h | exact d_int (by omega) | exact d_int (by simp) | exact d_intN (by omega) | exact d_any) (.cons rfl (d_int (by simp only [List.length_append, List.length_singleton]; omega)) .nil)) (.cons rfl (fun _ _ x => x) (.cons rfl (fun _ _ x => x) (.nil))) (rfl)
  ·
    refine run_exit rfl ?_
    refine run_seq ?_
    refine run_freezeRow (s := 5) rfl (.here) ?_
    refine run_region ?_
    refine run_op (loc_move rfl) rfl ?_
    refine run_op (loc_assign rfl) rfl ?_
    refine run_nil ?_
    refine run_ret (q.2) Try.func30 rfl rfl ?_ (⟨⟨⟨by omega, by omega⟩, hall⟩, hok⟩) (fun _ _ h => h.sub (.cons_cons _ (.refl _)))
    exact fun _ _ h => h

end Go.Q

namespace Go.Q
open Classical

/-- Whether a list is a wish. -/
def okW (n : Int) (rows : List Int) : Prop := (1 ≤ n ∧ n ≤ 1024) ∧ (1 ≤ (rows.length : Int) ∧ (rows.length : Int) ≤ 16) ∧ ∀ r ∈ rows, -1 ≤ r ∧ r ≤ n - 1
noncomputable def padE (k : Int) (rows : List Int) : Int := if ¬ (1 ≤ k ∧ k ≤ 16) ∨ (rows.length : Int) > k then 41 else 0
noncomputable def padL (k : Int) (rows : List Int) : List Int := if padE k rows = 0 then rows ++ List.replicate (k - rows.length).toNat (-1) else []
noncomputable def wlimE (s : Schm) (p n k : Int) : Int := if ¬ validS s p then 40 else if ¬ (1 ≤ k ∧ k ≤ 16) ∨ ¬ (1 ≤ n ∧ n ≤ 1024) then 41 else 0
noncomputable def wlimL (s : Schm) (p n k : Int) : List Int := if wlimE s p n k = 0 then reps k.toNat (limL s p n) else []
/-- The queries of rows, one after the other. -/
noncomputable def qsE (s : Schm) (p n : Int) : List Int → Tape → Int
  | [], _ => 0
  | r :: rs, t => if qryE s p n (max r 0) t = 0 then qsE s p n rs (qryT s p n (max r 0) t) else qryE s p n (max r 0) t
noncomputable def qsT (s : Schm) (p n : Int) : List Int → Tape → Tape
  | [], t => t
  | r :: rs, t => qsT s p n rs (qryT s p n (max r 0) t)
noncomputable def qsL (s : Schm) (p n : Int) : List Int → Tape → List (List (List Int))
  | [], _ => []
  | r :: rs, t => qryL s p n (max r 0) t :: qsL s p n rs (qryT s p n (max r 0) t)
theorem qsT_app (s : Schm) (p n : Int) : ∀ (ws us : List Int) (t : Tape), qsT s p n (ws ++ us) t = qsT s p n us (qsT s p n ws t)
  | [], us, t => rfl
  | a :: ws, us, t => qsT_app s p n ws us _
theorem qsL_app (s : Schm) (p n : Int) : ∀ (ws us : List Int) (t : Tape), qsL s p n (ws ++ us) t = qsL s p n ws t ++ qsL s p n us (qsT s p n ws t)
  | [], us, t => rfl
  | a :: ws, us, t => by
    show _ :: qsL s p n (ws ++ us) _ = (_ :: qsL s p n ws _) ++ _
    rw [qsL_app s p n ws us]; rfl
theorem qsE_app (s : Schm) (p n : Int) : ∀ (ws us : List Int) (t : Tape), qsE s p n ws t = 0 → qsE s p n (ws ++ us) t = qsE s p n us (qsT s p n ws t)
  | [], us, t, _ => rfl
  | a :: ws, us, t, h => by
    unfold qsE at h
    show (if qryE s p n (max a 0) t = 0 then qsE s p n (ws ++ us) _ else _) = _
    by_cases h0 : qryE s p n (max a 0) t = 0
    · rw [if_pos h0] at h ⊢; exact qsE_app s p n ws us _ h
    · rw [if_neg h0] at h; exact absurd h h0
theorem qsL_len (s : Schm) (p n : Int) : ∀ (ws : List Int) (t : Tape), (qsL s p n ws t).length = ws.length
  | [], t => rfl
  | a :: ws, t => by simp [qsL, qsL_len s p n ws]
theorem getD_drop1 {ws : List Int} {k : Nat} (h : k < ws.length) : ws = ws.take k ++ (ws[k]?.getD default :: ws.drop (k + 1)) := by
  conv => lhs; rw [← List.take_append_drop k ws]
  rw [List.drop_eq_getElem_cons h]; simp [h]
theorem qs_step {s : Schm} {p n : Int} {ws : List Int} {t : Tape} {k : Nat} (h : k < ws.length) (h0 : qsE s p n (ws.take k) t = 0) (h1 : qryE s p n (max (ws[k]?.getD default) 0) (qsT s p n (ws.take k) t) = 0) :
    qsE s p n (ws.take (k + 1)) t = 0 ∧ qsT s p n (ws.take (k + 1)) t = qryT s p n (max (ws[k]?.getD default) 0) (qsT s p n (ws.take k) t) ∧ qsL s p n (ws.take (k + 1)) t = qsL s p n (ws.take k) t ++ [qryL s p n (max (ws[k]?.getD default) 0) (qsT s p n (ws.take k) t)] := by
  have e : ws.take (k + 1) = ws.take k ++ [ws[k]?.getD default] := by rw [List.take_add_one]; simp [h]
  refine ⟨?_, ?_, ?_⟩
  · rw [e, qsE_app s p n _ _ _ h0]; unfold qsE; rw [if_pos h1]; rfl
  · rw [e, qsT_app]; rfl
  · rw [e, qsL_app]; rfl
theorem qs_stop {s : Schm} {p n : Int} {ws : List Int} {t : Tape} {k : Nat} (h : k < ws.length) (h0 : qsE s p n (ws.take k) t = 0) (h1 : qryE s p n (max (ws[k]?.getD default) 0) (qsT s p n (ws.take k) t) ≠ 0) :
    qsE s p n ws t = qryE s p n (max (ws[k]?.getD default) 0) (qsT s p n (ws.take k) t) := by
  conv => lhs; rw [getD_drop1 h]
  rw [qsE_app s p n _ _ _ h0]; unfold qsE; rw [if_neg h1]
noncomputable def wqE (s : Schm) (p n : Int) (rows : List Int) (t : Tape) : Int := if ¬ validS s p then 40 else if ¬ okW n rows then 41 else qsE s p n rows t
noncomputable def wqL (s : Schm) (p n : Int) (rows : List Int) (t : Tape) : List (List (List Int)) := if wqE s p n rows t = 0 then qsL s p n rows t else []
noncomputable def wqT (s : Schm) (p n : Int) (rows : List Int) (t : Tape) : Tape := if wqE s p n rows t = 0 then qsT s p n rows t else ⟨[], 0⟩

/-! ### Wishes that dice make -/

theorem reps_rep {α : Type} (x : α) (m : Nat) : ∀ c, reps c (List.replicate m x) = List.replicate (c * m) x
  | 0 => by simp [reps]
  | c + 1 => by rw [reps, reps_rep x m c, List.replicate_append_replicate]; congr 1; rw [Nat.add_mul]; omega
theorem limN_die {s : Schm} {n : Int} (hs : dieS s) (hn : 1 ≤ n ∧ n ≤ 5) : 0 ≤ limN s n ∧ limN s n ≤ 30 := by
  obtain ⟨h1, h2⟩ := hs
  have hb := shape_bd h1
  have hk := shape_kind h1
  have hs := h1
  unfold shapeS at hs
  unfold limN
  split
  · have := mul_bd (a := n) (b := s.servers - 1) (A := 5) (B := 6) (by omega) (by omega) (by omega) (by omega); omega
  · split
    · have := mul_bd (a := n) (b := s.degree) (A := 5) (B := 6) (by omega) (by omega) (by omega) (by omega); omega
    · have hg : 1 ≤ s.group := by omega
      have h3 : 1 ≤ (n + s.group - 1) / s.group := (Int.le_ediv_iff_mul_le (by omega)).2 (by omega)
      have h4 : (n + s.group - 1) / s.group ≤ n := by
        have h5 : (n + s.group - 1) / s.group < n + 1 := (Int.ediv_lt_iff_lt_mul (by omega)).2 (by
          have h6 : 0 ≤ n * (s.group - 1) := Int.mul_nonneg (by omega) (by omega)
          rw [Int.mul_sub] at h6; rw [Int.add_mul]; omega)
        omega
      have := mul_bd (a := (n + s.group - 1) / s.group) (b := s.degree) (A := 5) (B := 6) (by omega) (by omega) (by omega) (by omega); omega
theorem wlim_ok {s : Schm} {p n k : Int} (hv : validS s p) (hn : 1 ≤ n ∧ n ≤ 1024) (hk : 1 ≤ k ∧ k ≤ 16) : wlimE s p n k = 0 ∧ wlimL s p n k = List.replicate (k * limN s n).toNat p := by
  have e : wlimE s p n k = 0 := by unfold wlimE; rw [if_neg (Classical.not_not.2 hv), if_neg (by omega)]
  refine ⟨e, ?_⟩
  unfold wlimL
  rw [if_pos e, (lim_ok hv hn).2, reps_rep]
  congr 1
  rw [Int.toNat_mul (by omega) (limN_bd hv hn).1]
/-- Queries of a wish whose tape is long enough. -/
theorem qs_ok {s : Schm} {p n : Int} (hv : validS s p) (hn : 1 ≤ n ∧ n ≤ 1024) : ∀ {rows : List Int} {t : Tape}, okTape t → (∀ r ∈ rows, -1 ≤ r ∧ r < n) → drawE t p ((rows.length : Nat) * limN s n) = 0 →
    qsE s p n rows t = 0 ∧ (qsT s p n rows t).numbers = t.numbers ∧ (qsT s p n rows t).at' = t.at' + (rows.length : Nat) * limN s n ∧ ∀ q ∈ qsL s p n rows t, (q.length : Int) = s.servers ∧ ∀ x ∈ q, (x.length : Int) = unitsS s n
  | [], t, hk, _, _ => ⟨rfl, rfl, by simp [qsT], fun q hq => by cases hq⟩
  | r :: rs, t, hk, hr, hd => by
    have hr0 := hr r (List.mem_cons_self ..)
    have hl := (limN_bd hv hn).1
    have hq := qry_ok (s := s) (p := p) (n := n) (i := max r 0) (t := t) hv hn (by omega)
    have h0 : 0 ≤ ((rs.length : Nat) : Int) * limN s n := Int.mul_nonneg (by omega) hl
    have e1 : (((r :: rs).length : Nat) : Int) * limN s n = limN s n + (rs.length : Nat) * limN s n := by rw [List.length_cons, Int.natCast_add, Int.add_mul, Int.add_comm]; simp
    have hda : drawE t p (limN s n) = 0 := by
      by_cases h : drawE t p (limN s n) = 0
      · exact h
      · rw [e1, drawE_stop hl h0 h] at hd; exact absurd hd h
    have hq0 := hq.1.trans hda
    obtain ⟨hqT, hqL, hqA⟩ := hq.2 hda
    obtain ⟨e2, e3⟩ := drawT_ok hda
    rw [e1, drawE_sum hl h0 hda] at hd
    have ih := qs_ok hv hn (rows := rs) (t := qryT s p n (max r 0) t) (by rw [hqT]; exact e3) (fun x hx => hr x (List.mem_cons_of_mem _ hx)) (by rw [hqT]; exact hd)
    refine ⟨?_, ?_, ?_, ?_⟩
    · unfold qsE; rw [if_pos hq0]; exact ih.1
    · show (qsT s p n rs _).numbers = _
      rw [ih.2.1, hqT, e2]
    · show (qsT s p n rs _).at' = _
      rw [ih.2.2.1, hqT, e2, e1]; simp only; omega
    · intro q hm
      rcases List.mem_cons.1 hm with rfl | hm
      · exact ⟨hqL, hqA⟩
      · exact ih.2.2.2 q hm
theorem die_wish {s : Schm} {p n : Int} {rows : List Int} (hs : dieS s) (hp : dieP p) (hn : 1 ≤ n ∧ n ≤ 5) (hr : ∀ r ∈ rows, -1 ≤ r ∧ r < n) (hl : 1 ≤ (rows.length : Int) ∧ (rows.length : Int) ≤ 3) {k : Int} (hk : k = (rows.length : Nat)) {t : Tape} (ht : dieTp (wlimL s p n k) t) :
    okW n rows ∧ drawE t p ((rows.length : Nat) * limN s n) = 0 ∧ okTape t ∧ t.at' = 0 := by
  subst hk
  have hv := die_valid hs hp
  have hb := limN_die hs hn
  have hw := wlim_ok (k := (rows.length : Nat)) hv (by omega : 1 ≤ n ∧ n ≤ 1024) (by omega)
  rw [hw.2] at ht
  have hm := mul_bd (a := (rows.length : Nat)) (b := limN s n) (A := 3) (B := 30) (by omega) (by omega) (by omega) (by omega)
  have h2 := die_draw (dieP_ok hp).1 (by omega) ht
  rw [show ((((rows.length : Nat) * limN s n).toNat : Nat) : Int) = (rows.length : Nat) * limN s n by omega] at h2
  exact ⟨⟨by omega, by omega, fun r h => by have := hr r h; omega⟩, h2.2, h2.1, ht.1⟩
theorem wq_ok {s : Schm} {p n : Int} {rows : List Int} {t : Tape} (hv : validS s p) (hw : okW n rows) (hk : okTape t) (hd : drawE t p ((rows.length : Nat) * limN s n) = 0) :
    wqE s p n rows t = 0 ∧ wqL s p n rows t = qsL s p n rows t ∧ wqT s p n rows t = qsT s p n rows t := by
  have h := qs_ok hv hw.1 (rows := rows) hk (fun r hr => by have := hw.2.2 r hr; omega) hd
  have e : wqE s p n rows t = 0 := by unfold wqE; rw [if_neg (Classical.not_not.2 hv), if_neg (Classical.not_not.2 hw)]; exact h.1
  exact ⟨e, by unfold wqL; rw [if_pos e], by unfold wqT; rw [if_pos e]⟩
theorem qs_max {s : Schm} {p n : Int} : ∀ (rows : List Int) (t : Tape), qsL s p n (rows.map (max · 0)) t = qsL s p n rows t ∧ qsE s p n (rows.map (max · 0)) t = qsE s p n rows t
  | [], t => ⟨rfl, rfl⟩
  | r :: rs, t => by
    have e : max (max r 0) 0 = max r 0 := by omega
    have ih := qs_max (s := s) (p := p) (n := n) rs (qryT s p n (max r 0) t)
    simp only [List.map_cons, qsL, qsE, e, ih.1, ih.2, and_self]
/-- The queries at one place. -/
theorem qs_get {s : Schm} {p n : Int} {rows : List Int} {t : Tape} {k : Nat} (h : k < rows.length) : (qsL s p n rows t)[k]?.getD default = qryL s p n (max (rows[k]?.getD default) 0) (qsT s p n (rows.take k) t) := by
  conv => lhs; rw [getD_drop1 h]
  rw [qsL_app, List.getElem?_append_right (by rw [qsL_len, List.length_take]; omega)]
  rw [qsL_len, show k - (rows.take k).length = 0 by rw [List.length_take]; omega]
  rfl
theorem qs_pre {s : Schm} {p n : Int} {rows : List Int} {t : Tape} {k : Nat} (h : k < rows.length) (h0 : qsE s p n rows t = 0) : qsE s p n (rows.take k) t = 0 ∧ qryE s p n (max (rows[k]?.getD default) 0) (qsT s p n (rows.take k) t) = 0 := by
  have h1 : qsE s p n (rows.take k) t = 0 := by
    clear h
    induction rows generalizing t k with
    | nil => simp [qsE]
    | cons r rs ih =>
      unfold qsE at h0
      split at h0
      · rename_i he
        cases k with
        | zero => rfl
        | succ k => rw [List.take_succ_cons]; unfold qsE; rw [if_pos he]; exact ih h0
      · rename_i he; exact absurd h0 he
  refine ⟨h1, ?_⟩
  by_cases h2 : qryE s p n (max (rows[k]?.getD default) 0) (qsT s p n (rows.take k) t) = 0
  · exact h2
  · rw [qs_stop h h1 h2] at h0; exact h0
theorem pad_ok {k n : Int} {rows : List Int} (hk : 1 ≤ k ∧ k ≤ 16) (hl : (rows.length : Int) ≤ k) (hn : 1 ≤ n) (h : ∀ x ∈ rows, -1 ≤ x ∧ x < n) : padE k rows = 0 ∧ ((padL k rows).length : Int) = k ∧ ∀ x ∈ padL k rows, -1 ≤ x ∧ x < n := by
  have e : padE k rows = 0 := by unfold padE; rw [if_neg (by omega)]
  have e2 : padL k rows = rows ++ List.replicate (k - rows.length).toNat (-1) := by unfold padL; rw [if_pos e]
  refine ⟨e, by rw [e2, List.length_append, List.length_replicate]; omega, fun x hx => ?_⟩
  rw [e2] at hx
  rcases List.mem_append.1 hx with hx | hx
  · exact h x hx
  · rw [List.eq_of_mem_replicate hx]; omega
/-- What comes of a wish that dice make. -/
theorem die_wq {s : Schm} {p n : Int} {rows : List Int} (hs : dieS s) (hp : dieP p) (hn : 1 ≤ n ∧ n ≤ 5) (hr : ∀ r ∈ rows, -1 ≤ r ∧ r < n) {k : Int} (hl : (rows.length : Int) = k) (hk : 1 ≤ k ∧ k ≤ 3) {t : Tape} (ht : dieTp (wlimL s p n k) t) :
    wqE s p n rows t = 0 ∧ qsE s p n rows t = 0 ∧ wqL s p n rows t = qsL s p n rows t ∧ wqT s p n rows t = qsT s p n rows t ∧ (wqT s p n rows t).at' = k * limN s n ∧ ((wqL s p n rows t).length : Int) = k ∧ ∀ q ∈ wqL s p n rows t, (q.length : Int) = s.servers ∧ ∀ x ∈ q, (x.length : Int) = unitsS s n := by
  have hv := die_valid hs hp
  obtain ⟨h1, h2, h3, h4⟩ := die_wish hs hp hn hr (by omega) hl.symm ht
  obtain ⟨e1, e2, e3⟩ := wq_ok hv h1 h3 h2
  have hq := qs_ok (s := s) (p := p) (n := n) hv (by omega) h3 hr h2
  refine ⟨e1, hq.1, e2, e3, ?_, ?_, ?_⟩
  · rw [e3, hq.2.2.1, h4, hl]; omega
  · rw [e2, qsL_len]; exact hl
  · rw [e2]; exact hq.2.2.2
theorem one_wq {s : Schm} {p n : Int} {rows : List Int} {t : Tape} {k : Nat} (hv : validS s p) (hn : 1 ≤ n ∧ n ≤ 1024) (hr : ∀ r ∈ rows, -1 ≤ r ∧ r < n) (h0 : qsE s p n rows t = 0) (hk : k < rows.length) :
    wqE s p n [rows[k]?.getD default] (qsT s p n (rows.take k) t) = 0 ∧ wqL s p n [rows[k]?.getD default] (qsT s p n (rows.take k) t) = [(qsL s p n rows t)[k]?.getD default] ∧ wqT s p n [rows[k]?.getD default] (qsT s p n (rows.take k) t) = qsT s p n (rows.take (k + 1)) t := by
  obtain ⟨h1, h2⟩ := qs_pre hk h0
  have hm := hr (rows[k]?.getD default) (getD_mem hk)
  have hw : okW n [rows[k]?.getD default] := ⟨hn, by simp, fun r h => by rw [List.mem_singleton.1 h]; omega⟩
  have e : wqE s p n [rows[k]?.getD default] (qsT s p n (rows.take k) t) = 0 := by unfold wqE; rw [if_neg (Classical.not_not.2 hv), if_neg (Classical.not_not.2 hw)]; unfold qsE; rw [if_pos h2]; rfl
  refine ⟨e, ?_, ?_⟩
  · unfold wqL; rw [if_pos e, qs_get hk]; rfl
  · unfold wqT; rw [if_pos e, (qs_step hk h1 h2).2.1]; rfl
theorem map_step {rows : List Int} {k : Nat} (h : k < rows.length) : ((rows.take k).map (max · 0) ++ rows.drop k).set k (max (rows[k]?.getD default) 0) = (rows.take (k + 1)).map (max · 0) ++ rows.drop (k + 1) := by
  have e : rows.take (k + 1) = rows.take k ++ [rows[k]?.getD default] := by rw [List.take_add_one]; simp [h]
  have hl : ((rows.take k).map (max · 0)).length = k := by rw [List.length_map, List.length_take]; omega
  rw [List.set_append_right _ _ (by omega), hl, Nat.sub_self, List.drop_eq_getElem_cons h, List.set_cons_zero, e, List.map_append, List.append_assoc]
  rfl
theorem maxMap_get {rows : List Int} {k : Nat} (h : k < rows.length) : ((rows.take k).map (max · 0) ++ rows.drop k)[k]?.getD default = rows[k]?.getD default := by
  have hl : ((rows.take k).map (max · 0)).length = k := by rw [List.length_map, List.length_take]; omega
  rw [List.getElem?_append_right (by omega), hl, Nat.sub_self, List.getElem?_drop, Nat.add_zero]
end Go.Q
