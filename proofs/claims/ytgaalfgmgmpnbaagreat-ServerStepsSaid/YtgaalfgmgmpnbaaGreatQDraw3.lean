/- Contracts of changes in the reference. -/
import Derived.Test.YtgaalfgmgmpnbaaGreatQSrvW
import Derived.Test.YtgaalfgmgmpnbaaGreatQDraw2
set_option linter.unusedVariables false
set_option linter.unusedSimpArgs false
namespace Go.Q
open Go.Proofs
open Classical
theorem d_toTab {d : D} {t t' : Tab} (e : t = t') (h : ∀ I v, d.rel I v → (dTab t').rel I v) : ∀ I v, d.rel I v → (dTab t).rel I v := e ▸ h
theorem d_toChg {d : D} {t t' : Chg} (e : t = t') (h : ∀ I v, d.rel I v → (dChg t').rel I v) : ∀ I v, d.rel I v → (dChg t).rel I v := e ▸ h
theorem rowC_len {t : Tab} {c : Chg} (h : chkC t c = 0) : ∀ i, i < c.count.toNat → (rowC t c i).length ≤ 64 := by
 obtain ⟨h1, h2, h3, h4, h5⟩ := chkC_zero h
 have ht := checkT_ok h1
 intro i hi
 unfold rowC
 split
 ·rename_i hs
  have hm : ∃ s ∈ c.sets, rowS c.sets i = s.row := by
   unfold rowS findS
   cases hf : c.sets.find? (fun s => decide (s.index = (i : Int))) with
   | none => obtain ⟨s, g1, g2⟩ := hs; have := List.find?_eq_none.1 hf s g1; simp at this; exact absurd g2 this
   | some s => exact ⟨s, List.mem_of_find?_eq_some hf, rfl⟩
  obtain ⟨s, g1, g2⟩ := hm
  rw [g2]
  have := (h4 s g1).1
  omega
 ·rename_i hs
  have hl : i < t.rows.length := by
   refine Classical.byContradiction fun hc => hs (h5 i (by omega) (by omega))
  have := (ht.2.2.2.2 _ (getD_mem hl)).1
  omega
theorem rfind15_spec (c : Chg) (n : Int) : SpecP Tryz.prog 135 [dChg c, dInt .i64 n] (dTup [dInts (rowS c.sets n), dB (hasS c.sets n)]) := by
  refine specP_of_body Tryz.func135 rfl rfl (fun I M => ?_)
  refine run_seq ?_
  refine run_region ?_
  refine run_op (loc_boxN rfl) rfl ?_
  refine run_op (loc_assign rfl) rfl ?_
  refine run_op (loc_assign rfl) rfl ?_
  refine run_nil ?_
  refine run_seq ?_
  refine run_seq ?_
  refine run_region ?_
  refine run_op (loc_fieldAddr rfl) rfl ?_
  refine run_op (loc_load1 rfl) rfl ?_
  first | refine runL_fact (s := 9) rfl (fun _ _ h => dSl_len h) (fun hlen1 => ?_) | skip
  refine run_op (loc_len rfl) rfl ?_
  refine run_op (loc_move rfl) rfl ?_
  refine run_nil ?_
  refine run_block ?_
  refine run_loopC (σ := Nat) (ks := [1, 9, 10]) (.cons rfl (.cons rfl (.cons rfl (.nil)))) (fun k => [(11, dInt .i64 (k : Nat))]) (fun k => k ≤ c.sets.length ∧ (∀ j, j < k → (c.sets[j]?.getD default).index ≠ n)) (fun k => c.sets.length - k) (0) (⟨by omega, fun j hj => by omega⟩) (.cons rfl (by first | exact fun _ _ h => h | exact d_int (by omega) | exact d_int (by simp) | exact d_intN (by omega) | exact d_any) .nil) ?_
  rintro k ⟨hk, hbk⟩ ih2
  refine run_seq ?_
  refine run_region ?_
  refine run_op (loc_lss rfl rfl) rfl ?_
  refine run_nil ?_
  refine run_seq ?_
  refine run_cond rfl (fun h3 => ?_) (fun h3 => ?_)
  ·
   refine run_skip ?_
   refine run_seq ?_
   refine run_block ?_
   refine run_seq ?_
   refine run_region ?_
   first | refine run_op (loc_index rfl rfl (by first | omega | assumption)) rfl ?_ | refine run_op (loc_indexI rfl rfl (by first | omega | assumption)) rfl ?_
   refine run_op (loc_loadN rfl rfl) rfl ?_
   refine run_new (loc_allocOwn (by simp)) rfl (fun b4 _ => ?_)
   refine run_storeN (ho := (by show OneAll [_, _]; infer_instance)) rfl rfl (.here) (by rfl) ?_
   refine run_nil ?_
   refine run_seq ?_
   refine run_region ?_
   refine run_op (loc_fieldAddrOwn rfl) rfl ?_
   refine run_op (loc_loadOwn1 rfl (.here) (by rfl)) rfl ?_
   refine run_op (loc_move rfl) rfl ?_
   refine run_op (loc_eql rfl rfl) rfl ?_
   refine run_nil ?_
   refine run_cond rfl (fun h5 => ?_) (fun h5 => ?_)
   ·
    have h5 := h5
    refine run_seq ?_
    refine run_region ?_
    refine run_op (loc_fieldAddrOwn rfl) rfl ?_
    refine run_op (loc_loadOwn1 rfl (.here) (by rfl)) rfl ?_
    refine run_op (loc_assign rfl) rfl ?_
    refine run_op (loc_assign rfl) rfl ?_
    refine run_nil ?_
    refine run_drop (.cons _ (.refl _)) ?_
    refine run_ret2P Tryz.func135 rfl rfl rfl ?_
    exact d_tup2 (d_toInts (rowS_at (by omega) hbk h5) (fun _ _ h => h)) (d_B ⟨fun _ => (findS_at (by omega) hbk h5).2, fun _ => trivial⟩)
   ·
    refine run_skip ?_
    refine run_inBlock ?_
    refine run_region ?_
    first | refine run_op (loc_add rfl rfl (by first | omega | assumption)) rfl ?_ | refine run_op (loc_addW rfl rfl) rfl ?_
    refine run_op (loc_move rfl) rfl ?_
    refine run_nil ?_
    refine run_drop (.cons _ (.refl _)) ?_
    exact run_againC ih2 (k + 1) (⟨by omega, fun j hj => by by_cases e : j = k; (· subst e; assumption); (· exact hbk j (by omega))⟩) (by omega) (.cons rfl (by first | exact fun _ _ h => h | exact d_int (by omega) | exact d_int (by simp) | exact d_intN (by omega) | exact d_any) .nil) (.cons rfl (fun _ _ x => x) (.cons rfl (fun _ _ x => x) (.cons rfl (fun _ _ x => x) (.nil))))
  ·
   refine run_exit rfl ?_
   refine run_seq ?_
   refine run_region ?_
   refine run_op (loc_assign rfl) rfl ?_
   refine run_op (loc_assign rfl) rfl ?_
   refine run_nil ?_
   have hno := hasS_none (i := n) (fun j hj => hbk j (by omega))
   refine run_ret2P Tryz.func135 rfl rfl rfl ?_
   exact d_tup2 (d_toInts (rowS_none hno) d_nil) (d_B ⟨False.elim, fun h => hno h⟩)
theorem rform15_spec (c : Chg) : SpecP Tryz.prog 171 [dChg c] (dB (formC c)) := by
  refine specP_of_body Tryz.func171 rfl rfl (fun I M => ?_)
  refine run_seq ?_
  refine run_region ?_
  refine run_op (loc_boxN rfl) rfl ?_
  refine run_op (loc_assign rfl) rfl ?_
  refine run_nil ?_
  refine run_seq ?_
  refine run_seq ?_
  refine run_region ?_
  refine run_op (loc_fieldAddr rfl) rfl ?_
  refine run_op (loc_load1 rfl) rfl ?_
  refine run_op (loc_lss rfl rfl) rfl ?_
  refine run_op (loc_move rfl) rfl ?_
  refine run_gfirst rfl rfl gdI.ok (fun hg => loc_fieldAddr rfl) rfl ?_
  refine run_gop rfl rfl gdI.ok (fun hg => loc_load1 rfl) rfl ?_
  refine run_gop rfl rfl gdI.ok (fun hg => loc_geq rfl rfl) rfl ?_
  refine run_gleave ?_
  refine run_op (loc_or rfl rfl) rfl ?_
  refine run_op (loc_move rfl) rfl ?_
  refine run_gfirst rfl rfl gdI.ok (fun hg => loc_fieldAddr rfl) rfl ?_
  refine run_gop rfl rfl gdI.ok (fun hg => loc_load1 rfl) rfl ?_
  refine run_gop rfl rfl gdI.ok (fun hg => loc_fieldAddr rfl) rfl ?_
  refine run_gop rfl rfl gdI.ok (fun hg => loc_load1 rfl) rfl ?_
  refine run_gop rfl rfl gdI.ok (fun hg => loc_geq rfl rfl) rfl ?_
  refine run_gleave ?_
  refine run_op (loc_or rfl rfl) rfl ?_
  refine run_op (loc_move rfl) rfl ?_
  refine run_gfirst rfl rfl gdI.ok (fun hg => loc_fieldAddr rfl) rfl ?_
  refine run_gop rfl rfl gdI.ok (fun hg => loc_load1 rfl) rfl ?_
  refine run_gop rfl rfl gdI.ok (fun hg => loc_lss rfl rfl) rfl ?_
  refine run_gleave ?_
  refine run_op (loc_or rfl rfl) rfl ?_
  refine run_op (loc_move rfl) rfl ?_
  refine run_gfirst rfl rfl gdI.ok (fun hg => loc_fieldAddr rfl) rfl ?_
  refine run_gop rfl rfl gdI.ok (fun hg => loc_load1 rfl) rfl ?_
  refine run_gop rfl rfl gdI.ok (fun hg => loc_gtr rfl rfl) rfl ?_
  refine run_gleave ?_
  refine run_op (loc_or rfl rfl) rfl ?_
  refine run_nil ?_
  refine run_cond rfl (fun h1 => ?_) (fun h1 => ?_)
  ·
   have c1 := h1
   refine run_seq ?_
   refine run_region ?_
   refine run_op (loc_assign rfl) rfl ?_
   refine run_nil ?_
   refine run_retP Tryz.func171 rfl rfl ?_
   exact d_B ⟨False.elim, fun h => by obtain ⟨a1, a2, a3, a4, a5, _⟩ := h; omega⟩
  ·
   have c1 := h1
   refine run_skip ?_
   refine run_seq ?_
   refine run_seq ?_
   refine run_region ?_
   refine run_op (loc_fieldAddr rfl) rfl ?_
   refine run_op (loc_load1 rfl) rfl ?_
   first | refine runL_fact (s := 31) rfl (fun _ _ h => dSl_len h) (fun hlen2 => ?_) | skip
   refine run_op (loc_len rfl) rfl ?_
   refine run_op (loc_move rfl) rfl ?_
   refine run_nil ?_
   refine run_block ?_
   refine run_loopC (σ := Nat) (ks := [1, 31, 32]) (.cons rfl (.cons rfl (.cons rfl (.nil)))) (fun k => [(33, dInt .i64 (k : Nat))]) (fun k => k ≤ c.sets.length ∧ (∀ j, j < k → 0 ≤ (c.sets[j]?.getD default).index ∧ (c.sets[j]?.getD default).index < c.count ∧ (0 < j → (c.sets[j - 1]?.getD default).index < (c.sets[j]?.getD default).index))) (fun k => c.sets.length - k) (0) (⟨by omega, fun j hj => by omega⟩) (.cons rfl (by first | exact fun _ _ h => h | exact d_int (by omega) | exact d_int (by simp) | exact d_intN (by omega) | exact d_any) .nil) ?_
   rintro k ⟨hk, hbk⟩ ih3
   refine run_seq ?_
   refine run_region ?_
   refine run_op (loc_lss rfl rfl) rfl ?_
   refine run_nil ?_
   refine run_seq ?_
   refine run_cond rfl (fun h4 => ?_) (fun h4 => ?_)
   ·
    refine run_skip ?_
    refine run_seq ?_
    refine run_block ?_
    refine run_seq ?_
    refine run_region ?_
    refine run_op (loc_move rfl) rfl ?_
    first | refine run_op (loc_index rfl rfl (by first | omega | assumption)) rfl ?_ | refine run_op (loc_indexI rfl rfl (by first | omega | assumption)) rfl ?_
    refine run_op (loc_loadN rfl rfl) rfl ?_
    refine run_new (loc_allocOwn (by simp)) rfl (fun b5 _ => ?_)
    refine run_op (loc_assign rfl) rfl ?_
    refine run_storeN (ho := (by show OneAll [_, _]; infer_instance)) rfl rfl (.here) (by rfl) ?_
    refine run_nil ?_
    refine run_seq ?_
    refine dr_start _ (.none) [⟨[(4, none)], [], none⟩,
        ⟨[(38, some (0, false))], [0], some (0, 0, false)⟩,
        ⟨[(39, some (1, false))], [0, 1], none⟩,
        ⟨[(40, some (2, false))], [0, 1, 2], none⟩,
        ⟨[(4, none)], [0, 1, 2, 3], none⟩,
        ⟨[(42, some (4, true))], [0, 1, 2, 3, 4], some (0, 0, false)⟩,
        ⟨[(1, none)], [0, 1, 2, 3], none⟩,
        ⟨[(44, some (6, true))], [0, 1, 2, 3, 6], none⟩,
        ⟨[(43, some (5, true)), (45, some (7, true))], [0, 1, 2, 3, 4, 5, 6, 7], none⟩,
        ⟨[(41, some (3, false)), (46, some (8, false))], [0, 1, 2, 3, 4, 5, 6, 7, 8], none⟩,
        ⟨[(47, some (9, false))], [0, 1, 2, 3, 4, 5, 6, 7, 8, 9], none⟩,
        ⟨[(3, none)], [0, 1, 2, 3, 4, 5, 6, 7, 8, 9, 10], none⟩,
        ⟨[(49, some (11, true))], [0, 1, 2, 3, 4, 5, 6, 7, 8, 9, 10, 11], none⟩,
        ⟨[(50, some (12, true))], [0, 1, 2, 3, 4, 5, 6, 7, 8, 9, 10, 11, 12], none⟩,
        ⟨[(4, none)], [0, 1, 2, 3, 4, 5, 6, 7, 8, 9, 10, 11, 12, 13], none⟩,
        ⟨[(52, some (14, true))], [0, 1, 2, 3, 4, 5, 6, 7, 8, 9, 10, 11, 12, 13, 14], some (0, 0, false)⟩,
        ⟨[(1, none)], [0, 1, 2, 3, 4, 5, 6, 7, 8, 9, 10, 11, 12, 13], none⟩,
        ⟨[(54, some (16, true))], [0, 1, 2, 3, 4, 5, 6, 7, 8, 9, 10, 11, 12, 13, 16], none⟩,
        ⟨[(3, none)], [0, 1, 2, 3, 4, 5, 6, 7, 8, 9, 10, 11, 12, 13], none⟩,
        ⟨[(56, some (18, true))], [0, 1, 2, 3, 4, 5, 6, 7, 8, 9, 10, 11, 12, 13, 18], none⟩,
        ⟨[(55, some (17, true)), (57, some (19, true))], [0, 1, 2, 3, 4, 5, 6, 7, 8, 9, 10, 11, 12, 13, 16, 17, 18, 19], none⟩,
        ⟨[(58, some (20, true))], [0, 1, 2, 3, 4, 5, 6, 7, 8, 9, 10, 11, 12, 13, 16, 17, 18, 19, 20], none⟩,
        ⟨[(59, some (21, true))], [0, 1, 2, 3, 4, 5, 6, 7, 8, 9, 10, 11, 12, 13, 16, 17, 18, 19, 20, 21], none⟩,
        ⟨[(53, some (15, true)), (60, some (22, true))], [0, 1, 2, 3, 4, 5, 6, 7, 8, 9, 10, 11, 12, 13, 14, 15, 16, 17, 18, 19, 20, 21, 22], none⟩,
        ⟨[(51, some (13, true)), (61, some (23, false))], [0, 1, 2, 3, 4, 5, 6, 7, 8, 9, 10, 11, 12, 13, 14, 15, 16, 17, 18, 19, 20, 21, 22, 23], none⟩,
        ⟨[(48, some (10, false)), (62, some (24, false))], [0, 1, 2, 3, 4, 5, 6, 7, 8, 9, 10, 11, 12, 13, 14, 15, 16, 17, 18, 19, 20, 21, 22, 23, 24], none⟩] [_] _ rfl rfl ?_
    refine dq_pure rfl (fun s => .g rfl (.nil)) (fun s hs _ => loc_fieldAddrOwn rfl) (by exact .nil) ?_
    refine dq_read rfl (fun s => .op rfl (.nil)) rfl rfl (fun s hs _ hm => loc_loadOwn1 rfl hm (by rfl)) (by exact .nil) ?_
    refine dq_pure rfl (fun s => .op rfl (.nil)) (fun s hs _ => loc_lss rfl rfl) (by exact .nil) ?_
    refine dq_pure rfl (fun s => .op rfl (.nil)) (fun s hs _ => loc_move rfl) (by exact .nil) ?_
    refine dq_gpure rfl (fun s => .g rfl (.nil)) rfl (fun _ => gdI.ok) (fun s hs hg _ => loc_fieldAddrOwn rfl) (by exact .nil) ?_
    refine dq_gread rfl (fun s => .opU rfl (.nil)) rfl rfl rfl (fun _ => gdI.ok) (fun s hs hg _ hm => loc_loadOwn1 rfl hm (by rfl)) (by exact .nil) ?_
    refine dq_gpure rfl (fun s => .g rfl (.nil)) rfl (fun _ => gdI.ok) (fun s hs hg _ => loc_fieldAddr rfl) (by exact .nil) ?_
    refine dq_gpure rfl (fun s => .opU rfl (.nil)) rfl (fun _ => gdI.ok) (fun s hs hg _ => loc_load1 rfl) (by exact .nil) ?_
    refine dq_gpure rfl (fun s => .opU rfl (.opU rfl (.nil))) rfl (fun _ => gdI.ok) (fun s hs hg _ => loc_geq rfl rfl) (by exact .nil) ?_
    refine dq_pure rfl (fun s => .op rfl (.op rfl (.nil))) (fun s hs _ => loc_or rfl rfl) (by exact .nil) ?_
    refine dq_pure rfl (fun s => .op rfl (.nil)) (fun s hs _ => loc_move rfl) (by exact .nil) ?_
    refine dq_gpure rfl (fun s => .g rfl (.nil)) rfl (fun _ => gdI.ok) (fun s hs hg _ => loc_move rfl) (by exact .nil) ?_
    refine dq_gpure rfl (fun s => .opU rfl (.nil)) rfl (fun _ => gdI.ok) (fun s hs hg _ => loc_gtr rfl rfl) (by exact .nil) ?_
    refine dq_gpure rfl (fun s => .opU rfl (.nil)) rfl (fun _ => gdI.ok) (fun s hs hg _ => loc_move rfl) (by exact .nil) ?_
    refine dq_gpure rfl (fun s => .g rfl (.nil)) rfl (fun _ => gdI.ok) (fun s hs hg _ => loc_fieldAddrOwn rfl) (by exact .nil) ?_
    refine dq_gread rfl (fun s => .opU rfl (.nil)) rfl rfl rfl (fun _ => gdI.ok) (fun s hs hg _ hm => loc_loadOwn1 rfl hm (by rfl)) (by exact .nil) ?_
    refine dq_gpure rfl (fun s => .g rfl (.nil)) rfl (fun _ => gdI.ok) (fun s hs hg _ => loc_fieldAddr rfl) (by exact .nil) ?_
    refine dq_gpure rfl (fun s => .opU rfl (.nil)) rfl (fun _ => gdI.ok) (fun s hs hg _ => loc_load1 rfl) (by exact .nil) ?_
    refine dq_gpure rfl (fun s => .g rfl (.nil)) rfl (fun _ => gdI.ok) (fun s hs hg _ => loc_move rfl) (by exact .nil) ?_
    first | refine dq_gpure rfl (fun s => .opU rfl (.nil)) rfl (fun _ => gdI.ok) (fun s hs hg _ => loc_sub rfl rfl (by first | omega | assumption)) (by exact .nil) ?_ | refine dq_gpure rfl (fun s => .opU rfl (.nil)) rfl (fun _ => gdI.ok) (fun s hs hg _ => loc_subW rfl rfl) (by exact .nil) ?_
    first | refine dq_gpure rfl (fun s => .opU rfl (.opU rfl (.nil))) rfl (fun _ => gdI.ok) (fun s hs hg _ => loc_index rfl rfl (by first | omega | assumption)) (by exact .nil) ?_ | refine dq_gpure rfl (fun s => .opU rfl (.opU rfl (.nil))) rfl (fun _ => gdI.ok) (fun s hs hg _ => loc_indexI rfl rfl (by first | omega | assumption)) (by exact .nil) ?_
    refine dq_gpure rfl (fun s => .opU rfl (.nil)) rfl (fun _ => gdI.ok) (fun s hs hg _ => loc_fieldAddr rfl) (by exact .nil) ?_
    refine dq_gpure rfl (fun s => .opU rfl (.nil)) rfl (fun _ => gdI.ok) (fun s hs hg _ => loc_load1 rfl) (by exact .nil) ?_
    refine dq_gpure rfl (fun s => .opU rfl (.opU rfl (.nil))) rfl (fun _ => gdI.ok) (fun s hs hg _ => loc_leq rfl rfl) (by exact .nil) ?_
    first | refine dq_gpure rfl (fun s => .opU rfl (.op rfl (.nil))) rfl (fun _ => gdI.ok) (fun s hs hg _ => loc_and rfl rfl) (by exact .nil) ?_ | refine dq_gpure rfl (fun s => .opU rfl (.op rfl (.nil))) rfl (fun _ => gdI.ok) (fun s hs hg _ => loc_andG hg rfl rfl) (by exact .nil) ?_ | refine dq_gpure rfl (fun s => .opU rfl (.op rfl (.nil))) rfl (fun _ => gdI.ok) (fun s hs hg _ => loc_andH hg rfl rfl) (by exact .nil) ?_
    refine dq_pure rfl (fun s => .op rfl (.op rfl (.nil))) (fun s hs _ => loc_or rfl rfl) (by exact .nil) ?_
    refine dq_end (rs := [_]) () rfl (fun _ => rfl) (.nil) rfl (fun _ => rfl) (fun _ _ => ?_)
    dsimp only [outG, outM, List.map, List.set, id]
    refine run_cond rfl (fun h6 => ?_) (fun h6 => ?_)
    ·
     have c2 := h6
     refine run_seq ?_
     refine run_region ?_
     refine run_op (loc_assign rfl) rfl ?_
     refine run_nil ?_
     refine run_drop (.cons _ (.refl _)) ?_
     refine run_retP Tryz.func171 rfl rfl ?_
     exact d_B ⟨False.elim, fun h => by have h5 := h.2.2.2.2.2 k (by omega); rcases c2 with h6 | ⟨h6, h7⟩; (· omega); (· have h8 := h5.2.2 (by omega); rw [show ((k : Int) - 1).toNat = k - 1 by omega] at h7; omega)⟩
    ·
     have c2 := h6
     refine run_skip ?_
     refine run_inBlock ?_
     refine run_region ?_
     first | refine run_op (loc_add rfl rfl (by first | omega | assumption)) rfl ?_ | refine run_op (loc_addW rfl rfl) rfl ?_
     refine run_op (loc_move rfl) rfl ?_
     refine run_nil ?_
     refine run_drop (.cons _ (.refl _)) ?_
     exact run_againC ih3 (k + 1) (⟨by omega, fun j hj => by by_cases e : j = k; (· subst e; (refine ⟨by omega, by omega, fun h0 => ?_⟩; refine Classical.byContradiction fun h7 => c2 (.inr ⟨by omega, ?_⟩); rw [show ((j : Int) - 1).toNat = j - 1 by omega]; omega)); (· exact hbk j (by omega))⟩) (by omega) (.cons rfl (by first | exact fun _ _ h => h | exact d_int (by omega) | exact d_int (by simp) | exact d_intN (by omega) | exact d_any) .nil) (.cons rfl (fun _ _ x => x) (.cons rfl (fun _ _ x => x) (.cons rfl (fun _ _ x => x) (.nil))))
   ·
    refine run_exit rfl ?_
    refine run_seq ?_
    refine run_region ?_
    refine run_op (loc_assign rfl) rfl ?_
    refine run_nil ?_
    refine run_retP Tryz.func171 rfl rfl ?_
    exact d_B ⟨fun _ => ⟨by omega, by omega, by omega, by omega, by omega, fun j hj => hbk j (by omega)⟩, fun _ => trivial⟩
theorem rcheck15_spec (t : Tab) (c : Chg) : SpecP Tryz.prog 134 [dTab t, dChg c] (dInt .i64 (chkC t c)) := by
  refine specP_of_body Tryz.func134 rfl rfl (fun I M => ?_)
  refine run_seq ?_
  refine run_region ?_
  refine run_op (loc_boxN rfl) rfl ?_
  refine run_op (loc_boxN rfl) rfl ?_
  refine run_op (loc_assign rfl) rfl ?_
  refine run_nil ?_
  refine run_seq ?_
  refine run_seq ?_
  refine run_region ?_
  refine run_op (loc_loadN rfl rfl) rfl ?_
  refine run_op (loc_call (rtcheck_spec _) rfl) rfl ?_
  refine run_op (loc_assign rfl) rfl ?_
  refine run_nil ?_
  refine run_seq ?_
  refine run_region ?_
  refine run_op (loc_move rfl) rfl ?_
  refine run_op (loc_neq rfl rfl) rfl ?_
  refine run_nil ?_
  refine run_cond rfl (fun h1 => ?_) (fun h1 => ?_)
  ·
   have c1 := h1
   refine run_seq ?_
   refine run_region ?_
   refine run_op (loc_move rfl) rfl ?_
   refine run_op (loc_assign rfl) rfl ?_
   refine run_nil ?_
   have hE : chkC t c = checkT t := by unfold chkC; rw [if_pos c1]
   refine run_retP Tryz.func134 rfl rfl ?_
   exact d_int hE.symm
  ·
   have c1 := Classical.not_not.1 h1
   refine run_skip ?_
   refine run_seq ?_
   refine run_seq ?_
   refine run_region ?_
   refine run_op (loc_loadN rfl rfl) rfl ?_
   refine run_op (loc_call (rform15_spec _) rfl) rfl ?_
   refine run_op (loc_not rfl) rfl ?_
   refine run_nil ?_
   refine run_cond rfl (fun h2 => ?_) (fun h2 => ?_)
   ·
    have c2 := h2
    refine run_seq ?_
    refine run_region ?_
    refine run_op (loc_assign rfl) rfl ?_
    refine run_nil ?_
    have hE : chkC t c = 2 := by unfold chkC; rw [if_neg (Classical.not_not.2 c1), if_pos c2]
    refine run_retP Tryz.func134 rfl rfl ?_
    exact d_int hE.symm
   ·
    have c2 := Classical.not_not.1 h2
    refine run_skip ?_
    refine run_seq ?_
    refine run_seq ?_
    refine run_region ?_
    refine run_op (loc_fieldAddr rfl) rfl ?_
    refine run_op (loc_load1 rfl) rfl ?_
    refine run_op (loc_fieldAddr rfl) rfl ?_
    refine run_op (loc_load1 rfl) rfl ?_
    refine run_op (loc_neq rfl rfl) rfl ?_
    refine run_nil ?_
    refine run_cond rfl (fun h3 => ?_) (fun h3 => ?_)
    ·
     have c3 := h3
     refine run_seq ?_
     refine run_region ?_
     refine run_op (loc_assign rfl) rfl ?_
     refine run_nil ?_
     have hE : chkC t c = 17 := by unfold chkC; rw [if_neg (Classical.not_not.2 c1), if_neg (Classical.not_not.2 c2), if_pos c3]
     refine run_retP Tryz.func134 rfl rfl ?_
     exact d_int hE.symm
    ·
     have c3 := Classical.not_not.1 h3
     refine run_skip ?_
     refine run_seq ?_
     refine run_seq ?_
     refine run_region ?_
     refine run_op (loc_fieldAddr rfl) rfl ?_
     refine run_op (loc_load1 rfl) rfl ?_
     first | refine runL_fact (s := 25) rfl (fun _ _ h => dSl_len h) (fun hlen4 => ?_) | skip
     refine run_op (loc_len rfl) rfl ?_
     refine run_op (loc_move rfl) rfl ?_
     refine run_nil ?_
     refine run_block ?_
     refine run_loopC (σ := Nat) (ks := [2, 3, 25, 26]) (.cons rfl (.cons rfl (.cons rfl (.cons rfl (.nil))))) (fun k => [(27, dInt .i64 (k : Nat))]) (fun k => k ≤ c.sets.length ∧ (∀ j, j < k → setE t (c.sets[j]?.getD default) = 0)) (fun k => c.sets.length - k) (0) (⟨by omega, fun j hj => by omega⟩) (.cons rfl (by first | exact fun _ _ h => h | exact d_int (by omega) | exact d_int (by simp) | exact d_intN (by omega) | exact d_any) .nil) ?_
     rintro k ⟨hk, hbk⟩ ih5
     refine run_seq ?_
     refine run_region ?_
     refine run_op (loc_lss rfl rfl) rfl ?_
     refine run_nil ?_
     refine run_seq ?_
     refine run_cond rfl (fun h6 => ?_) (fun h6 => ?_)
     ·
      refine run_skip ?_
      refine run_seq ?_
      refine run_block ?_
      refine run_seq ?_
      refine run_region ?_
      first | refine run_op (loc_index rfl rfl (by first | omega | assumption)) rfl ?_ | refine run_op (loc_indexI rfl rfl (by first | omega | assumption)) rfl ?_
      refine run_op (loc_loadN rfl rfl) rfl ?_
      refine run_new (loc_allocOwn (by simp)) rfl (fun b7 _ => ?_)
      refine run_storeN (ho := (by show OneAll [_, _]; infer_instance)) rfl rfl (.here) (by rfl) ?_
      refine run_nil ?_
      refine run_seq ?_
      refine run_seq ?_
      refine run_region ?_
      refine run_op (loc_fieldAddrOwn rfl) rfl ?_
      refine run_op (loc_loadOwn1 rfl (.here) (by rfl)) rfl ?_
      first | refine runL_fact (s := 32) rfl (fun _ _ h => dSl_len h) (fun hlen8 => ?_) | skip
      refine run_op (loc_len rfl) rfl ?_
      refine run_op (loc_fieldAddr rfl) rfl ?_
      refine run_op (loc_load1 rfl) rfl ?_
      refine run_op (loc_neq rfl rfl) rfl ?_
      refine run_nil ?_
      refine run_cond rfl (fun h9 => ?_) (fun h9 => ?_)
      ·
       have hse : setE t (c.sets[k]?.getD default) = 2 := by unfold setE; rw [if_pos (by omega)]
       have hfe : firstErr (setE t) c.sets = 2 := by rw [firstErr_at (i := k) (by omega) hbk (by rw [hse]; omega), hse]
       refine run_seq ?_
       refine run_region ?_
       refine run_op (loc_assign rfl) rfl ?_
       refine run_nil ?_
       have hE : chkC t c = 2 := by unfold chkC; rw [if_neg (Classical.not_not.2 c1), if_neg (Classical.not_not.2 c2), if_neg (Classical.not_not.2 c3), if_pos (by omega)]; exact hfe; skip; first | done | rw [hfe]
       refine run_drop (.cons _ (.refl _)) ?_
       refine run_retP Tryz.func134 rfl rfl ?_
       exact d_int hE.symm
      ·
       refine run_skip ?_
       refine run_seq ?_
       refine run_region ?_
       refine run_op (loc_fieldAddr rfl) rfl ?_
       refine run_op (loc_loadN rfl rfl) rfl ?_
       refine run_op (loc_fieldAddrOwn rfl) rfl ?_
       refine run_op (loc_loadOwn1 rfl (.here) (by rfl)) rfl ?_
       refine run_op (loc_call (in3_spec _ _) rfl) rfl ?_
       refine run_op (loc_not rfl) rfl ?_
       refine run_nil ?_
       refine run_cond rfl (fun h10 => ?_) (fun h10 => ?_)
       ·
        have h9 : ¬ allP t.p (c.sets[k]?.getD default).row := fun h => h10 ⟨(checkT_ok c1).2.1, h⟩
        have hse : setE t (c.sets[k]?.getD default) = 9 := by unfold setE; rw [if_neg (by omega), if_pos h9]
        have hfe : firstErr (setE t) c.sets = 9 := by rw [firstErr_at (i := k) (by omega) hbk (by rw [hse]; omega), hse]
        refine run_seq ?_
        refine run_region ?_
        refine run_op (loc_assign rfl) rfl ?_
        refine run_nil ?_
        have hE : chkC t c = 9 := by unfold chkC; rw [if_neg (Classical.not_not.2 c1), if_neg (Classical.not_not.2 c2), if_neg (Classical.not_not.2 c3), if_pos (by omega)]; exact hfe; skip; first | done | rw [hfe]
        refine run_drop (.cons _ (.refl _)) ?_
        refine run_retP Tryz.func134 rfl rfl ?_
        exact d_int hE.symm
       ·
        have h9 := (Classical.not_not.1 h10).2
        refine run_skip ?_
        refine run_inBlock ?_
        refine run_region ?_
        first | refine run_op (loc_add rfl rfl (by first | omega | assumption)) rfl ?_ | refine run_op (loc_addW rfl rfl) rfl ?_
        refine run_op (loc_move rfl) rfl ?_
        refine run_nil ?_
        refine run_drop (.cons _ (.refl _)) ?_
        exact run_againC ih5 (k + 1) (⟨by omega, fun j hj => by by_cases e : j = k; (· subst e; (unfold setE; rw [if_neg (by omega), if_neg (Classical.not_not.2 h9)])); (· exact hbk j (by omega))⟩) (by omega) (.cons rfl (by first | exact fun _ _ h => h | exact d_int (by omega) | exact d_int (by simp) | exact d_intN (by omega) | exact d_any) .nil) (.cons rfl (fun _ _ x => x) (.cons rfl (fun _ _ x => x) (.cons rfl (fun _ _ x => x) (.cons rfl (fun _ _ x => x) (.nil)))))
     ·
      refine run_exit rfl ?_
      refine run_seq ?_
      refine run_seq ?_
      refine run_region ?_
      refine run_op (loc_fieldAddr rfl) rfl ?_
      refine run_op (loc_load1 rfl) rfl ?_
      first | refine runL_fact (s := 45) rfl (fun _ _ h => dSl_len h) (fun hlen11 => ?_) | skip
      refine run_op (loc_len rfl) rfl ?_
      refine run_op (loc_assign rfl) rfl ?_
      refine run_nil ?_
      refine run_block ?_
      have hfe := firstErr_none' (fun j hj => hbk j (by omega))
      have hcn := c2.2.2.2.2.1
      have htl := (checkT_ok c1).2.2.2.1
      refine run_loopC (σ := Nat) (ks := [3]) (.cons rfl (.nil)) (fun u => [(8, dInt .i64 (u : Nat))]) (fun u => t.rows.length ≤ u ∧ ∀ j : Nat, t.rows.length ≤ j → j < u → hasS c.sets j) (fun u => (c.count - u).toNat) (t.rows.length) (⟨Nat.le_refl _, fun j h1 h2 => by omega⟩) (.cons rfl (by first | exact fun _ _ h => h | exact d_int (by omega) | exact d_int (by simp) | exact d_intN (by omega) | exact d_any) .nil) ?_
      rintro u ⟨hu, hbu⟩ ih12
      refine run_seq ?_
      refine run_seq ?_
      refine run_region ?_
      refine run_op (loc_move rfl) rfl ?_
      refine run_op (loc_fieldAddr rfl) rfl ?_
      refine run_op (loc_load1 rfl) rfl ?_
      refine run_op (loc_lss rfl rfl) rfl ?_
      refine run_nil ?_
      refine run_cond rfl (fun h13 => ?_) (fun h13 => ?_)
      ·
       refine run_skip ?_
       refine run_seq ?_
       refine run_block ?_
       refine run_seq ?_
       refine run_region ?_
       refine run_op (loc_loadN rfl rfl) rfl ?_
       refine run_op (loc_move rfl) rfl ?_
       refine run_op (loc_call (rfind15_spec _ _) rfl) rfl ?_
       refine run_op (loc_move rfl) rfl ?_
       refine run_op (loc_extract rfl rfl) rfl ?_
       refine run_op (loc_extract rfl rfl) rfl ?_
       refine run_op (loc_assign rfl) rfl ?_
       refine run_op (loc_assign rfl) rfl ?_
       refine run_nil ?_
       refine run_seq ?_
       refine run_region ?_
       refine run_op (loc_move rfl) rfl ?_
       refine run_op (loc_not rfl) rfl ?_
       refine run_nil ?_
       refine run_cond rfl (fun h14 => ?_) (fun h14 => ?_)
       ·
        have h8 := h14
        refine run_seq ?_
        refine run_region ?_
        refine run_op (loc_assign rfl) rfl ?_
        refine run_nil ?_
        have hE : chkC t c = 2 := by unfold chkC; rw [if_neg (Classical.not_not.2 c1), if_neg (Classical.not_not.2 c2), if_neg (Classical.not_not.2 c3), if_neg (by omega), if_pos ⟨u, hu, by omega, h8⟩]
        refine run_retP Tryz.func134 rfl rfl ?_
        exact d_int hE.symm
       ·
        have h8 := Classical.not_not.1 h14
        refine run_skip ?_
        refine run_inBlock ?_
        refine run_region ?_
        refine run_op (loc_move rfl) rfl ?_
        first | refine run_op (loc_add rfl rfl (by first | omega | assumption)) rfl ?_ | refine run_op (loc_addW rfl rfl) rfl ?_
        refine run_op (loc_assign rfl) rfl ?_
        refine run_nil ?_
        exact run_againC ih12 (u + 1) (⟨by omega, fun j h1 h2 => by by_cases e : j = u; (· subst e; exact h8); (· exact hbu j h1 (by omega))⟩) (by omega) (.cons rfl (by first | exact fun _ _ h => h | exact d_int (by omega) | exact d_int (by simp) | exact d_intN (by omega) | exact d_any) .nil) (.cons rfl (fun _ _ x => x) (.nil))
      ·
       refine run_exit rfl ?_
       refine run_seq ?_
       refine run_region ?_
       refine run_op (loc_assign rfl) rfl ?_
       refine run_nil ?_
       have hE : chkC t c = 0 := by unfold chkC; rw [if_neg (Classical.not_not.2 c1), if_neg (Classical.not_not.2 c2), if_neg (Classical.not_not.2 c3), if_neg (by omega), if_neg (by rintro ⟨i, h1, h2, h3⟩; exact h3 (hbu i h1 (by omega)))]
       refine run_retP Tryz.func134 rfl rfl ?_
       exact d_int hE.symm
theorem rapply15_spec (t : Tab) (c : Chg) : SpecP Tryz.prog 90 [dTab t, dChg c] (dTup [dTab (applyC t c), dInt .i64 (chkC t c)]) := by
  refine specP_of_body Tryz.func90 rfl rfl (fun I M => ?_)
  refine run_seq ?_
  refine run_region ?_
  refine run_op (loc_boxN rfl) rfl ?_
  refine run_op (loc_boxN rfl) rfl ?_
  refine run_new (loc_allocOwn (by simp)) rfl (fun b1 _ => ?_)
  refine run_op (loc_assign rfl) rfl ?_
  refine run_nil ?_
  refine run_seq ?_
  refine run_seq ?_
  refine run_region ?_
  refine run_op (loc_loadN rfl rfl) rfl ?_
  refine run_op (loc_loadN rfl rfl) rfl ?_
  refine run_op (loc_call (rcheck15_spec _ _) rfl) rfl ?_
  refine run_op (loc_assign rfl) rfl ?_
  refine run_nil ?_
  refine run_seq ?_
  refine run_region ?_
  refine run_op (loc_move rfl) rfl ?_
  refine run_op (loc_neq rfl rfl) rfl ?_
  refine run_nil ?_
  refine run_cond rfl (fun h2 => ?_) (fun h2 => ?_)
  ·
   have c1 := h2
   refine run_seq ?_
   refine run_region ?_
   refine run_op (loc_build (.nil)) rfl ?_
   refine run_op (loc_move rfl) rfl ?_
   refine run_storeN (ho := (by show OneAll [_, _, _, _]; infer_instance)) rfl rfl (.here) (by rfl) ?_
   refine run_op (loc_assign rfl) rfl ?_
   refine run_nil ?_
   refine run_retGP Tryz.func90 rfl (.cellN rfl (.here) (by rfl) (.tmp rfl (.nil))) ?_ (fun _ _ h => inv_tail (h))
   exact d_tup2 (d_toTab (t' := tabZ) (by unfold applyC; rw [if_neg c1]) (d_aggU (.cons (d_int rfl) (.cons (d_int rfl) (.cons (d_int rfl) (.cons d_nil .nil)))))) (fun _ _ h => h)
  ·
   have c1 := Classical.not_not.1 h2
   refine run_skip ?_
   refine run_seq ?_
   refine run_region ?_
   refine run_op (loc_fieldAddr rfl) rfl ?_
   refine run_op (loc_load1 rfl) rfl ?_
   refine run_op (loc_fieldAddr rfl) rfl ?_
   refine run_op (loc_loadN rfl rfl) rfl ?_
   refine run_op (loc_fieldAddr rfl) rfl ?_
   refine run_op (loc_load1 rfl) rfl ?_
   refine run_op (loc_build (.one rfl rfl rfl (.agg rfl rfl rfl rfl (.one rfl rfl rfl (.nil))))) rfl ?_
   refine run_new (loc_allocOwn (by simp)) rfl (fun b7 _ => ?_)
   refine run_storeN (ho := (by show OneAll [_, _, _, _]; infer_instance)) rfl rfl (.here) (by rfl) ?_
   refine run_nil ?_
   refine run_seq ?_
   refine run_seq ?_
   refine run_region ?_
   refine run_op (loc_assign rfl) rfl ?_
   refine run_nil ?_
   refine run_block ?_
   refine run_rowNil 44 1 fR ?_
   refine run_cellsUp (kk := 3) (b := b7) (dVal (.slice none 0 0)) (dSlV (.slice none 0 0)) (.there (.here)) rfl (fun J u h => ⟨h, _, _, _, h⟩) ?_
   obtain ⟨hct, hcf, hcn, hcr, hch⟩ := chkC_zero c1
   have hcc := hcf.2.2.2
   have hrl : ∀ i, i < c.count.toNat → (rowC t c i).length ≤ 64 := rowC_len c1
   refine run_front (.here) ?_
   refine run_front (.there (.here)) ?_
   refine run_loopF (σ := Value × Nat) (ks := [2, 3, 4, 7]) (.cons rfl (.cons rfl (.cons rfl (.cons rfl (.nil))))) (fun q => [(8, dInt .i64 (q.2 : Nat))]) (fun q => [rCells b7 32 [dInt .i64 c.to', dInt .i64 t.p, dInt .i64 t.width, dSlV q.1], rRow q.1 44 1 fR ((List.range q.2).map (rowC t c))]) (fun q => q.2 ≤ c.count.toNat) (fun q => c.count.toNat - q.2) ((.slice none 0 0, 0)) (Nat.zero_le _) (.cons rfl (by first | exact fun _ _ h => h | exact d_int (by omega) | exact d_int (by simp) | exact d_intN (by omega) | exact d_any) .nil) (rfl) ?_
   intro q hq ih3
   have hml : ((List.range q.2).map (rowC t c)).length = q.2 := by simp
   refine run_seq ?_
   refine run_seq ?_
   refine run_region ?_
   refine run_op (loc_move rfl) rfl ?_
   refine run_op (loc_fieldAddr rfl) rfl ?_
   refine run_op (loc_load1 rfl) rfl ?_
   refine run_op (loc_lss rfl rfl) rfl ?_
   refine run_nil ?_
   refine run_cond rfl (fun h4 => ?_) (fun h4 => ?_)
   ·
    have hq1 := hrl q.2 (by omega)
    refine run_skip ?_
    refine run_seq ?_
    refine run_block ?_
    refine run_seq ?_
    refine run_region ?_
    refine run_op (loc_loadN rfl rfl) rfl ?_
    refine run_op (loc_move rfl) rfl ?_
    refine run_op (loc_call (rfind15_spec _ _) rfl) rfl ?_
    refine run_op (loc_move rfl) rfl ?_
    refine run_op (loc_extract rfl rfl) rfl ?_
    refine run_op (loc_extract rfl rfl) rfl ?_
    refine run_op (loc_assign rfl) rfl ?_
    refine run_op (loc_assign rfl) rfl ?_
    refine run_nil ?_
    refine run_seq ?_
    refine run_seq ?_
    refine run_region ?_
    refine run_op (loc_move rfl) rfl ?_
    refine run_op (loc_not rfl) rfl ?_
    refine run_nil ?_
    refine run_joinC (σ := List Int) (ks := [2, 3, 4, 7, 8]) (.cons rfl (.cons rfl (.cons rfl (.cons rfl (.cons rfl (.nil)))))) (fun y => [(9, dInts y)]) (fun y => y = rowC t c q.2) (fun j5 => ?_) ?_
    ·
     refine run_cond rfl (fun h6 => ?_) (fun h6 => ?_)
     ·
      have h7 := h6
      refine run_region ?_
      refine run_op (loc_fieldAddr rfl) rfl ?_
      refine run_op (loc_load1 rfl) rfl ?_
      refine run_op (loc_move rfl) rfl ?_
      first | refine run_op (loc_index rfl rfl (by first | omega | (have h6 := hch q.2; refine Classical.byContradiction fun h5 => h7 (hch q.2 (by omega) (by omega))) | assumption)) rfl ?_ | refine run_op (loc_indexI rfl rfl (by first | omega | (have h6 := hch q.2; refine Classical.byContradiction fun h5 => h7 (hch q.2 (by omega) (by omega))) | assumption)) rfl ?_
      refine run_op (loc_load1 rfl) rfl ?_
      refine run_op (loc_assign rfl) rfl ?_
      refine run_nil ?_
      exact run_atC j5 ((t.rows[q.2]?.getD default)) (by unfold rowC; rw [if_neg h7]) (.cons rfl (by first | exact fun _ _ h => h | exact d_int (by omega) | exact d_int (by simp) | exact d_intN (by omega) | exact d_any) .nil) (.cons rfl (fun _ _ x => x) (.cons rfl (fun _ _ x => x) (.cons rfl (fun _ _ x => x) (.cons rfl (fun _ _ x => x) (.cons rfl (fun _ _ x => x) (.nil))))))
     ·
      have h7 := Classical.not_not.1 h6
      refine run_skip ?_
      exact run_atC j5 ((rowS c.sets q.2)) (by unfold rowC; rw [if_pos h7]) (.cons rfl (by first | exact fun _ _ h => h | exact d_int (by omega) | exact d_int (by simp) | exact d_intN (by omega) | exact d_any) .nil) (.cons rfl (fun _ _ x => x) (.cons rfl (fun _ _ x => x) (.cons rfl (fun _ _ x => x) (.cons rfl (fun _ _ x => x) (.cons rfl (fun _ _ x => x) (.nil))))))
    rintro y rfl
    refine dr_start _ (.one (σ := Value) 5 (fun _ => True)) [⟨[(7, none)], [], none⟩,
        ⟨[(44, some (0, false))], [0], some (0, 0, false)⟩,
        ⟨[(9, none)], [], none⟩,
        ⟨[(46, some (2, false))], [2], none⟩,
        ⟨[(47, some (3, false))], [2, 3], none⟩,
        ⟨[(45, some (1, false)), (48, some (4, false))], [0, 1, 2, 3, 4], some (1, 0, true)⟩,
        ⟨[(7, none)], [0, 1, 2, 3, 4, 5], none⟩,
        ⟨[(50, some (6, false)), (49, some (5, false))], [0, 1, 2, 3, 4, 5, 6], some (0, 0, true)⟩] [_, _, _] _ rfl rfl ?_
    refine dq_pure rfl (fun s => .g rfl (.nil)) (fun s hs _ => loc_fieldAddrOwn rfl) (by exact .cons (.inr fun _ _ _ => rfl) (.nil)) ?_
    first | refine dq_read rfl (fun s => .op rfl (.nil)) rfl rfl (fun s hs _ hm => LocP.upV (loc_loadOwn1 rfl hm (by rfl))) (by exact .cons (.inr fun _ _ _ => rfl) (.nil)) ?_ | refine dq_read rfl (fun s => .op rfl (.nil)) rfl rfl (fun s hs _ hm => loc_loadOwn1 rfl hm (by rfl)) (by exact .cons (.inr fun _ _ _ => rfl) (.nil)) ?_
    refine dq_pure rfl (fun s => .g rfl (.nil)) (fun s hs _ => loc_move rfl) (by exact .cons (.inr fun _ _ _ => rfl) (.nil)) ?_
    refine dq_pure rfl (fun s => .op rfl (.nil)) (fun s hs _ => LocM.frz0 (loc_appendNil rfl rfl rfl (by first | omega | (simp [lenMax]; omega) | (simp [lenMax]; done) | assumption) (by first | omega | (simp [lenMax]; omega) | (simp [lenMax]; done) | assumption))) (by exact .cons (.inr fun _ _ _ => rfl) (.nil)) ?_
    refine dq_pure rfl (fun s => .op rfl (.nil)) (fun s hs _ => loc_buildSlice rfl rfl (.one rfl (.nil)) rfl rfl) (by exact .cons (.inr fun _ _ _ => rfl) (.nil)) ?_
    refine dq_choose id (fun _ t => t) rfl (fun _ _ => ⟨rfl, id, trivial⟩) (fun s => .op rfl (.op rfl (.nil))) rfl rfl (fun s hs => LocM.rowV (loc_append1 _ rfl rfl rfl rfl (by first | omega | (simp [lenMax]; omega) | (simp [lenMax]; done) | assumption) (by first | omega | (simp [lenMax]; omega) | (simp [lenMax]; done) | assumption))) (by exact .cons (.inl rfl) (.nil)) (fun _ _ => rfl) ?_
    refine dq_pure rfl (fun s => .g rfl (.nil)) (fun s hs _ => loc_fieldAddrOwn rfl) (by exact .cons (.inl rfl) (.nil)) ?_
    refine dq_write0 rfl (fun s => .op rfl (.op rfl (.nil))) rfl rfl (fun s hs => loc_store1 rfl rfl rfl) (by exact .cons (.inl rfl) (.nil)) ?_
    refine dq_end (rs := [_, _, _]) (.bool true) rfl (fun _ => rfl) (.cons rfl (.nil)) rfl (fun _ => rfl) (fun v9 _ => ?_)
    dsimp only [outG, outM, List.map, List.set, id]
    refine run_inBlock ?_
    refine run_region ?_
    refine run_op (loc_move rfl) rfl ?_
    first | refine run_op (loc_add rfl rfl (by first | omega | (have h6 := hch q.2; refine Classical.byContradiction fun h5 => h7 (hch q.2 (by omega) (by omega))) | assumption)) rfl ?_ | refine run_op (loc_addW rfl rfl) rfl ?_
    refine run_op (loc_assign rfl) rfl ?_
    refine run_nil ?_
    exact run_againF ih3 ((v9, q.2 + 1)) (by simp only; omega) (by simp only; omega) (.cons rfl (by first | exact fun _ _ h => h | exact d_int (by omega) | exact d_int (by simp) | exact d_intN (by omega) | exact d_any) .nil) (.cons rfl (fun _ _ x => x) (.cons rfl (fun _ _ x => x) (.cons rfl (fun _ _ x => x) (.cons rfl (fun _ _ x => x) (.nil))))) (by simp only [appR]; rw [List.range_succ, List.map_append]; rfl)
   ·
    refine run_exit rfl ?_
    refine run_seq ?_
    first | refine run_freezeRowCellV (kk := 3) (.there (.here)) (.here) rfl ?_ | refine run_freezeRowCell (kk := 3) (.there (.here)) (.here) rfl ?_
    refine run_region ?_
    refine run_op (loc_loadOwnN rfl (.here) (by rfl)) rfl ?_
    refine run_storeN (ho := (by show OneAll [_, _, _, _]; infer_instance)) rfl rfl (.there (.here)) (by rfl) ?_
    refine run_op (loc_assign rfl) rfl ?_
    refine run_nil ?_
    refine run_retGP Tryz.func90 rfl (.cellN rfl (.there (.here)) (by rfl) (.tmp rfl (.nil))) ?_ (fun _ _ h => inv_tail (inv_tail (h)))
    exact d_tup2 (d_toTab (t' := ⟨c.to', t.p, t.width, (List.range q.2).map (rowC t c)⟩) (by unfold applyC; rw [if_pos c1, show c.count.toNat = q.2 by omega]) (fun _ _ h => h)) (d_int c1.symm)
theorem rsame4_spec (xs ys : List Int) : SpecP Tryz.prog 172 [dInts xs, dInts ys] (dB (xs = ys)) := by
  refine specP_of_body Tryz.func172 rfl rfl (fun I M => ?_)
  refine run_seq ?_
  refine run_region ?_
  refine run_op (loc_assign rfl) rfl ?_
  refine run_nil ?_
  refine run_seq ?_
  refine run_seq ?_
  refine run_region ?_
  refine run_op (loc_move rfl) rfl ?_
  first | refine runL_fact (s := 6) rfl (fun _ _ h => dSl_len h) (fun hlen1 => ?_) | skip
  refine run_op (loc_len rfl) rfl ?_
  refine run_op (loc_move rfl) rfl ?_
  first | refine runL_fact (s := 8) rfl (fun _ _ h => dSl_len h) (fun hlen2 => ?_) | skip
  refine run_op (loc_len rfl) rfl ?_
  refine run_op (loc_neq rfl rfl) rfl ?_
  refine run_nil ?_
  refine run_cond rfl (fun h3 => ?_) (fun h3 => ?_)
  ·
   refine run_seq ?_
   refine run_region ?_
   refine run_op (loc_assign rfl) rfl ?_
   refine run_nil ?_
   refine run_retP Tryz.func172 rfl rfl ?_
   exact d_B ⟨False.elim, fun h => by subst h; omega⟩
  ·
   refine run_skip ?_
   refine run_seq ?_
   refine run_seq ?_
   refine run_region ?_
   refine run_op (loc_move rfl) rfl ?_
   first | refine runL_fact (s := 11) rfl (fun _ _ h => dSl_len h) (fun hlen4 => ?_) | skip
   refine run_op (loc_len rfl) rfl ?_
   refine run_op (loc_move rfl) rfl ?_
   refine run_nil ?_
   refine run_block ?_
   refine run_loopC (σ := Nat) (ks := [0, 1, 12]) (.cons rfl (.cons rfl (.cons rfl (.nil)))) (fun k => [(13, dInt .i64 (k : Nat))]) (fun k => k ≤ xs.length ∧ (∀ j, j < k → xs[j]?.getD default = ys[j]?.getD default)) (fun k => xs.length - k) (0) (⟨by omega, fun j hj => by omega⟩) (.cons rfl (by first | exact fun _ _ h => h | exact d_int (by omega) | exact d_int (by simp) | exact d_intN (by omega) | exact d_any) .nil) ?_
   rintro k ⟨hk, hbk⟩ ih5
   refine run_seq ?_
   refine run_region ?_
   refine run_op (loc_lss rfl rfl) rfl ?_
   refine run_nil ?_
   refine run_seq ?_
   refine run_cond rfl (fun h6 => ?_) (fun h6 => ?_)
   ·
    refine run_skip ?_
    refine run_seq ?_
    refine run_block ?_
    refine run_seq ?_
    refine run_region ?_
    refine run_op (loc_move rfl) rfl ?_
    refine run_op (loc_assign rfl) rfl ?_
    refine run_nil ?_
    refine run_seq ?_
    refine dr_start _ (.none) [⟨[(0, none)], [], none⟩,
        ⟨[(5, none)], [], none⟩,
        ⟨[(16, some (0, false)), (17, some (1, false))], [0, 1], none⟩,
        ⟨[(18, some (2, false))], [0, 1, 2], none⟩,
        ⟨[(1, none)], [], none⟩,
        ⟨[(5, none)], [], none⟩,
        ⟨[(20, some (4, false)), (21, some (5, false))], [4, 5], none⟩,
        ⟨[(22, some (6, false))], [4, 5, 6], none⟩,
        ⟨[(19, some (3, false)), (23, some (7, false))], [0, 1, 2, 3, 4, 5, 6, 7], none⟩] [] _ rfl rfl ?_
    refine dq_pure rfl (fun s => .g rfl (.nil)) (fun s hs _ => loc_move rfl) (by exact .nil) ?_
    refine dq_pure rfl (fun s => .g rfl (.nil)) (fun s hs _ => loc_move rfl) (by exact .nil) ?_
    first | refine dq_pure rfl (fun s => .op rfl (.op rfl (.nil))) (fun s hs _ => loc_index rfl rfl (by first | omega | assumption)) (by exact .nil) ?_ | refine dq_pure rfl (fun s => .op rfl (.op rfl (.nil))) (fun s hs _ => loc_indexI rfl rfl (by first | omega | assumption)) (by exact .nil) ?_
    refine dq_pure rfl (fun s => .op rfl (.nil)) (fun s hs _ => loc_load1 rfl) (by exact .nil) ?_
    refine dq_pure rfl (fun s => .g rfl (.nil)) (fun s hs _ => loc_move rfl) (by exact .nil) ?_
    refine dq_pure rfl (fun s => .g rfl (.nil)) (fun s hs _ => loc_move rfl) (by exact .nil) ?_
    first | refine dq_pure rfl (fun s => .op rfl (.op rfl (.nil))) (fun s hs _ => loc_index rfl rfl (by first | omega | assumption)) (by exact .nil) ?_ | refine dq_pure rfl (fun s => .op rfl (.op rfl (.nil))) (fun s hs _ => loc_indexI rfl rfl (by first | omega | assumption)) (by exact .nil) ?_
    refine dq_pure rfl (fun s => .op rfl (.nil)) (fun s hs _ => loc_load1 rfl) (by exact .nil) ?_
    refine dq_pure rfl (fun s => .op rfl (.op rfl (.nil))) (fun s hs _ => loc_neq rfl rfl) (by exact .nil) ?_
    refine dq_end (rs := []) () rfl (fun _ => rfl) (.nil) rfl (fun _ => rfl) (fun _ _ => ?_)
    dsimp only [outG, outM, List.map, List.set, id]
    refine run_cond rfl (fun h7 => ?_) (fun h7 => ?_)
    ·
     refine run_seq ?_
     refine run_region ?_
     refine run_op (loc_assign rfl) rfl ?_
     refine run_nil ?_
     refine run_retP Tryz.func172 rfl rfl ?_
     exact d_B ⟨False.elim, fun h => by subst h; contradiction⟩
    ·
     refine run_skip ?_
     refine run_inBlock ?_
     refine run_region ?_
     first | refine run_op (loc_add rfl rfl (by first | omega | assumption)) rfl ?_ | refine run_op (loc_addW rfl rfl) rfl ?_
     refine run_op (loc_move rfl) rfl ?_
     refine run_nil ?_
     exact run_againC ih5 (k + 1) (⟨by omega, fun j hj => by by_cases e : j = k; (· subst e; exact Classical.not_not.1 (by assumption)); (· exact hbk j (by omega))⟩) (by omega) (.cons rfl (by first | exact fun _ _ h => h | exact d_int (by omega) | exact d_int (by simp) | exact d_intN (by omega) | exact d_any) .nil) (.cons rfl (fun _ _ x => x) (.cons rfl (fun _ _ x => x) (.cons rfl (fun _ _ x => x) (.nil))))
   ·
    refine run_exit rfl ?_
    refine run_seq ?_
    refine run_region ?_
    refine run_op (loc_assign rfl) rfl ?_
    refine run_nil ?_
    refine run_retP Tryz.func172 rfl rfl ?_
    exact d_B ⟨fun _ => list_extD (by omega) (fun j hj => hbk j (by omega)), fun _ => trivial⟩
theorem rbtw_spec (a b : Tab) : SpecP Tryz.prog 136 [dTab a, dTab b] (dTup [dChg (btwC a b), dInt .i64 (btwE a b)]) := by
  refine specP_of_body Tryz.func136 rfl rfl (fun I M => ?_)
  refine run_seq ?_
  refine run_region ?_
  refine run_op (loc_boxN rfl) rfl ?_
  refine run_op (loc_boxN rfl) rfl ?_
  refine run_new (loc_allocOwn (by simp)) rfl (fun b1 _ => ?_)
  refine run_op (loc_assign rfl) rfl ?_
  refine run_nil ?_
  refine run_seq ?_
  refine run_seq ?_
  refine run_region ?_
  refine run_op (loc_loadN rfl rfl) rfl ?_
  refine run_op (loc_call (rtcheck_spec _) rfl) rfl ?_
  refine run_op (loc_assign rfl) rfl ?_
  refine run_nil ?_
  refine run_seq ?_
  refine run_region ?_
  refine run_op (loc_move rfl) rfl ?_
  refine run_op (loc_neq rfl rfl) rfl ?_
  refine run_nil ?_
  refine run_cond rfl (fun h2 => ?_) (fun h2 => ?_)
  ·
   have c1 := h2
   refine run_seq ?_
   refine run_region ?_
   refine run_op (loc_build (.nil)) rfl ?_
   refine run_op (loc_move rfl) rfl ?_
   refine run_storeN (ho := (by show OneAll [_, _, _, _]; infer_instance)) rfl rfl (.here) (by rfl) ?_
   refine run_op (loc_assign rfl) rfl ?_
   refine run_nil ?_
   have hE : btwE a b = checkT a := by unfold btwE; rw [if_pos c1]
   refine run_retGP Tryz.func136 rfl (.cellN rfl (.here) (by rfl) (.tmp rfl (.nil))) ?_ (fun _ _ h => inv_tail (h))
   exact d_tup2 (d_toChg (t' := chg0) (by unfold btwC; rw [if_neg (by rw [hE]; first | omega | assumption)]) (d_aggU (.cons (d_int rfl) (.cons (d_int rfl) (.cons (d_int rfl) (.cons d_nil .nil)))))) (d_int hE.symm)
  ·
   have c1 := Classical.not_not.1 h2
   refine run_skip ?_
   refine run_seq ?_
   refine run_seq ?_
   refine run_region ?_
   refine run_op (loc_loadN rfl rfl) rfl ?_
   refine run_op (loc_call (rtcheck_spec _) rfl) rfl ?_
   refine run_op (loc_assign rfl) rfl ?_
   refine run_nil ?_
   refine run_seq ?_
   refine run_region ?_
   refine run_op (loc_move rfl) rfl ?_
   refine run_op (loc_neq rfl rfl) rfl ?_
   refine run_nil ?_
   refine run_cond rfl (fun h3 => ?_) (fun h3 => ?_)
   ·
    have c2 := h3
    refine run_seq ?_
    refine run_region ?_
    refine run_op (loc_build (.nil)) rfl ?_
    refine run_op (loc_move rfl) rfl ?_
    refine run_storeN (ho := (by show OneAll [_, _, _, _]; infer_instance)) rfl rfl (.here) (by rfl) ?_
    refine run_op (loc_assign rfl) rfl ?_
    refine run_nil ?_
    have hE : btwE a b = checkT b := by unfold btwE; rw [if_neg (Classical.not_not.2 c1), if_pos c2]
    refine run_retGP Tryz.func136 rfl (.cellN rfl (.here) (by rfl) (.tmp rfl (.nil))) ?_ (fun _ _ h => inv_tail (h))
    exact d_tup2 (d_toChg (t' := chg0) (by unfold btwC; rw [if_neg (by rw [hE]; first | omega | assumption)]) (d_aggU (.cons (d_int rfl) (.cons (d_int rfl) (.cons (d_int rfl) (.cons d_nil .nil)))))) (d_int hE.symm)
   ·
    have c2 := Classical.not_not.1 h3
    refine run_skip ?_
    refine run_seq ?_
    refine run_seq ?_
    refine run_region ?_
    refine run_op (loc_fieldAddr rfl) rfl ?_
    refine run_op (loc_loadN rfl rfl) rfl ?_
    refine run_op (loc_fieldAddr rfl) rfl ?_
    refine run_op (loc_loadN rfl rfl) rfl ?_
    refine run_op (loc_neqI rfl rfl (.cons (.nil)) rfl) rfl ?_
    refine run_op (loc_move rfl) rfl ?_
    refine run_gfirst rfl rfl gdI.ok (fun hg => loc_fieldAddr rfl) rfl ?_
    refine run_gop rfl rfl gdI.ok (fun hg => loc_load1 rfl) rfl ?_
    refine run_gop rfl rfl gdI.ok (fun hg => loc_fieldAddr rfl) rfl ?_
    refine run_gop rfl rfl gdI.ok (fun hg => loc_load1 rfl) rfl ?_
    refine run_gop rfl rfl gdI.ok (fun hg => loc_neq rfl rfl) rfl ?_
    refine run_gleave ?_
    refine run_op (loc_or rfl rfl) rfl ?_
    refine run_nil ?_
    refine run_cond rfl (fun h4 => ?_) (fun h4 => ?_)
    ·
     have c3 : a.p ≠ b.p ∨ a.width ≠ b.width := by have h5 := h4; simpa using h5
     refine run_seq ?_
     refine run_region ?_
     refine run_op (loc_build (.nil)) rfl ?_
     refine run_storeN (ho := (by show OneAll [_, _, _, _]; infer_instance)) rfl rfl (.here) (by rfl) ?_
     refine run_op (loc_assign rfl) rfl ?_
     refine run_nil ?_
     have hE : btwE a b = 2 := by unfold btwE; rw [if_neg (Classical.not_not.2 c1), if_neg (Classical.not_not.2 c2), if_pos c3]
     refine run_retGP Tryz.func136 rfl (.cellN rfl (.here) (by rfl) (.tmp rfl (.nil))) ?_ (fun _ _ h => inv_tail (h))
     exact d_tup2 (d_toChg (t' := chg0) (by unfold btwC; rw [if_neg (by rw [hE]; first | omega | assumption)]) (d_aggU (.cons (d_int rfl) (.cons (d_int rfl) (.cons (d_int rfl) (.cons d_nil .nil)))))) (d_int hE.symm)
    ·
     have c3 : ¬ (a.p ≠ b.p ∨ a.width ≠ b.width) := by have h5 := h4; simpa using h5
     refine run_skip ?_
     refine run_seq ?_
     refine run_seq ?_
     refine run_region ?_
     refine run_op (loc_fieldAddr rfl) rfl ?_
     refine run_op (loc_load1 rfl) rfl ?_
     refine run_op (loc_fieldAddr rfl) rfl ?_
     refine run_op (loc_load1 rfl) rfl ?_
     refine run_op (loc_leq rfl rfl) rfl ?_
     refine run_nil ?_
     refine run_cond rfl (fun h5 => ?_) (fun h5 => ?_)
     ·
      have c4 := h5
      refine run_seq ?_
      refine run_region ?_
      refine run_op (loc_build (.nil)) rfl ?_
      refine run_storeN (ho := (by show OneAll [_, _, _, _]; infer_instance)) rfl rfl (.here) (by rfl) ?_
      refine run_op (loc_assign rfl) rfl ?_
      refine run_nil ?_
      have hE : btwE a b = 17 := by unfold btwE; rw [if_neg (Classical.not_not.2 c1), if_neg (Classical.not_not.2 c2), if_neg c3, if_pos c4]
      refine run_retGP Tryz.func136 rfl (.cellN rfl (.here) (by rfl) (.tmp rfl (.nil))) ?_ (fun _ _ h => inv_tail (h))
      exact d_tup2 (d_toChg (t' := chg0) (by unfold btwC; rw [if_neg (by rw [hE]; first | omega | assumption)]) (d_aggU (.cons (d_int rfl) (.cons (d_int rfl) (.cons (d_int rfl) (.cons d_nil .nil)))))) (d_int hE.symm)
     ·
      have c4 := h5
      refine run_skip ?_
      refine run_seq ?_
      refine run_region ?_
      refine run_op (loc_fieldAddr rfl) rfl ?_
      refine run_op (loc_load1 rfl) rfl ?_
      refine run_op (loc_fieldAddr rfl) rfl ?_
      refine run_op (loc_load1 rfl) rfl ?_
      refine run_op (loc_fieldAddr rfl) rfl ?_
      refine run_op (loc_load1 rfl) rfl ?_
      first | refine runL_fact (s := 47) rfl (fun _ _ h => dSl_len h) (fun hlen6 => ?_) | skip
      refine run_op (loc_len rfl) rfl ?_
      refine run_op (loc_build (.one rfl rfl rfl (.one rfl rfl rfl (.one rfl rfl rfl (.nil))))) rfl ?_
      refine run_new (loc_allocOwn (by simp)) rfl (fun b8 _ => ?_)
      refine run_storeN (ho := (by show OneAll [_, _, _, _]; infer_instance)) rfl rfl (.here) (by rfl) ?_
      refine run_nil ?_
      refine run_seq ?_
      refine run_seq ?_
      refine run_region ?_
      refine run_op (loc_fieldAddr rfl) rfl ?_
      refine run_op (loc_load1 rfl) rfl ?_
      first | refine runL_fact (s := 51) rfl (fun _ _ h => dSl_len h) (fun hlen7 => ?_) | skip
      refine run_op (loc_len rfl) rfl ?_
      refine run_op (loc_move rfl) rfl ?_
      refine run_nil ?_
      refine run_block ?_
      refine run_rowNil 213 2 cSett ?_
      refine run_cellsUp (kk := 3) (b := b8) (dVal (.slice none 0 0)) (dSlV (.slice none 0 0)) (.there (.here)) rfl (fun J u h => ⟨h, _, _, _, h⟩) ?_
      have hbt := checkT_ok c2
      have hbl := hbt.2.2.2.1
      refine run_front (.here) ?_
      refine run_front (.there (.here)) ?_
      refine run_loopF (σ := Value × Nat) (ks := [2, 4, 8, 51, 52]) (.cons rfl (.cons rfl (.cons rfl (.cons rfl (.cons rfl (.nil)))))) (fun q => [(53, dInt .i64 (q.2 : Nat))]) (fun q => [rCells b8 144 [dInt .i64 a.number, dInt .i64 b.number, dInt .i64 (b.rows.length : Nat), dSlV q.1], rRow q.1 213 2 cSett (newR a b q.2)]) (fun q => q.2 ≤ b.rows.length) (fun q => b.rows.length - q.2) ((.slice none 0 0, 0)) (Nat.zero_le _) (.cons rfl (by first | exact fun _ _ h => h | exact d_int (by omega) | exact d_int (by simp) | exact d_intN (by omega) | exact d_any) .nil) (rfl) ?_
      intro q hq ih8
      have hnl := newR_len a b q.2
      refine run_seq ?_
      refine run_region ?_
      refine run_op (loc_lss rfl rfl) rfl ?_
      refine run_nil ?_
      refine run_seq ?_
      refine run_cond rfl (fun h9 => ?_) (fun h9 => ?_)
      ·
       have hbr := (hbt.2.2.2.2 _ (getD_mem (xs := b.rows) (k := q.2) (by omega))).1
       have hbw := hbt.2.2.1
       refine run_skip ?_
       refine run_seq ?_
       refine run_block ?_
       refine run_seq ?_
       refine run_region ?_
       refine run_op (loc_move rfl) rfl ?_
       first | refine run_op (loc_index rfl rfl (by first | omega | assumption)) rfl ?_ | refine run_op (loc_indexI rfl rfl (by first | omega | assumption)) rfl ?_
       refine run_op (loc_load1 rfl) rfl ?_
       refine run_op (loc_assign rfl) rfl ?_
       refine run_op (loc_assign rfl) rfl ?_
       refine run_nil ?_
       refine run_seq ?_
       refine run_region ?_
       refine run_op (loc_move rfl) rfl ?_
       refine run_op (loc_fieldAddr rfl) rfl ?_
       refine run_op (loc_load1 rfl) rfl ?_
       first | refine runL_fact (s := 60) rfl (fun _ _ h => dSl_len h) (fun hlen10 => ?_) | skip
       refine run_op (loc_len rfl) rfl ?_
       refine run_op (loc_geq rfl rfl) rfl ?_
       refine run_op (loc_move rfl) rfl ?_
       refine run_gfirst rfl rfl gdI.ok (fun hg => loc_move rfl) rfl ?_
       refine run_gop rfl rfl gdI.ok (fun hg => loc_fieldAddr rfl) rfl ?_
       refine run_gop rfl rfl gdI.ok (fun hg => loc_load1 rfl) rfl ?_
       refine run_gop rfl rfl gdI.ok (fun hg => loc_move rfl) rfl ?_
       first | refine run_gop rfl rfl gdI.ok (fun hg => loc_index rfl rfl (by first | omega | assumption)) rfl ?_ | refine run_gop rfl rfl gdI.ok (fun hg => loc_indexI rfl rfl (by first | omega | assumption)) rfl ?_
       refine run_gop rfl rfl gdI.ok (fun hg => loc_load1 rfl) rfl ?_
       refine run_gop rfl rfl gdI.ok (fun hg => loc_call (rsame4_spec _ _) rfl) rfl ?_
       refine run_gop rfl rfl gdI.ok (fun hg => loc_not rfl) rfl ?_
       refine run_gleave ?_
       refine run_op (loc_or rfl rfl) rfl ?_
       refine run_nil ?_
       refine run_cond rfl (fun h11 => ?_) (fun h11 => ?_)
       ·
        have h7 : ¬ (q.2 < a.rows.length ∧ b.rows[q.2]?.getD default = a.rows[q.2]?.getD default) := by rintro ⟨g1, g2⟩; rcases h11 with h5 | h5; (· omega); (· exact h5 g2)
        refine dr_start _ (.one (σ := Value) 7 (fun _ => True)) [⟨[(8, none)], [], none⟩,
            ⟨[(73, some (0, false))], [0], some (0, 0, false)⟩,
            ⟨[(9, none)], [], none⟩,
            ⟨[(10, none)], [], none⟩,
            ⟨[(76, some (3, false))], [3], none⟩,
            ⟨[(75, some (2, false)), (77, some (4, false))], [2, 3, 4], none⟩,
            ⟨[(78, some (5, false))], [2, 3, 4, 5], none⟩,
            ⟨[(74, some (1, false)), (79, some (6, false))], [0, 1, 2, 3, 4, 5, 6], some (1, 0, true)⟩,
            ⟨[(8, none)], [0, 1, 2, 3, 4, 5, 6, 7], none⟩,
            ⟨[(81, some (8, false)), (80, some (7, false))], [0, 1, 2, 3, 4, 5, 6, 7, 8], some (0, 0, true)⟩] [_, _, _] _ rfl rfl ?_
        refine dq_pure rfl (fun s => .g rfl (.nil)) (fun s hs _ => loc_fieldAddrOwn rfl) (by exact .cons (.inr fun _ _ _ => rfl) (.nil)) ?_
        first | refine dq_read rfl (fun s => .op rfl (.nil)) rfl rfl (fun s hs _ hm => LocP.upV (loc_loadOwn1 rfl hm (by rfl))) (by exact .cons (.inr fun _ _ _ => rfl) (.nil)) ?_ | refine dq_read rfl (fun s => .op rfl (.nil)) rfl rfl (fun s hs _ hm => loc_loadOwn1 rfl hm (by rfl)) (by exact .cons (.inr fun _ _ _ => rfl) (.nil)) ?_
        refine dq_pure rfl (fun s => .g rfl (.nil)) (fun s hs _ => loc_move rfl) (by exact .cons (.inr fun _ _ _ => rfl) (.nil)) ?_
        refine dq_pure rfl (fun s => .g rfl (.nil)) (fun s hs _ => loc_move rfl) (by exact .cons (.inr fun _ _ _ => rfl) (.nil)) ?_
        refine dq_pure rfl (fun s => .op rfl (.nil)) (fun s hs _ => LocM.frz0 (loc_appendNil rfl rfl rfl (by first | omega | (simp [lenMax]; omega) | (simp [lenMax]; done) | assumption) (by first | omega | (simp [lenMax]; omega) | (simp [lenMax]; done) | assumption))) (by exact .cons (.inr fun _ _ _ => rfl) (.nil)) ?_
        refine dq_pure rfl (fun s => .op rfl (.op rfl (.nil))) (fun s hs _ => loc_build (.one rfl rfl rfl (.one rfl rfl rfl (.nil)))) (by exact .cons (.inr fun _ _ _ => rfl) (.nil)) ?_
        refine dq_pure rfl (fun s => .op rfl (.nil)) (fun s hs _ => loc_buildSlice rfl rfl (.agg rfl (.nil)) rfl rfl) (by exact .cons (.inr fun _ _ _ => rfl) (.nil)) ?_
        refine dq_choose id (fun _ t => t) rfl (fun _ _ => ⟨rfl, id, trivial⟩) (fun s => .op rfl (.op rfl (.nil))) rfl rfl (fun s hs => LocM.rowV (loc_append1 (⟨q.2, b.rows[q.2]?.getD default⟩ : Sett) rfl rfl rfl rfl (by first | omega | (simp [lenMax]; omega) | (simp [lenMax]; done) | assumption) (by first | omega | (simp [lenMax]; omega) | (simp [lenMax]; done) | assumption))) (by exact .cons (.inl rfl) (.nil)) (fun _ _ => rfl) ?_
        refine dq_pure rfl (fun s => .g rfl (.nil)) (fun s hs _ => loc_fieldAddrOwn rfl) (by exact .cons (.inl rfl) (.nil)) ?_
        refine dq_write0 rfl (fun s => .op rfl (.op rfl (.nil))) rfl rfl (fun s hs => loc_store1 rfl rfl rfl) (by exact .cons (.inl rfl) (.nil)) ?_
        refine dq_end (rs := [_, _, _]) (.bool true) rfl (fun _ => rfl) (.cons rfl (.nil)) rfl (fun _ => rfl) (fun v9 _ => ?_)
        dsimp only [outG, outM, List.map, List.set, id]
        refine run_inBlock ?_
        refine run_region ?_
        first | refine run_op (loc_add rfl rfl (by first | omega | assumption)) rfl ?_ | refine run_op (loc_addW rfl rfl) rfl ?_
        refine run_op (loc_move rfl) rfl ?_
        refine run_nil ?_
        exact run_againF ih8 ((v9, q.2 + 1)) (by simp only; omega) (by simp only; omega) (.cons rfl (by first | exact fun _ _ h => h | exact d_int (by omega) | exact d_int (by simp) | exact d_intN (by omega) | exact d_any) .nil) (.cons rfl (fun _ _ x => x) (.cons rfl (fun _ _ x => x) (.cons rfl (fun _ _ x => x) (.cons rfl (fun _ _ x => x) (.cons rfl (fun _ _ x => x) (.nil)))))) (by simp only [appR]; rw [newR_snoc, if_neg h7])
       ·
        have h7 : q.2 < a.rows.length ∧ b.rows[q.2]?.getD default = a.rows[q.2]?.getD default := by have h5 := h11; refine ⟨by omega, Classical.byContradiction fun g2 => h5 (.inr g2)⟩
        refine run_skip ?_
        refine run_inBlock ?_
        refine run_region ?_
        first | refine run_op (loc_add rfl rfl (by first | omega | assumption)) rfl ?_ | refine run_op (loc_addW rfl rfl) rfl ?_
        refine run_op (loc_move rfl) rfl ?_
        refine run_nil ?_
        exact run_againF ih8 ((q.1, q.2 + 1)) (by simp only; omega) (by simp only; omega) (.cons rfl (by first | exact fun _ _ h => h | exact d_int (by omega) | exact d_int (by simp) | exact d_intN (by omega) | exact d_any) .nil) (.cons rfl (fun _ _ x => x) (.cons rfl (fun _ _ x => x) (.cons rfl (fun _ _ x => x) (.cons rfl (fun _ _ x => x) (.cons rfl (fun _ _ x => x) (.nil)))))) (by simp only [appR]; rw [newR_snoc, if_pos h7])
      ·
       refine run_exit rfl ?_
       refine run_seq ?_
       first | refine run_freezeRowCellV (kk := 3) (.there (.here)) (.here) rfl ?_ | refine run_freezeRowCell (kk := 3) (.there (.here)) (.here) rfl ?_
       refine run_region ?_
       refine run_op (loc_loadOwnN rfl (.here) (by rfl)) rfl ?_
       refine run_storeN (ho := (by show OneAll [_, _, _, _]; infer_instance)) rfl rfl (.there (.here)) (by rfl) ?_
       refine run_op (loc_assign rfl) rfl ?_
       refine run_nil ?_
       have hE : btwE a b = 0 := by unfold btwE; rw [if_neg (Classical.not_not.2 c1), if_neg (Classical.not_not.2 c2), if_neg c3, if_neg c4]
       refine run_retGP Tryz.func136 rfl (.cellN rfl (.there (.here)) (by rfl) (.tmp rfl (.nil))) ?_ (fun _ _ h => inv_tail (inv_tail (h)))
       exact d_tup2 (d_toChg (t' := ⟨a.number, b.number, (b.rows.length : Nat), newR a b q.2⟩) (by unfold btwC; rw [if_pos hE, show b.rows.length = q.2 by omega]) (fun _ _ h => h)) (d_int hE.symm)
end Go.Q

namespace Go.Q
variable {P : Program} {N : Nat} {g : G} {σ : Type} {l : List Oper} {us : List Info} {C : Ch σ}
variable {fs : List (Nat × (σ → D) × (σ → D))} {vs : List (List (σ → Res))} {os : List (Nat × (σ → D))} {i : Nat} {M : List Res} {I0 : Imm} {f : FuncId} {R : Goal} {k : List Item}
variable {id : Nat} {rest : List Oper} {urest : List Info} {dst : Tmp} {op : Op} {ty : TypeId} {pos : String} {after : Array Edge} {need : List (Nat × Option (Nat × Bool))} {anc : List Nat} {c : σ → G}
theorem LocM.mapS {o : Oper} {c : G} {r0 : Res} {ow : List Res} {τ : Type} {ψ : τ → Prop} {d : σ → D} {v' : σ → Res} {φ : σ → Prop} {ow' : σ → List Res} (up : τ → σ) (h : LocM P o c N [r0] ψ (fun t => d (up t)) (fun t => [v' (up t)])) (hφ : ∀ t, ψ t → φ (up t)) (hw : ∀ t, ow' (up t) = ow) :
  LocM P o c N (r0 :: ow) φ d (fun s => v' s :: ow' s) :=
 ⟨fun F I a w K Q hs hi hK => h.go (ow ++ F) I a w K Q hs hi fun t v w1 J ht hle hv hi' => hK (up t) v w1 J (hφ t ht) hle hv (by rw [hw]; exact hi')⟩
theorem dq_chooseS {τ : Type} (pr : σ → τ) (up : σ → τ → σ) {d : σ → τ → D} {v' : σ → τ → Res} {φ : τ → Prop} {r p : Nat} {v : σ → Res} {old : List (σ → Res)} (hix : nElem C.X i = true) (hup : ∀ s t, pr (up s t) = t ∧ (φ t → C.Φ i (up s t)) ∧ C.E i s (up s t))
  (hcx : ∀ s, CtxR g fs s need (c s)) (hv : vs[r]? = some (v :: old)) (hp : old.length = p)
  (h : ∀ s, C.good anc s → LocM P ⟨some dst, op, ty, pos, after, none⟩ (c s) N [v s] φ (fun t => d s t) (fun t => [v' s t])) (hdv : ∀ s t, d (up s t) t = d s t ∧ v' (up s t) t = v' s t)
  (hc : AllX C.X fun x => x = i ∨ nElem anc x = true ∨ ∀ s s', C.E x s s' → d s (pr s) = d s' (pr s') ∧ v' s (pr s) = v' s' (pr s')) (hw : ∀ s t, C.own (up s t) = C.own s)
  (next : DR P f N I0 R g M l us C id k ((i, (fun s => d s (pr s)), (fun s => d s (pr s))) :: fs) (vs.set r ((fun s => v' s (pr s)) :: v :: old)) ((dst, (fun s => d s (pr s))) :: os) (i + 1) rest urest) :
  DR P f N I0 R g M l us C id k fs vs os i (⟨some dst, op, ty, pos, after, none⟩ :: rest) (⟨need, anc, some (r, p, true)⟩ :: urest) :=
 dr_choose hix hv hp hc
  (fun s hs => by
   rw [(hcx s).eq]
   refine LocM.mapS (d := fun s => d s (pr s)) (v' := fun s => v' s (pr s)) (up s) ?_ (fun t ht => ⟨(hup s t).2.1 ht, (hup s t).2.2⟩) (hw s)
   have h1 := h s hs
   rw [show (fun t => d (up s t) (pr (up s t))) = fun t => d s t from funext fun t => by rw [(hup s t).1]; exact (hdv s t).1, show (fun t => [v' (up s t) (pr (up s t))]) = fun t => [v' s t] from funext fun t => by rw [(hup s t).1, (hdv s t).2]]
   exact h1) next
end Go.Q
