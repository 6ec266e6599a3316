/- The law of the steps of servers. -/
import Derived.Test.YtgaalfgmgmpnbaaGreatQServer7
import Derived.Test.YtgaalfgmgmpnbaaGreatQDice30S
import Derived.Test.YtgaalfgmgmpnbaaGreatQLaw30C
import Derived.Test.YtgaalfgmgmpnbaaGreatQApi2
import Derived.ProofKit
import Derived.SizedLaws
import Derived.Deep.Matrix
import Derived.Lib.SmallJoins
import Derived.Test.YtgaalfgmgmpnbaaGreatQMap
set_option linter.unusedVariables false
set_option linter.unusedSimpArgs false
namespace Go.Q
open Go.Proofs
open Classical
theorem dice_okP {xs : List Int} (h : ∀ x ∈ xs, 0 ≤ x ∧ x ≤ 255) : okDc ⟨xs.take 300, 0⟩ := ⟨fun x hm => h x (List.mem_of_mem_take hm), by simp; omega⟩
instance : Inhabited Srv := ⟨srv0⟩
theorem note_szI {v : Srv} {p : Psn} {lie : Int} (h : okI v) : (wordN v p lie).query.length ≤ 100000 ∧ (wordN v p lie).values.length ≤ 100000 := by
 unfold wordN
 split
 ·rename_i hr
  match hj : v.jobs with
  | [] => exact absurd (by rw [hj]; rfl) hr.2.1
  | j :: rest =>
   obtain ⟨_, h1, h2, _, h3, _⟩ := job_first h hj
   have h4 := h1.2.1
   have h5 := h1.2.2.1
   obtain ⟨_, e, _⟩ := word_plainX (lie := lie) hj
   rw [e]
   exact ⟨by show j.query.length ≤ 100000; omega, by show (j.got ++ [_]).length ≤ 100000; rw [List.length_append, List.length_singleton]; omega⟩
 ·exact ⟨Nat.zero_le _, Nat.zero_le _⟩
theorem serverSteps_spec (xs : List Int) (hx : ∀ x ∈ xs, 0 ≤ x ∧ x ≤ 255) (idn : Int) (raw : Schm) (nt : Nte) (ver lie : Int) (ps : Psn) : SpecP Tryz.prog 4 [dBy xs, dInt .i64 idn, dSchm raw, dNte nt, dInt .i64 ver, dInt .i64 lie, dPsn ps] (dB True) := by
  refine specP_of_body Tryz.func4 rfl rfl (fun I M => ?_)
  refine run_seq ?_
  refine run_region ?_
  refine run_op (loc_boxN rfl) rfl ?_
  refine run_op (loc_boxN rfl) rfl ?_
  refine run_op (loc_boxN rfl) rfl ?_
  refine run_op (loc_assign rfl) rfl ?_
  refine run_nil ?_
  refine run_seq ?_
  refine run_seq ?_
  refine run_region ?_
  refine run_op (loc_call (sane30_spec) rfl) rfl ?_
  refine run_op (loc_not rfl) rfl ?_
  refine run_nil ?_
  refine run_cond rfl (fun h1 => ?_) (fun h1 => ?_)
  · exfalso; exact h1 trivial
  ·
   refine run_skip ?_
   refine run_seq ?_
   refine run_seq ?_
   refine run_region ?_
   refine run_op (loc_fieldAddr rfl) rfl ?_
   refine run_op (loc_load1 rfl) rfl ?_
   first | refine runL_fact (s := 68) rfl (fun _ _ h => dSl_len h) (fun hlen2 => ?_) | skip
   refine run_op (loc_len rfl) rfl ?_
   refine run_op (loc_gtr rfl rfl) rfl ?_
   refine run_op (loc_move rfl) rfl ?_
   refine run_gfirst rfl rfl gdI.ok (fun hg => loc_fieldAddr rfl) rfl ?_
   refine run_gop rfl rfl gdI.ok (fun hg => loc_load1 rfl) rfl ?_
   refine run_gop rfl rfl gdI.ok (fun hg => loc_len rfl) rfl ?_
   refine run_gop rfl rfl gdI.ok (fun hg => loc_gtr rfl rfl) rfl ?_
   refine run_gleave ?_
   refine run_op (loc_or rfl rfl) rfl ?_
   refine run_nil ?_
   refine run_cond rfl (fun h3 => ?_) (fun h3 => ?_)
   ·
    refine run_seq ?_
    refine run_region ?_
    refine run_op (loc_assign rfl) rfl ?_
    refine run_nil ?_
    refine run_retP Tryz.func4 rfl rfl ?_
    exact d_B ⟨fun _ => trivial, fun _ => trivial⟩
   ·
    have hnt := h3
    refine run_skip ?_
    refine run_seq ?_
    refine run_region ?_
    refine run_op (loc_move rfl) rfl ?_
    refine run_callN rfl (dnew_spec _) rfl (fun bd hbd => ?_)
    refine run_op (loc_assign rfl) rfl ?_
    refine run_nil ?_
    refine run_seq ?_
    refine run_region ?_
    refine run_op (loc_move rfl) rfl ?_
    refine run_callM rfl (.here) (made30_spec bd _ (dice_okP hx)) rfl (fun md hmd => ?_)
    refine run_op (loc_move rfl) rfl ?_
    refine run_op (loc_extract rfl rfl) rfl ?_
    refine run_op (loc_extract rfl rfl) rfl ?_
    refine run_op (loc_extract rfl rfl) rfl ?_
    refine run_new (loc_allocOwn (by simp)) rfl (fun b4 _ => ?_)
    refine run_new (loc_allocOwn (by simp)) rfl (fun b5 _ => ?_)
    refine run_new (loc_allocOwn (by simp)) rfl (fun b18 _ => ?_)
    refine run_storeN (ho := (by show OneAll [_, _, _, _]; infer_instance)) rfl rfl (.there (.there (.here))) (by rfl) ?_
    refine run_storeN (ho := (by show OneAll [_, _, _, _]; infer_instance)) rfl rfl (.there (.here)) (by rfl) ?_
    refine run_storeN (ho := (by show OneAll [_, _, _, _, _, _, _, _]; infer_instance)) rfl rfl (.here) (by rfl) ?_
    refine run_nil ?_
    obtain ⟨hds, hdp, htt, hvo⟩ := hmd.1
    have hvs := sz_of_ok hvo.1
    have htn := htt.2.2.2.1
    have htl := htt.2.2.1
    refine run_seq ?_
    refine run_seq ?_
    refine dr_start _ (.none) [⟨[(9, none)], [], none⟩,
        ⟨[(16, none)], [], some (2, 0, false)⟩,
        ⟨[(15, none)], [], none⟩,
        ⟨[(87, some (2, false))], [2], some (3, 0, true)⟩,
        ⟨[(85, some (0, false)), (86, some (1, false)), (88, some (3, false))], [0, 1, 2, 3], none⟩,
        ⟨[(89, some (4, false))], [0, 1, 2, 3, 4], none⟩,
        ⟨[], [], none⟩] [_, _, _, _] _ rfl rfl ?_
    refine dq_pure rfl (fun s => .g rfl (.nil)) (fun s hs _ => loc_loadN rfl rfl) (by exact .nil) ?_
    refine dq_read rfl (fun s => .g rfl (.nil)) rfl rfl (fun s hs _ hm => loc_loadOwnN rfl hm (by rfl)) (by exact .nil) ?_
    refine dq_pure rfl (fun s => .g rfl (.nil)) (fun s hs _ => loc_move rfl) (by exact .nil) ?_
    refine dq_write rfl (fun s => .op rfl (.nil)) rfl rfl (fun s hs => loc_callM (doddD_spec bd _ hmd.2) rfl) (by exact .nil) ?_
    refine dq_pure rfl (fun s => .op rfl (.op rfl (.op rfl (.nil)))) (fun s hs _ => loc_buildSlice rfl rfl (.agg rfl (.agg rfl (.agg rfl (.nil)))) rfl rfl) (by exact .nil) ?_
    refine dq_pure rfl (fun s => .op rfl (.nil)) (fun s hs _ => loc_len rfl) (by exact .nil) ?_
    refine dq_pure rfl (fun s => .nil) (fun s hs _ => loc_move rfl) (by exact .nil) ?_
    refine dq_end (rs := [_, _, _, _]) () rfl (fun _ => rfl) (.nil) rfl (fun _ => rfl) (fun _ _ => ?_)
    dsimp only [outG, outM, List.map, List.set, id]
    refine run_recast (s := 89) rfl (d_sl (ys := [raw, md.1.1, oddV md.2]) (h := cSchm) rfl) ?_
    refine run_recast (s := 90) (d' := dInt .i64 3) rfl (d_int rfl) ?_
    obtain ⟨d0, hd0e⟩ : ∃ o, o = oddD md.2 := ⟨_, rfl⟩
    rw [← hd0e]
    have hd0 : okDc d0 := by rw [hd0e]; exact oddD_ok hmd.2
    have hd1 := Dc.next_ok hd0
    have hd2 := Dc.next_ok hd1
    have hd3 := Dc.next_ok hd2
    have hp1 := Dc.val_lt (d := d0) (n := 3) (by omega)
    have hp2 := Dc.val_nonneg (d := d0) (n := 3) (by omega)
    have hp3 := Dc.val_lt (d := d0.next) (n := (md.1.2.2.1.rows.length : Int) + 1) (by omega)
    have hp4 := Dc.val_nonneg (d := d0.next) (n := (md.1.2.2.1.rows.length : Int) + 1) (by omega)
    have hp5 := Dc.val_lt (d := d0.next.next) (n := 4) (by omega)
    have hp6 := Dc.val_nonneg (d := d0.next.next) (n := 4) (by omega)
    refine run_block ?_
    refine run_loopC (σ := Nat) (ks := [1, 4, 5, 10, 13, 15, 16, 17, 18, 89, 90]) (.cons rfl (.cons rfl (.cons rfl (.cons rfl (.cons rfl (.cons rfl (.cons rfl (.cons rfl (.cons rfl (.cons rfl (.cons rfl (.nil)))))))))))) (fun k => [(91, dInt .i64 (k : Nat))]) (fun k => k ≤ 3) (fun k => 3 - k) (0) ((by omega)) (.cons rfl (by first | exact fun _ _ h => h | exact d_int (by omega) | exact d_int (by simp) | exact d_intN (by omega) | exact d_any) .nil) ?_
    intro k hk ih6
    refine run_seq ?_
    refine run_region ?_
    refine run_op (loc_lss rfl rfl) rfl ?_
    refine run_nil ?_
    refine run_seq ?_
    refine run_cond rfl (fun h7 => ?_) (fun h7 => ?_)
    ·
     refine run_skip ?_
     refine run_seq ?_
     refine run_block ?_
     refine run_seq ?_
     refine run_region ?_
     first | refine run_op (loc_index rfl rfl (by first | omega | assumption | (simp only [List.length_cons, List.length_nil]; omega))) rfl ?_ | refine run_op (loc_indexI rfl rfl (by first | omega | assumption | (simp only [List.length_cons, List.length_nil]; omega))) rfl ?_
     refine run_op (loc_loadN rfl rfl) rfl ?_
     refine run_new (loc_allocOwn (by simp)) rfl (fun b8 _ => ?_)
     refine run_storeN (ho := (by show OneAll [_, _, _, _]; infer_instance)) rfl rfl (.here) (by rfl) ?_
     refine run_nil ?_
     refine run_seq ?_
     refine run_region ?_
     refine run_op (loc_move rfl) rfl ?_
     refine run_op (loc_fieldAddrOwn rfl) rfl ?_
     refine run_op (loc_loadOwn1 rfl (.there (.there (.there (.here)))) (by rfl)) rfl ?_
     refine run_op (loc_buildSlice rfl rfl (.one rfl (.one rfl (.one rfl (.nil)))) rfl rfl) rfl ?_
     first | refine runL_fact (s := 98) rfl (fun _ _ h => dSl_len h) (fun hlen9 => ?_) | skip
     refine run_op (loc_len rfl) rfl ?_
     refine run_op (loc_move rfl) rfl ?_
     refine run_nil ?_
     refine run_recast (s := 98) rfl (d_sl (ys := [idn, 1, md.1.1.servers]) (h := fI) rfl) ?_
     refine run_recast (s := 99) (d' := dInt .i64 3) rfl (d_int rfl) ?_
     refine run_block ?_
     refine run_loopC (σ := Nat) (ks := [1, 4, 5, 10, 13, 15, 16, 17, 18, 20, 89, 90, 91, 98, 99]) (.cons rfl (.cons rfl (.cons rfl (.cons rfl (.cons rfl (.cons rfl (.cons rfl (.cons rfl (.cons rfl (.cons rfl (.cons rfl (.cons rfl (.cons rfl (.cons rfl (.cons rfl (.nil)))))))))))))))) (fun u => [(100, dInt .i64 (u : Nat))]) (fun u => u ≤ 3) (fun u => 3 - u) (0) ((by omega)) (.cons rfl (by first | exact fun _ _ h => h | exact d_int (by omega) | exact d_int (by simp) | exact d_intN (by omega) | exact d_any) .nil) ?_
     intro u hu ih10
     refine run_seq ?_
     refine run_region ?_
     refine run_op (loc_lss rfl rfl) rfl ?_
     refine run_nil ?_
     refine run_seq ?_
     refine run_cond rfl (fun h11 => ?_) (fun h11 => ?_)
     ·
      refine run_skip ?_
      refine run_seq ?_
      refine run_block ?_
      refine run_seq ?_
      refine run_region ?_
      first | refine run_op (loc_index rfl rfl (by first | omega | assumption | (simp only [List.length_cons, List.length_nil]; omega))) rfl ?_ | refine run_op (loc_indexI rfl rfl (by first | omega | assumption | (simp only [List.length_cons, List.length_nil]; omega))) rfl ?_
      refine run_op (loc_load1 rfl) rfl ?_
      refine run_op (loc_assign rfl) rfl ?_
      refine run_nil ?_
      refine run_seq ?_
      refine run_region ?_
      refine run_op (loc_move rfl) rfl ?_
      refine run_op (loc_loadOwnN rfl (.here) (by rfl)) rfl ?_
      refine run_op (loc_call (snew_spec _ _) rfl) rfl ?_
      refine run_op (loc_move rfl) rfl ?_
      refine run_op (loc_extract rfl rfl) rfl ?_
      refine run_op (loc_extract rfl rfl) rfl ?_
      refine run_new (loc_allocOwn (by simp)) rfl (fun b12 _ => ?_)
      refine run_storeN (ho := (by show OneAll [_, _, _, _, _, _, _, _]; infer_instance)) rfl rfl (.here) (by rfl) ?_
      refine run_op (loc_assign rfl) rfl ?_
      refine run_nil ?_
      refine run_seq ?_
      refine run_region ?_
      refine run_op (loc_move rfl) rfl ?_
      refine run_op (loc_loadOwnN rfl (.there (.here)) (by rfl)) rfl ?_
      refine run_op (loc_call (rsnew_spec _ _) rfl) rfl ?_
      refine run_op (loc_move rfl) rfl ?_
      refine run_op (loc_extract rfl rfl) rfl ?_
      refine run_op (loc_extract rfl rfl) rfl ?_
      refine run_new (loc_allocOwn (by simp)) rfl (fun b13 _ => ?_)
      refine run_storeN (ho := (by show OneAll [_, _, _, _, _, _, _, _]; infer_instance)) rfl rfl (.here) (by rfl) ?_
      refine run_op (loc_assign rfl) rfl ?_
      refine run_nil ?_
      refine run_seq ?_
      refine run_region ?_
      refine run_op (loc_move rfl) rfl ?_
      refine run_op (loc_move rfl) rfl ?_
      refine run_op (loc_neq rfl rfl) rfl ?_
      refine run_op (loc_move rfl) rfl ?_
      refine run_gfirst rfl rfl gdI.ok (fun hg => loc_loadOwnN rfl (.there (.here)) (by rfl)) rfl ?_
      refine run_gop rfl rfl gdI.ok (fun hg => loc_loadOwnN rfl (.here) (by rfl)) rfl ?_
      refine run_gop rfl rfl gdI.ok (fun hg => loc_call (vsame_spec _ _) rfl) rfl ?_
      refine run_gop rfl rfl gdI.ok (fun hg => loc_not rfl) rfl ?_
      refine run_gleave ?_
      refine run_op (loc_or rfl rfl) rfl ?_
      refine run_nil ?_
      refine run_cond rfl (fun h14 => ?_) (fun h14 => ?_)
      · exfalso; rcases h14 with h | h; (· exact h rfl); (· exact h rfl)
      ·
       refine run_skip ?_
       refine run_inBlock ?_
       refine run_region ?_
       first | refine run_op (loc_add rfl rfl (by first | omega | assumption | (simp only [List.length_cons, List.length_nil]; omega))) rfl ?_ | refine run_op (loc_addW rfl rfl) rfl ?_
       refine run_op (loc_move rfl) rfl ?_
       refine run_nil ?_
       refine run_drop (.cons _ (.cons _ (.refl _))) ?_
       exact run_againC ih10 (u + 1) (by omega) (by omega) (.cons rfl (by first | exact fun _ _ h => h | exact d_int (by omega) | exact d_int (by simp) | exact d_intN (by omega) | exact d_any) .nil) (.cons rfl (fun _ _ x => x) (.cons rfl (fun _ _ x => x) (.cons rfl (fun _ _ x => x) (.cons rfl (fun _ _ x => x) (.cons rfl (fun _ _ x => x) (.cons rfl (fun _ _ x => x) (.cons rfl (fun _ _ x => x) (.cons rfl (fun _ _ x => x) (.cons rfl (fun _ _ x => x) (.cons rfl (fun _ _ x => x) (.cons rfl (fun _ _ x => x) (.cons rfl (fun _ _ x => x) (.cons rfl (fun _ _ x => x) (.cons rfl (fun _ _ x => x) (.cons rfl (fun _ _ x => x) (.nil))))))))))))))))
     ·
      refine run_exit rfl ?_
      refine run_inBlock ?_
      refine run_region ?_
      first | refine run_op (loc_add rfl rfl (by first | omega | assumption | (simp only [List.length_cons, List.length_nil]; omega))) rfl ?_ | refine run_op (loc_addW rfl rfl) rfl ?_
      refine run_op (loc_move rfl) rfl ?_
      refine run_nil ?_
      refine run_drop (.cons _ (.refl _)) ?_
      exact run_againC ih6 (k + 1) (by omega) (by omega) (.cons rfl (by first | exact fun _ _ h => h | exact d_int (by omega) | exact d_int (by simp) | exact d_intN (by omega) | exact d_any) .nil) (.cons rfl (fun _ _ x => x) (.cons rfl (fun _ _ x => x) (.cons rfl (fun _ _ x => x) (.cons rfl (fun _ _ x => x) (.cons rfl (fun _ _ x => x) (.cons rfl (fun _ _ x => x) (.cons rfl (fun _ _ x => x) (.cons rfl (fun _ _ x => x) (.cons rfl (fun _ _ x => x) (.cons rfl (fun _ _ x => x) (.cons rfl (fun _ _ x => x) (.nil))))))))))))
    ·
     refine run_exit rfl ?_
     refine run_seq ?_
     refine run_region ?_
     refine run_op (loc_loadOwnN rfl (.there (.here)) (by rfl)) rfl ?_
     refine run_new (loc_allocOwn (by simp)) rfl (fun b15 _ => ?_)
     refine run_storeN (ho := (by show OneAll [_, _, _, _]; infer_instance)) rfl rfl (.here) (by rfl) ?_
     refine run_nil ?_
     refine run_seq ?_
     refine dr_start _ (.none) [⟨[(27, none)], [], none⟩,
         ⟨[(128, some (0, false))], [0], some (0, 0, false)⟩,
         ⟨[(15, none)], [], none⟩,
         ⟨[(130, some (2, false))], [2], some (4, 0, true)⟩,
         ⟨[(129, some (1, false)), (131, some (3, false))], [0, 1, 2, 3], none⟩,
         ⟨[(27, none)], [0, 1, 2, 3, 4], none⟩,
         ⟨[(133, some (5, false)), (132, some (4, false))], [0, 1, 2, 3, 4, 5], some (0, 0, true)⟩] [_, _, _, _, _] _ rfl rfl ?_
     refine dq_pure rfl (fun s => .g rfl (.nil)) (fun s hs _ => loc_fieldAddrOwn rfl) (by exact .nil) ?_
     refine dq_read rfl (fun s => .op rfl (.nil)) rfl rfl (fun s hs _ hm => loc_loadOwn1 rfl hm (by rfl)) (by exact .nil) ?_
     refine dq_pure rfl (fun s => .g rfl (.nil)) (fun s hs _ => loc_move rfl) (by exact .nil) ?_
     refine dq_write rfl (fun s => .op rfl (.nil)) rfl rfl (fun s hs => loc_callM (pick_spec bd _ _ hd0 (by omega)) rfl) (by exact .nil) ?_
     first | refine dq_pure rfl (fun s => .op rfl (.op rfl (.nil))) (fun s hs _ => loc_add rfl rfl (by first | omega | assumption | (simp only [List.length_cons, List.length_nil]; omega))) (by exact .nil) ?_ | refine dq_pure rfl (fun s => .op rfl (.op rfl (.nil))) (fun s hs _ => loc_addW rfl rfl) (by exact .nil) ?_
     refine dq_pure rfl (fun s => .g rfl (.nil)) (fun s hs _ => loc_fieldAddrOwn rfl) (by exact .nil) ?_
     refine dq_write0 rfl (fun s => .op rfl (.op rfl (.nil))) rfl rfl (fun s hs => loc_store1 rfl rfl rfl) (by exact .nil) ?_
     refine dq_end (rs := [_, _, _, _, _]) () rfl (fun _ => rfl) (.nil) rfl (fun _ => rfl) (fun _ _ => ?_)
     dsimp only [outG, outM, List.map, List.set, id]
     refine run_seq ?_
     refine dr_start _ (.none) [⟨[(27, none)], [], none⟩,
         ⟨[(134, some (0, false))], [0], some (0, 0, false)⟩,
         ⟨[(15, none)], [], none⟩,
         ⟨[(27, none)], [], none⟩,
         ⟨[(137, some (3, false))], [3], some (0, 0, false)⟩,
         ⟨[(138, some (4, false))], [3, 4], none⟩,
         ⟨[(139, some (5, false))], [3, 4, 5], none⟩,
         ⟨[(136, some (2, false)), (140, some (6, false))], [2, 3, 4, 5, 6], some (4, 0, true)⟩,
         ⟨[(135, some (1, false)), (141, some (7, false))], [0, 1, 2, 3, 4, 5, 6, 7], none⟩,
         ⟨[(27, none)], [0, 1, 2, 3, 4, 5, 6, 7, 8], none⟩,
         ⟨[(143, some (9, false)), (142, some (8, false))], [0, 1, 2, 3, 4, 5, 6, 7, 8, 9], some (0, 0, true)⟩] [_, _, _, _, _] _ rfl rfl ?_
     refine dq_pure rfl (fun s => .g rfl (.nil)) (fun s hs _ => loc_fieldAddrOwn rfl) (by exact .nil) ?_
     refine dq_read rfl (fun s => .op rfl (.nil)) rfl rfl (fun s hs _ hm => loc_loadOwn1 rfl hm (by rfl)) (by exact .nil) ?_
     refine dq_pure rfl (fun s => .g rfl (.nil)) (fun s hs _ => loc_move rfl) (by exact .nil) ?_
     refine dq_pure rfl (fun s => .g rfl (.nil)) (fun s hs _ => loc_fieldAddrOwn rfl) (by exact .nil) ?_
     refine dq_read rfl (fun s => .op rfl (.nil)) rfl rfl (fun s hs _ hm => loc_loadOwn1 rfl hm (by rfl)) (by exact .nil) ?_
     refine dq_pure rfl (fun s => .op rfl (.nil)) (fun s hs _ => loc_len rfl) (by exact .nil) ?_
     first | refine dq_pure rfl (fun s => .op rfl (.nil)) (fun s hs _ => loc_add rfl rfl (by first | omega | assumption | (simp only [List.length_cons, List.length_nil]; omega))) (by exact .nil) ?_ | refine dq_pure rfl (fun s => .op rfl (.nil)) (fun s hs _ => loc_addW rfl rfl) (by exact .nil) ?_
     refine dq_write rfl (fun s => .op rfl (.op rfl (.nil))) rfl rfl (fun s hs => loc_callM (pick_spec bd _ _ hd1 (by omega)) rfl) (by exact .nil) ?_
     refine dq_pure rfl (fun s => .op rfl (.op rfl (.nil))) (fun s hs _ => loc_sliceTo rfl rfl (by first | omega | assumption | (simp only [List.length_cons, List.length_nil]; omega))) (by exact .nil) ?_
     refine dq_pure rfl (fun s => .g rfl (.nil)) (fun s hs _ => loc_fieldAddrOwn rfl) (by exact .nil) ?_
     refine dq_write0 rfl (fun s => .op rfl (.op rfl (.nil))) rfl rfl (fun s hs => loc_store1 rfl rfl rfl) (by exact .nil) ?_
     refine dq_end (rs := [_, _, _, _, _]) () rfl (fun _ => rfl) (.nil) rfl (fun _ => rfl) (fun _ _ => ?_)
     dsimp only [outG, outM, List.map, List.set, id]
     refine run_seq ?_
     refine run_region ?_
     refine run_op (loc_loadOwnN rfl (.there (.there (.here))) (by rfl)) rfl ?_
     refine run_new (loc_allocOwn (by simp)) rfl (fun b16 _ => ?_)
     refine run_storeN (ho := (by show OneAll [_, _, _, _]; infer_instance)) rfl rfl (.here) (by rfl) ?_
     refine run_nil ?_
     refine run_seq ?_
     refine run_region ?_
     refine run_op (loc_fieldAddrOwn rfl) rfl ?_
     refine run_op (loc_loadOwn1 rfl (.here) (by rfl)) rfl ?_
     first | refine run_op (loc_add rfl rfl (by first | omega | assumption | (simp only [List.length_cons, List.length_nil]; omega))) rfl ?_ | refine run_op (loc_addW rfl rfl) rfl ?_
     refine run_op (loc_fieldAddrOwn rfl) rfl ?_
     refine run_store1 rfl rfl (.here) (by rfl) ?_
     refine run_nil ?_
     refine run_seq ?_
     refine run_region ?_
     refine run_op (loc_buildSlice rfl rfl (.one rfl (.one rfl (.one rfl (.one rfl (.nil))))) rfl rfl) rfl ?_
     refine runL_recast (s := 149) rfl (d_sl (ys := [2, 3, 4, 7]) (h := fI) rfl) ?_
     refine run_op (loc_move rfl) rfl ?_
     refine run_callM rfl (.there (.there (.there (.there (.there (.here)))))) (pick_spec bd _ _ hd2 (by omega)) rfl (fun s17 hs17 => ?_)
     first | refine run_op (loc_index rfl rfl (by first | omega | assumption | (simp only [List.length_cons, List.length_nil]; omega))) rfl ?_ | refine run_op (loc_indexI rfl rfl (by first | omega | assumption | (simp only [List.length_cons, List.length_nil]; omega))) rfl ?_
     refine run_op (loc_load1 rfl) rfl ?_
     refine run_op (loc_fieldAddrOwn rfl) rfl ?_
     refine run_op (loc_fieldAddrOwn rfl) rfl ?_
     refine run_store1 rfl rfl (.here) (by rfl) ?_
     refine run_nil ?_
     refine run_seq ?_
     refine run_seq ?_
     refine run_region ?_
     refine run_op (loc_loadOwnN rfl (.there (.there (.there (.here)))) (by rfl)) rfl ?_
     refine run_op (loc_loadOwnN rfl (.there (.here)) (by rfl)) rfl ?_
     refine run_op (loc_loadOwnN rfl (.here) (by rfl)) rfl ?_
     refine run_op (LocP.imp (d' := dTab tabZ) (loc_build (.nil)) (by exact d_aggU (.cons (d_int rfl) (.cons (d_int rfl) (.cons (d_int rfl) (.cons d_nil .nil)))))) rfl ?_
     refine run_op (loc_buildSlice rfl rfl (.agg rfl (.agg rfl (.agg rfl (.agg rfl (.nil))))) rfl rfl) rfl ?_
     first | refine runL_fact (s := 160) rfl (fun _ _ h => dSl_len h) (fun hlen18 => ?_) | skip
     refine run_op (loc_len rfl) rfl ?_
     refine run_op (loc_move rfl) rfl ?_
     refine run_nil ?_
     refine run_recast (s := 160) rfl (d_sl (ys := [md.1.2.2.1, (⟨md.1.2.2.1.number + d0.val 3, md.1.2.2.1.p, md.1.2.2.1.width, md.1.2.2.1.rows.take (d0.next.val ((md.1.2.2.1.rows.length : Int) + 1)).toNat⟩ : Tab), (⟨md.1.2.2.1.number + 5, (([2, 3, 4, 7] : List Int)[(d0.next.next.val 4).toNat]?.getD default), md.1.2.2.1.width, md.1.2.2.1.rows⟩ : Tab), tabZ]) (h := cTab) rfl) ?_
     refine run_recast (s := 161) (d' := dInt .i64 4) rfl (d_int rfl) ?_
     refine run_block ?_
     refine run_loopC (σ := Nat) (ks := [4, 5, 10, 13, 15, 17, 18, 160, 161]) (.cons rfl (.cons rfl (.cons rfl (.cons rfl (.cons rfl (.cons rfl (.cons rfl (.cons rfl (.cons rfl (.nil)))))))))) (fun k => [(162, dInt .i64 (k : Nat))]) (fun k => k ≤ 4) (fun k => 4 - k) (0) ((by omega)) (.cons rfl (by first | exact fun _ _ h => h | exact d_int (by omega) | exact d_int (by simp) | exact d_intN (by omega) | exact d_any) .nil) ?_
     intro k hk ih19
     refine run_seq ?_
     refine run_region ?_
     refine run_op (loc_lss rfl rfl) rfl ?_
     refine run_nil ?_
     refine run_seq ?_
     refine run_cond rfl (fun h20 => ?_) (fun h20 => ?_)
     ·
      refine run_skip ?_
      refine run_seq ?_
      refine run_block ?_
      refine run_seq ?_
      refine run_region ?_
      first | refine run_op (loc_index rfl rfl (by first | omega | assumption | (simp only [List.length_cons, List.length_nil]; omega))) rfl ?_ | refine run_op (loc_indexI rfl rfl (by first | omega | assumption | (simp only [List.length_cons, List.length_nil]; omega))) rfl ?_
      refine run_op (loc_loadN rfl rfl) rfl ?_
      refine run_new (loc_allocOwn (by simp)) rfl (fun b21 _ => ?_)
      refine run_storeN (ho := (by show OneAll [_, _, _, _]; infer_instance)) rfl rfl (.here) (by rfl) ?_
      refine run_nil ?_
      refine run_seq ?_
      refine run_region ?_
      refine run_op (loc_loadOwnN rfl (.there (.there (.there (.here)))) (by rfl)) rfl ?_
      refine run_op (loc_loadOwnN rfl (.here) (by rfl)) rfl ?_
      refine run_op (loc_call (vload_spec md.1.2.2.2 _ hvs) rfl) rfl ?_
      refine run_op (loc_move rfl) rfl ?_
      refine run_op (loc_extract rfl rfl) rfl ?_
      refine run_op (loc_extract rfl rfl) rfl ?_
      refine run_new (loc_allocOwn (by simp)) rfl (fun b22 _ => ?_)
      refine run_storeN (ho := (by show OneAll [_, _, _, _, _, _, _, _]; infer_instance)) rfl rfl (.here) (by rfl) ?_
      refine run_op (loc_assign rfl) rfl ?_
      refine run_nil ?_
      refine run_seq ?_
      refine run_region ?_
      refine run_op (loc_loadOwnN rfl (.there (.there (.there (.there (.here))))) (by rfl)) rfl ?_
      refine run_op (loc_loadOwnN rfl (.there (.here)) (by rfl)) rfl ?_
      refine run_op (loc_call (rload_spec md.1.2.2.2 _ hvo) rfl) rfl ?_
      refine run_op (loc_move rfl) rfl ?_
      refine run_op (loc_extract rfl rfl) rfl ?_
      refine run_op (loc_extract rfl rfl) rfl ?_
      refine run_new (loc_allocOwn (by simp)) rfl (fun b23 _ => ?_)
      refine run_storeN (ho := (by show OneAll [_, _, _, _, _, _, _, _]; infer_instance)) rfl rfl (.here) (by rfl) ?_
      refine run_op (loc_assign rfl) rfl ?_
      refine run_nil ?_
      refine run_seq ?_
      refine run_region ?_
      refine run_op (loc_move rfl) rfl ?_
      refine run_op (loc_move rfl) rfl ?_
      refine run_op (loc_neq rfl rfl) rfl ?_
      refine run_op (loc_move rfl) rfl ?_
      refine run_gfirst rfl rfl gdI.ok (fun hg => loc_loadOwnN rfl (.there (.here)) (by rfl)) rfl ?_
      refine run_gop rfl rfl gdI.ok (fun hg => loc_loadOwnN rfl (.here) (by rfl)) rfl ?_
      refine run_gop rfl rfl gdI.ok (fun hg => loc_call (vsame_spec _ _) rfl) rfl ?_
      refine run_gop rfl rfl gdI.ok (fun hg => loc_not rfl) rfl ?_
      refine run_gleave ?_
      refine run_op (loc_or rfl rfl) rfl ?_
      refine run_nil ?_
      refine run_cond rfl (fun h24 => ?_) (fun h24 => ?_)
      · exfalso; rcases h24 with h | h; (· exact h rfl); (· exact h rfl)
      ·
       refine run_skip ?_
       refine run_inBlock ?_
       refine run_region ?_
       first | refine run_op (loc_add rfl rfl (by first | omega | assumption | (simp only [List.length_cons, List.length_nil]; omega))) rfl ?_ | refine run_op (loc_addW rfl rfl) rfl ?_
       refine run_op (loc_move rfl) rfl ?_
       refine run_nil ?_
       refine run_drop (.cons _ (.cons _ (.cons _ (.refl _)))) ?_
       exact run_againC ih19 (k + 1) (by omega) (by omega) (.cons rfl (by first | exact fun _ _ h => h | exact d_int (by omega) | exact d_int (by simp) | exact d_intN (by omega) | exact d_any) .nil) (.cons rfl (fun _ _ x => x) (.cons rfl (fun _ _ x => x) (.cons rfl (fun _ _ x => x) (.cons rfl (fun _ _ x => x) (.cons rfl (fun _ _ x => x) (.cons rfl (fun _ _ x => x) (.cons rfl (fun _ _ x => x) (.cons rfl (fun _ _ x => x) (.cons rfl (fun _ _ x => x) (.nil))))))))))
     ·
      refine run_exit rfl ?_
      refine run_seq ?_
      refine run_seq ?_
      refine run_region ?_
      refine run_op (loc_move rfl) rfl ?_
      refine run_op (loc_fieldAddrOwn rfl) rfl ?_
      refine run_op (loc_loadOwn1 rfl (.there (.there (.there (.here)))) (by rfl)) rfl ?_
      refine run_op (loc_fieldAddrOwn rfl) rfl ?_
      refine run_op (loc_loadOwn1 rfl (.there (.there (.there (.here)))) (by rfl)) rfl ?_
      first | refine run_op (loc_add rfl rfl (by first | omega | assumption | (simp only [List.length_cons, List.length_nil]; omega))) rfl ?_ | refine run_op (loc_addW rfl rfl) rfl ?_
      refine run_op (loc_buildSlice rfl rfl (.one rfl (.one rfl (.one rfl (.nil)))) rfl rfl) rfl ?_
      first | refine runL_fact (s := 194) rfl (fun _ _ h => dSl_len h) (fun hlen25 => ?_) | skip
      refine run_op (loc_len rfl) rfl ?_
      refine run_op (loc_move rfl) rfl ?_
      refine run_nil ?_
      refine run_recast (s := 194) rfl (d_sl (ys := [ver, md.1.2.2.1.number, md.1.2.2.1.number + 1]) (h := fI) rfl) ?_
      refine run_recast (s := 195) (d' := dInt .i64 3) rfl (d_int rfl) ?_
      refine run_block ?_
      refine run_loopC (σ := Nat) (ks := [5, 10, 13, 15, 17, 18, 194, 195]) (.cons rfl (.cons rfl (.cons rfl (.cons rfl (.cons rfl (.cons rfl (.cons rfl (.cons rfl (.nil))))))))) (fun k => [(196, dInt .i64 (k : Nat))]) (fun k => k ≤ 3) (fun k => 3 - k) (0) ((by omega)) (.cons rfl (by first | exact fun _ _ h => h | exact d_int (by omega) | exact d_int (by simp) | exact d_intN (by omega) | exact d_any) .nil) ?_
      intro k hk ih26
      refine run_seq ?_
      refine run_region ?_
      refine run_op (loc_lss rfl rfl) rfl ?_
      refine run_nil ?_
      refine run_seq ?_
      refine run_cond rfl (fun h27 => ?_) (fun h27 => ?_)
      ·
       refine run_skip ?_
       refine run_seq ?_
       refine run_block ?_
       refine run_seq ?_
       refine run_region ?_
       first | refine run_op (loc_index rfl rfl (by first | omega | assumption | (simp only [List.length_cons, List.length_nil]; omega))) rfl ?_ | refine run_op (loc_indexI rfl rfl (by first | omega | assumption | (simp only [List.length_cons, List.length_nil]; omega))) rfl ?_
       refine run_op (loc_load1 rfl) rfl ?_
       refine run_op (loc_assign rfl) rfl ?_
       refine run_nil ?_
       refine run_seq ?_
       refine run_region ?_
       refine run_op (loc_loadOwnN rfl (.there (.there (.here))) (by rfl)) rfl ?_
       refine run_op (loc_move rfl) rfl ?_
       refine run_op (loc_call (vdrop_spec md.1.2.2.2 _ hvs) rfl) rfl ?_
       refine run_op (loc_move rfl) rfl ?_
       refine run_op (loc_extract rfl rfl) rfl ?_
       refine run_op (loc_extract rfl rfl) rfl ?_
       refine run_new (loc_allocOwn (by simp)) rfl (fun b28 _ => ?_)
       refine run_storeN (ho := (by show OneAll [_, _, _, _, _, _, _, _]; infer_instance)) rfl rfl (.here) (by rfl) ?_
       refine run_op (loc_assign rfl) rfl ?_
       refine run_nil ?_
       refine run_seq ?_
       refine run_region ?_
       refine run_op (loc_loadOwnN rfl (.there (.there (.there (.here)))) (by rfl)) rfl ?_
       refine run_op (loc_move rfl) rfl ?_
       refine run_op (loc_call (rdrop_spec md.1.2.2.2 _ hvo) rfl) rfl ?_
       refine run_op (loc_move rfl) rfl ?_
       refine run_op (loc_extract rfl rfl) rfl ?_
       refine run_op (loc_extract rfl rfl) rfl ?_
       refine run_new (loc_allocOwn (by simp)) rfl (fun b29 _ => ?_)
       refine run_storeN (ho := (by show OneAll [_, _, _, _, _, _, _, _]; infer_instance)) rfl rfl (.here) (by rfl) ?_
       refine run_op (loc_assign rfl) rfl ?_
       refine run_nil ?_
       refine run_seq ?_
       refine run_region ?_
       refine run_op (loc_move rfl) rfl ?_
       refine run_op (loc_move rfl) rfl ?_
       refine run_op (loc_neq rfl rfl) rfl ?_
       refine run_op (loc_move rfl) rfl ?_
       refine run_gfirst rfl rfl gdI.ok (fun hg => loc_loadOwnN rfl (.there (.here)) (by rfl)) rfl ?_
       refine run_gop rfl rfl gdI.ok (fun hg => loc_loadOwnN rfl (.here) (by rfl)) rfl ?_
       refine run_gop rfl rfl gdI.ok (fun hg => loc_call (vsame_spec _ _) rfl) rfl ?_
       refine run_gop rfl rfl gdI.ok (fun hg => loc_not rfl) rfl ?_
       refine run_gleave ?_
       refine run_op (loc_or rfl rfl) rfl ?_
       refine run_nil ?_
       refine run_cond rfl (fun h30 => ?_) (fun h30 => ?_)
       · exfalso; rcases h30 with h | h; (· exact h rfl); (· exact h rfl)
       ·
        refine run_skip ?_
        refine run_inBlock ?_
        refine run_region ?_
        first | refine run_op (loc_add rfl rfl (by first | omega | assumption | (simp only [List.length_cons, List.length_nil]; omega))) rfl ?_ | refine run_op (loc_addW rfl rfl) rfl ?_
        refine run_op (loc_move rfl) rfl ?_
        refine run_nil ?_
        refine run_drop (.cons _ (.cons _ (.refl _))) ?_
        exact run_againC ih26 (k + 1) (by omega) (by omega) (.cons rfl (by first | exact fun _ _ h => h | exact d_int (by omega) | exact d_int (by simp) | exact d_intN (by omega) | exact d_any) .nil) (.cons rfl (fun _ _ x => x) (.cons rfl (fun _ _ x => x) (.cons rfl (fun _ _ x => x) (.cons rfl (fun _ _ x => x) (.cons rfl (fun _ _ x => x) (.cons rfl (fun _ _ x => x) (.cons rfl (fun _ _ x => x) (.cons rfl (fun _ _ x => x) (.nil)))))))))
      ·
       refine run_exit rfl ?_
       refine run_seq ?_
       refine run_seq ?_
       refine dr_start _ (.two (τ1 := Nte × Dc) (τ2 := Nte × Dc) 4 8 (fun r => (r.1.query.length ≤ 2000 ∧ r.1.values = []) ∧ okDc r.2) (fun r => (r.1.query.length ≤ 2000 ∧ r.1.values = []) ∧ okDc r.2)) [⟨[(10, none)], [], none⟩,
           ⟨[(15, none)], [], none⟩,
           ⟨[(18, none)], [], some (2, 0, false)⟩,
           ⟨[(17, none)], [], some (3, 0, false)⟩,
           ⟨[(223, some (1, false)), (224, some (2, false)), (225, some (3, false))], [1, 2, 3], some (5, 0, true)⟩,
           ⟨[(15, none)], [], none⟩,
           ⟨[(18, none)], [], some (2, 0, false)⟩,
           ⟨[(17, none)], [], some (3, 0, false)⟩,
           ⟨[(227, some (5, false)), (228, some (6, false)), (229, some (7, false))], [1, 2, 3, 4, 5, 6, 7], some (5, 1, true)⟩,
           ⟨[(222, some (0, false)), (226, some (4, false)), (230, some (8, false))], [0, 1, 2, 3, 4, 5, 6, 7, 8], none⟩,
           ⟨[(231, some (9, false))], [0, 1, 2, 3, 4, 5, 6, 7, 8, 9], none⟩,
           ⟨[], [], none⟩] [_, _, _, _, _, _] _ rfl rfl ?_
       refine dq_pure rfl (fun s => .g rfl (.nil)) (fun s hs _ => loc_loadN rfl rfl) (by exact .cons (.inr fun _ _ _ => rfl) (.cons (.inr fun _ _ _ => rfl) (.nil))) ?_
       refine dq_pure rfl (fun s => .g rfl (.nil)) (fun s hs _ => loc_move rfl) (by exact .cons (.inr fun _ _ _ => rfl) (.cons (.inr fun _ _ _ => rfl) (.nil))) ?_
       refine dq_read rfl (fun s => .g rfl (.nil)) rfl rfl (fun s hs _ hm => loc_loadOwnN rfl hm (by rfl)) (by exact .cons (.inr fun _ _ _ => rfl) (.cons (.inr fun _ _ _ => rfl) (.nil))) ?_
       refine dq_read rfl (fun s => .g rfl (.nil)) rfl rfl (fun s hs _ hm => loc_loadOwnN rfl hm (by rfl)) (by exact .cons (.inr fun _ _ _ => rfl) (.cons (.inr fun _ _ _ => rfl) (.nil))) ?_
       refine dq_choose Prod.fst (fun s t => (t, s.2)) rfl (fun _ _ => ⟨rfl, id, rfl⟩) (fun s => .op rfl (.op rfl (.op rfl (.nil)))) rfl rfl (fun s hs => loc_callM (dquery_spec bd _ hd3 md.1.2.2.2 md.1.2.2.1 hvo htt.1 htt.2.2.1.1 (by omega)) rfl) (by exact .cons (.inl rfl) (.cons (.inr (.inr fun ⟨a, b⟩ ⟨c, d⟩ h => by have h : c = a := h; subst h; exact rfl)) (.nil))) (fun _ _ => rfl) ?_
       refine dq_pure rfl (fun s => .g rfl (.nil)) (fun s hs _ => loc_move rfl) (by exact .cons (.inr fun _ _ _ => rfl) (.cons (.inr fun _ _ _ => rfl) (.nil))) ?_
       refine dq_read rfl (fun s => .g rfl (.nil)) rfl rfl (fun s hs _ hm => loc_loadOwnN rfl hm (by rfl)) (by exact .cons (.inr fun _ _ _ => rfl) (.cons (.inr fun _ _ _ => rfl) (.nil))) ?_
       refine dq_read rfl (fun s => .g rfl (.nil)) rfl rfl (fun s hs _ hm => loc_loadOwnN rfl hm (by rfl)) (by exact .cons (.inr fun _ _ _ => rfl) (.cons (.inr fun _ _ _ => rfl) (.nil))) ?_
       refine dq_choose Prod.snd (fun s t => (s.1, t)) rfl (fun _ _ => ⟨rfl, id, rfl⟩) (fun s => .op rfl (.op rfl (.op rfl (.nil)))) rfl rfl (fun s hs => loc_callM (dquery_spec bd _ (show (s.1.1.query.length ≤ 2000 ∧ s.1.1.values = []) ∧ okDc s.1.2 from hs 4 (List.mem_cons_self ..) rfl).2 md.1.2.2.2 md.1.2.2.1 hvo htt.1 htt.2.2.1.1 (by omega)) rfl) (by exact .cons (.inr (.inl rfl)) (.cons (.inl rfl) (.nil))) (fun _ _ => rfl) ?_
       refine dq_pure rfl (fun s => .op rfl (.op rfl (.op rfl (.nil)))) (fun s hs _ => loc_buildSlice rfl rfl (.agg rfl (.agg rfl (.agg rfl (.nil)))) rfl rfl) (by exact .cons (.inl rfl) (.cons (.inl rfl) (.nil))) ?_
       refine dq_pure rfl (fun s => .op rfl (.nil)) (fun s hs _ => loc_len rfl) (by exact .cons (.inl rfl) (.cons (.inl rfl) (.nil))) ?_
       refine dq_pure rfl (fun s => .nil) (fun s hs _ => loc_move rfl) (by exact .cons (.inr fun _ _ _ => rfl) (.cons (.inr fun _ _ _ => rfl) (.nil))) ?_
       refine dq_end (rs := [_, _, _, _, _, _]) ((nte0, d0), (nte0, d0)) rfl (fun _ => rfl) (.cons rfl (.cons rfl (.nil))) rfl (fun _ => rfl) (fun s9 h9 => ?_)
       obtain ⟨q1, q2⟩ := s9
       obtain ⟨hq1, hq2⟩ := Ch.two_good rfl h9
       dsimp only [outG, outM, List.map, List.set, id]
       dsimp only at hq1 hq2
       have hqs : ∀ x ∈ [nt, q1.1, q2.1], x.query.length ≤ 2000 ∧ x.values.length ≤ 8 := fun x hx => by rcases List.mem_cons.1 hx with rfl | hx; (· omega); (· rcases List.mem_cons.1 hx with rfl | hx; (· exact ⟨hq1.1.1, by rw [hq1.1.2]; simp⟩); (· rw [List.mem_singleton.1 hx]; exact ⟨hq2.1.1, by rw [hq2.1.2]; simp⟩))
       refine run_recast (s := 231) rfl (d_sl (ys := [nt, q1.1, q2.1]) (h := cNte) rfl) ?_
       refine run_recast (s := 232) (d' := dInt .i64 3) rfl (d_int rfl) ?_
       refine run_block ?_
       refine run_loopC (σ := Nat) (ks := [5, 13, 15, 18, 231, 232]) (.cons rfl (.cons rfl (.cons rfl (.cons rfl (.cons rfl (.cons rfl (.nil))))))) (fun k => [(233, dInt .i64 (k : Nat))]) (fun k => k ≤ 3) (fun k => 3 - k) (0) ((by omega)) (.cons rfl (by first | exact fun _ _ h => h | exact d_int (by omega) | exact d_int (by simp) | exact d_intN (by omega) | exact d_any) .nil) ?_
       intro k hk ih31
       refine run_seq ?_
       refine run_region ?_
       refine run_op (loc_lss rfl rfl) rfl ?_
       refine run_nil ?_
       refine run_seq ?_
       refine run_cond rfl (fun h32 => ?_) (fun h32 => ?_)
       ·
        have hqk := hqs _ (getD_mem (xs := [nt, q1.1, q2.1]) (k := k) (by simp; omega))
        refine run_skip ?_
        refine run_seq ?_
        refine run_block ?_
        refine run_seq ?_
        refine run_region ?_
        first | refine run_op (loc_index rfl rfl (by first | omega | assumption | (simp only [List.length_cons, List.length_nil]; omega))) rfl ?_ | refine run_op (loc_indexI rfl rfl (by first | omega | assumption | (simp only [List.length_cons, List.length_nil]; omega))) rfl ?_
        refine run_op (loc_loadN rfl rfl) rfl ?_
        refine run_new (loc_allocOwn (by simp)) rfl (fun b33 _ => ?_)
        refine run_storeN (ho := (by show OneAll [_, _, _, _, _, _, _, _]; infer_instance)) rfl rfl (.here) (by rfl) ?_
        refine run_nil ?_
        refine run_seq ?_
        refine run_region ?_
        refine run_op (loc_loadOwnN rfl (.there (.there (.there (.here)))) (by rfl)) rfl ?_
        refine run_op (loc_loadOwnN rfl (.here) (by rfl)) rfl ?_
        refine run_op (loc_call (vask_spec md.1.2.2.2 _ hvs (by omega)) rfl) rfl ?_
        refine run_op (loc_move rfl) rfl ?_
        refine run_op (loc_extract rfl rfl) rfl ?_
        refine run_op (loc_extract rfl rfl) rfl ?_
        refine run_new (loc_allocOwn (by simp)) rfl (fun b34 _ => ?_)
        refine run_storeN (ho := (by show OneAll [_, _, _, _, _, _, _, _]; infer_instance)) rfl rfl (.here) (by rfl) ?_
        refine run_op (loc_assign rfl) rfl ?_
        refine run_nil ?_
        refine run_seq ?_
        refine run_region ?_
        refine run_op (loc_loadOwnN rfl (.there (.there (.there (.there (.here))))) (by rfl)) rfl ?_
        refine run_op (loc_loadOwnN rfl (.there (.here)) (by rfl)) rfl ?_
        refine run_op (loc_call (rask_spec md.1.2.2.2 _ hvo (by omega)) rfl) rfl ?_
        refine run_op (loc_move rfl) rfl ?_
        refine run_op (loc_extract rfl rfl) rfl ?_
        refine run_op (loc_extract rfl rfl) rfl ?_
        refine run_new (loc_allocOwn (by simp)) rfl (fun b35 _ => ?_)
        refine run_storeN (ho := (by show OneAll [_, _, _, _, _, _, _, _]; infer_instance)) rfl rfl (.here) (by rfl) ?_
        refine run_op (loc_assign rfl) rfl ?_
        refine run_nil ?_
        refine run_seq ?_
        refine dr_start _ (.none) [⟨[(44, none)], [], none⟩,
            ⟨[(46, none)], [], none⟩,
            ⟨[(249, some (0, false)), (250, some (1, false))], [0, 1], none⟩,
            ⟨[(251, some (2, false))], [0, 1, 2], none⟩,
            ⟨[(43, none)], [0, 1, 2, 3], some (1, 0, false)⟩,
            ⟨[(45, none)], [0, 1, 2, 3], some (0, 0, false)⟩,
            ⟨[(253, some (4, true)), (254, some (5, true))], [0, 1, 2, 3, 4, 5], none⟩,
            ⟨[(255, some (6, true))], [0, 1, 2, 3, 4, 5, 6], none⟩,
            ⟨[(252, some (3, false)), (256, some (7, false))], [0, 1, 2, 3, 4, 5, 6, 7], none⟩,
            ⟨[(257, some (8, false))], [0, 1, 2, 3, 4, 5, 6, 7, 8], none⟩,
            ⟨[(42, none)], [0, 1, 2, 3, 4, 5, 6, 7, 8, 9], some (2, 0, false)⟩,
            ⟨[(259, some (10, true))], [0, 1, 2, 3, 4, 5, 6, 7, 8, 9, 10], none⟩,
            ⟨[(42, none)], [0, 1, 2, 3, 4, 5, 6, 7, 8, 9], some (2, 0, false)⟩,
            ⟨[(261, some (12, true))], [0, 1, 2, 3, 4, 5, 6, 7, 8, 9, 10, 11, 12], none⟩,
            ⟨[(260, some (11, true)), (262, some (13, true))], [0, 1, 2, 3, 4, 5, 6, 7, 8, 9, 10, 11, 12, 13], none⟩,
            ⟨[(263, some (14, true))], [0, 1, 2, 3, 4, 5, 6, 7, 8, 9, 10, 11, 12, 13, 14], none⟩,
            ⟨[(258, some (9, false)), (264, some (15, false))], [0, 1, 2, 3, 4, 5, 6, 7, 8, 9, 10, 11, 12, 13, 14, 15], none⟩] [_, _, _, _, _, _, _, _, _] _ rfl rfl ?_
        refine dq_pure rfl (fun s => .g rfl (.nil)) (fun s hs _ => loc_move rfl) (by exact .nil) ?_
        refine dq_pure rfl (fun s => .g rfl (.nil)) (fun s hs _ => loc_move rfl) (by exact .nil) ?_
        refine dq_pure rfl (fun s => .op rfl (.op rfl (.nil))) (fun s hs _ => loc_neq rfl rfl) (by exact .nil) ?_
        refine dq_pure rfl (fun s => .op rfl (.nil)) (fun s hs _ => loc_move rfl) (by exact .nil) ?_
        refine dq_gread rfl (fun s => .g rfl (.nil)) rfl rfl rfl (fun _ => gdI.ok) (fun s hs hg _ hm => loc_loadOwnN rfl hm (by rfl)) (by exact .nil) ?_
        refine dq_gread rfl (fun s => .g rfl (.nil)) rfl rfl rfl (fun _ => gdI.ok) (fun s hs hg _ hm => loc_loadOwnN rfl hm (by rfl)) (by exact .nil) ?_
        refine dq_gpure rfl (fun s => .opU rfl (.opU rfl (.nil))) rfl (fun _ => gdI.ok) (fun s hs hg _ => loc_call (vsame_spec _ _) rfl) (by exact .nil) ?_
        refine dq_gpure rfl (fun s => .opU rfl (.nil)) rfl (fun _ => gdI.ok) (fun s hs hg _ => loc_not rfl) (by exact .nil) ?_
        refine dq_pure rfl (fun s => .op rfl (.op rfl (.nil))) (fun s hs _ => loc_or rfl rfl) (by exact .nil) ?_
        refine dq_pure rfl (fun s => .op rfl (.nil)) (fun s hs _ => loc_move rfl) (by exact .nil) ?_
        refine dq_gread rfl (fun s => .g rfl (.nil)) rfl rfl rfl (fun _ => gdI.ok) (fun s hs hg _ hm => loc_loadOwnN rfl hm (by rfl)) (by exact .nil) ?_
        refine dq_gpure rfl (fun s => .opU rfl (.nil)) rfl (fun _ => gdI.ok) (fun s hs hg _ => loc_call (numbers_spec _ ⟨by omega, by omega⟩) rfl) (by exact .nil) ?_
        refine dq_gread rfl (fun s => .g rfl (.nil)) rfl rfl rfl (fun _ => gdI.ok) (fun s hs hg _ hm => loc_loadOwnN rfl hm (by rfl)) (by exact .nil) ?_
        refine dq_gpure rfl (fun s => .opU rfl (.nil)) rfl (fun _ => gdI.ok) (fun s hs hg _ => loc_call (rnums_spec _ ⟨by omega, by omega⟩) rfl) (by exact .nil) ?_
        refine dq_gpure rfl (fun s => .opU rfl (.opU rfl (.nil))) rfl (fun _ => gdI.ok) (fun s hs hg _ => loc_call (ints30_spec _ _) rfl) (by exact .nil) ?_
        refine dq_gpure rfl (fun s => .opU rfl (.nil)) rfl (fun _ => gdI.ok) (fun s hs hg _ => loc_not rfl) (by exact .nil) ?_
        refine dq_pure rfl (fun s => .op rfl (.op rfl (.nil))) (fun s hs _ => loc_or rfl rfl) (by exact .nil) ?_
        refine dq_end (rs := [_, _, _, _, _, _, _, _, _]) () rfl (fun _ => rfl) (.nil) rfl (fun _ => rfl) (fun _ _ => ?_)
        dsimp only [outG, outM, List.map, List.set, id]
        refine run_cond rfl (fun h36 => ?_) (fun h36 => ?_)
        · exfalso; rcases h36 with (h | h) | h; (· exact h rfl); (· exact h rfl); (· exact h rfl)
        ·
         refine run_skip ?_
         refine run_inBlock ?_
         refine run_region ?_
         first | refine run_op (loc_add rfl rfl (by first | omega | assumption | (simp only [List.length_cons, List.length_nil]; omega))) rfl ?_ | refine run_op (loc_addW rfl rfl) rfl ?_
         refine run_op (loc_move rfl) rfl ?_
         refine run_nil ?_
         refine run_drop (.cons _ (.cons _ (.cons _ (.refl _)))) ?_
         exact run_againC ih31 (k + 1) (by omega) (by omega) (.cons rfl (by first | exact fun _ _ h => h | exact d_int (by omega) | exact d_int (by simp) | exact d_intN (by omega) | exact d_any) .nil) (.cons rfl (fun _ _ x => x) (.cons rfl (fun _ _ x => x) (.cons rfl (fun _ _ x => x) (.cons rfl (fun _ _ x => x) (.cons rfl (fun _ _ x => x) (.cons rfl (fun _ _ x => x) (.nil)))))))
       ·
        refine run_exit rfl ?_
        refine run_seq ?_
        refine run_seq ?_
        refine dr_start _ (.none) [⟨[(18, none)], [], some (2, 0, false)⟩,
            ⟨[(18, none)], [], some (2, 0, false)⟩,
            ⟨[(268, some (1, false))], [1], none⟩,
            ⟨[(267, some (0, false)), (269, some (2, false))], [0, 1, 2], none⟩,
            ⟨[(270, some (3, false))], [0, 1, 2, 3], none⟩,
            ⟨[], [], none⟩] [_, _, _, _, _, _] _ rfl rfl ?_
        refine dq_read rfl (fun s => .g rfl (.nil)) rfl rfl (fun s hs _ hm => loc_loadOwnN rfl hm (by rfl)) (by exact .nil) ?_
        refine dq_read rfl (fun s => .g rfl (.nil)) rfl rfl (fun s hs _ hm => loc_loadOwnN rfl hm (by rfl)) (by exact .nil) ?_
        refine dq_pure rfl (fun s => .op rfl (.nil)) (fun s hs _ => loc_call (rcrash_spec _) rfl) (by exact .nil) ?_
        refine dq_pure rfl (fun s => .op rfl (.op rfl (.nil))) (fun s hs _ => loc_buildSlice rfl rfl (.agg rfl (.agg rfl (.nil))) rfl rfl) (by exact .nil) ?_
        refine dq_pure rfl (fun s => .op rfl (.nil)) (fun s hs _ => loc_len rfl) (by exact .nil) ?_
        refine dq_pure rfl (fun s => .nil) (fun s hs _ => loc_move rfl) (by exact .nil) ?_
        refine dq_end (rs := [_, _, _, _, _, _]) () rfl (fun _ => rfl) (.nil) rfl (fun _ => rfl) (fun _ _ => ?_)
        dsimp only [outG, outM, List.map, List.set, id]
        refine run_recast (s := 270) rfl (d_sl (ys := [md.1.2.2.2, crashV md.1.2.2.2]) (h := cSrv) rfl) ?_
        refine run_recast (s := 271) (d' := dInt .i64 2) rfl (d_int rfl) ?_
        have hys : ∀ x ∈ [md.1.2.2.2, crashV md.1.2.2.2], okI x := fun x hx => by rcases List.mem_cons.1 hx with rfl | hx; (· exact hvo); (· rw [List.mem_singleton.1 hx]; exact okI_crash hvo)
        refine run_block ?_
        refine run_front (.there (.there (.there (.there (.there (.here)))))) ?_
        refine run_loopF (σ := Nat × Dc) (ks := [5, 13, 15, 18, 270, 271]) (.cons rfl (.cons rfl (.cons rfl (.cons rfl (.cons rfl (.cons rfl (.nil))))))) (fun r => [(272, dInt .i64 (r.1 : Nat))]) (fun r => [rDc bd r.2]) (fun r => r.1 ≤ 2 ∧ okDc r.2) (fun r => 2 - r.1) ((0, q2.2)) (⟨by simp only; omega, hq2.2⟩) (.cons rfl (by first | exact fun _ _ h => h | exact d_int (by omega) | exact d_int (by simp) | exact d_intN (by omega) | exact d_any) .nil) (rfl) ?_
        rintro ⟨k, dk⟩ ⟨hk, hdk⟩ ih37
        simp only at hk hdk
        refine run_seq ?_
        refine run_region ?_
        refine run_op (loc_lss rfl rfl) rfl ?_
        refine run_nil ?_
        refine run_seq ?_
        refine run_cond rfl (fun h38 => ?_) (fun h38 => ?_)
        ·
         have hkl : k < 2 := by simp only at h38; omega
         have hyo := hys _ (getD_mem (xs := [md.1.2.2.2, crashV md.1.2.2.2]) (k := k) (by simp; omega))
         have hyz := sz_of_ok hyo.1
         refine run_skip ?_
         refine run_seq ?_
         refine run_block ?_
         refine run_seq ?_
         refine run_region ?_
         first | refine run_op (loc_index rfl rfl (by first | omega | assumption | (simp only [List.length_cons, List.length_nil]; omega))) rfl ?_ | refine run_op (loc_indexI rfl rfl (by first | omega | assumption | (simp only [List.length_cons, List.length_nil]; omega))) rfl ?_
         refine run_op (loc_loadN rfl rfl) rfl ?_
         refine run_new (loc_allocOwn (by simp)) rfl (fun b39 _ => ?_)
         refine run_storeN (ho := (by show OneAll [_, _, _, _, _, _, _, _]; infer_instance)) rfl rfl (.here) (by rfl) ?_
         refine run_nil ?_
         refine run_seq ?_
         refine run_seq ?_
         refine run_region ?_
         refine run_op (loc_loadN rfl rfl) rfl ?_
         refine run_op (loc_build (.one rfl rfl rfl (.one rfl rfl rfl (.nil)))) rfl ?_
         refine run_op (loc_buildSlice rfl rfl (.agg rfl (.agg rfl (.nil))) rfl rfl) rfl ?_
         first | refine runL_fact (s := 278) rfl (fun _ _ h => dSl_len h) (fun hlen40 => ?_) | skip
         refine run_op (loc_len rfl) rfl ?_
         refine run_op (loc_move rfl) rfl ?_
         refine run_nil ?_
         refine run_recast (s := 278) rfl (d_sl (ys := [ps, ⟨1, 9⟩]) (h := cPsn) rfl) ?_
         refine run_recast (s := 279) (d' := dInt .i64 2) rfl (d_int rfl) ?_
         refine run_block ?_
         refine run_front (.there (.here)) ?_
         refine run_loopF (σ := Nat × Dc) (ks := [5, 13, 15, 18, 48, 270, 271, 272, 278, 279]) (.cons rfl (.cons rfl (.cons rfl (.cons rfl (.cons rfl (.cons rfl (.cons rfl (.cons rfl (.cons rfl (.cons rfl (.nil))))))))))) (fun r => [(280, dInt .i64 (r.1 : Nat))]) (fun r => [rDc bd r.2]) (fun r => r.1 ≤ 2 ∧ okDc r.2) (fun r => 2 - r.1) ((0, dk)) (⟨by simp only; omega, hdk⟩) (.cons rfl (by first | exact fun _ _ h => h | exact d_int (by omega) | exact d_int (by simp) | exact d_intN (by omega) | exact d_any) .nil) (rfl) ?_
         rintro ⟨u, du⟩ ⟨hu, hdu⟩ ih41
         simp only at hu hdu
         refine run_seq ?_
         refine run_region ?_
         refine run_op (loc_lss rfl rfl) rfl ?_
         refine run_nil ?_
         refine run_seq ?_
         refine run_cond rfl (fun h42 => ?_) (fun h42 => ?_)
         ·
          have hul : u < 2 := by simp only at h42; omega
          refine run_skip ?_
          refine run_seq ?_
          refine run_block ?_
          refine run_seq ?_
          refine run_region ?_
          first | refine run_op (loc_index rfl rfl (by first | omega | assumption | (simp only [List.length_cons, List.length_nil]; omega))) rfl ?_ | refine run_op (loc_indexI rfl rfl (by first | omega | assumption | (simp only [List.length_cons, List.length_nil]; omega))) rfl ?_
          refine run_op (loc_loadN rfl rfl) rfl ?_
          refine run_new (loc_allocOwn (by simp)) rfl (fun b43 _ => ?_)
          refine run_storeN (ho := (by show OneAll [_, _]; infer_instance)) rfl rfl (.here) (by rfl) ?_
          refine run_nil ?_
          refine run_seq ?_
          refine run_region ?_
          refine run_op (loc_move rfl) rfl ?_
          refine run_op (loc_move rfl) rfl ?_
          refine run_callM rfl (.there (.here)) (pick_spec bd _ _ hdu (by omega)) rfl (fun s44 hs44 => ?_)
          refine run_op (loc_buildSlice rfl rfl (.one rfl (.one rfl (.one rfl (.nil)))) rfl rfl) rfl ?_
          first | refine runL_fact (s := 287) rfl (fun _ _ h => dSl_len h) (fun hlen45 => ?_) | skip
          refine run_op (loc_len rfl) rfl ?_
          refine run_op (loc_move rfl) rfl ?_
          refine run_nil ?_
          refine run_recast (s := 287) rfl (d_sl (ys := [lie, 0, du.val 9]) (h := fI) rfl) ?_
          refine run_recast (s := 288) (d' := dInt .i64 3) rfl (d_int rfl) ?_
          refine run_block ?_
          refine run_loopC (σ := Nat) (ks := [5, 13, 15, 18, 48, 50, 270, 271, 272, 278, 279, 280, 287, 288]) (.cons rfl (.cons rfl (.cons rfl (.cons rfl (.cons rfl (.cons rfl (.cons rfl (.cons rfl (.cons rfl (.cons rfl (.cons rfl (.cons rfl (.cons rfl (.cons rfl (.nil))))))))))))))) (fun w => [(289, dInt .i64 (w : Nat))]) (fun w => w ≤ 3) (fun w => 3 - w) (0) ((by omega)) (.cons rfl (by first | exact fun _ _ h => h | exact d_int (by omega) | exact d_int (by simp) | exact d_intN (by omega) | exact d_any) .nil) ?_
          intro w hw ih46
          refine run_seq ?_
          refine run_region ?_
          refine run_op (loc_lss rfl rfl) rfl ?_
          refine run_nil ?_
          refine run_seq ?_
          refine run_cond rfl (fun h47 => ?_) (fun h47 => ?_)
          ·
           refine run_skip ?_
           refine run_seq ?_
           refine run_block ?_
           refine run_seq ?_
           refine run_region ?_
           first | refine run_op (loc_index rfl rfl (by first | omega | assumption | (simp only [List.length_cons, List.length_nil]; omega))) rfl ?_ | refine run_op (loc_indexI rfl rfl (by first | omega | assumption | (simp only [List.length_cons, List.length_nil]; omega))) rfl ?_
           refine run_op (loc_load1 rfl) rfl ?_
           refine run_op (loc_assign rfl) rfl ?_
           refine run_nil ?_
           refine run_seq ?_
           refine run_region ?_
           refine run_op (loc_loadOwnN rfl (.there (.there (.here))) (by rfl)) rfl ?_
           refine run_op (loc_loadOwnN rfl (.here) (by rfl)) rfl ?_
           refine run_op (loc_move rfl) rfl ?_
           refine run_op (loc_call (vwordA_spec _ _ _ hyo) rfl) rfl ?_
           refine run_op (loc_move rfl) rfl ?_
           refine run_op (loc_extract rfl rfl) rfl ?_
           refine run_op (loc_extract rfl rfl) rfl ?_
           refine run_op (loc_extract rfl rfl) rfl ?_
           refine run_op (loc_extract rfl rfl) rfl ?_
           refine run_new (loc_allocOwn (by simp)) rfl (fun b48 _ => ?_)
           refine run_new (loc_allocOwn (by simp)) rfl (fun b49 _ => ?_)
           refine run_storeN (ho := (by show OneAll [_, _, _, _, _, _, _, _]; infer_instance)) rfl rfl (.there (.here)) (by rfl) ?_
           refine run_storeN (ho := (by show OneAll [_, _, _, _, _, _, _, _]; infer_instance)) rfl rfl (.here) (by rfl) ?_
           refine run_op (loc_assign rfl) rfl ?_
           refine run_op (loc_assign rfl) rfl ?_
           refine run_nil ?_
           refine run_seq ?_
           refine run_region ?_
           refine run_op (loc_loadOwnN rfl (.there (.there (.there (.there (.here))))) (by rfl)) rfl ?_
           refine run_op (loc_loadOwnN rfl (.there (.there (.here))) (by rfl)) rfl ?_
           refine run_op (loc_move rfl) rfl ?_
           refine run_op (loc_call (rwordA_spec _ _ _ hyo) rfl) rfl ?_
           refine run_op (loc_move rfl) rfl ?_
           refine run_op (loc_extract rfl rfl) rfl ?_
           refine run_op (loc_extract rfl rfl) rfl ?_
           refine run_op (loc_extract rfl rfl) rfl ?_
           refine run_op (loc_extract rfl rfl) rfl ?_
           refine run_new (loc_allocOwn (by simp)) rfl (fun b50 _ => ?_)
           refine run_new (loc_allocOwn (by simp)) rfl (fun b51 _ => ?_)
           refine run_storeN (ho := (by show OneAll [_, _, _, _, _, _, _, _]; infer_instance)) rfl rfl (.there (.here)) (by rfl) ?_
           refine run_storeN (ho := (by show OneAll [_, _, _, _, _, _, _, _]; infer_instance)) rfl rfl (.here) (by rfl) ?_
           refine run_op (loc_assign rfl) rfl ?_
           refine run_op (loc_assign rfl) rfl ?_
           refine run_nil ?_
           refine run_seq ?_
           refine run_region ?_
           refine run_op (loc_move rfl) rfl ?_
           refine run_op (loc_move rfl) rfl ?_
           refine run_op (loc_neq rfl rfl) rfl ?_
           refine run_op (loc_move rfl) rfl ?_
           refine run_gfirst rfl rfl gdI.ok (fun hg => loc_move rfl) rfl ?_
           refine run_gop rfl rfl gdI.ok (fun hg => loc_move rfl) rfl ?_
           refine run_gop rfl rfl gdI.ok (fun hg => loc_neqB rfl rfl) rfl ?_
           refine run_gleave ?_
           refine run_op (loc_or rfl rfl) rfl ?_
           refine run_op (loc_move rfl) rfl ?_
           refine run_gfirst rfl rfl gdI.ok (fun hg => loc_loadOwnN rfl (.there (.there (.there (.here)))) (by rfl)) rfl ?_
           refine run_gop rfl rfl gdI.ok (fun hg => loc_loadOwnN rfl (.there (.here)) (by rfl)) rfl ?_
           refine run_gop rfl rfl gdI.ok (fun hg => loc_call (vsame_spec _ _) rfl) rfl ?_
           refine run_gop rfl rfl gdI.ok (fun hg => loc_not rfl) rfl ?_
           refine run_gleave ?_
           refine run_op (loc_or rfl rfl) rfl ?_
           refine run_op (loc_move rfl) rfl ?_
           refine run_gfirst rfl rfl gdI.ok (fun hg => loc_loadOwnN rfl (.there (.there (.here))) (by rfl)) rfl ?_
           refine run_gop rfl rfl gdI.ok (fun hg => loc_loadOwnN rfl (.here) (by rfl)) rfl ?_
           refine run_gop rfl rfl gdI.ok (fun hg => loc_call (samenote_spec _ _ (note_szI hyo) (note_szI hyo)) rfl) rfl ?_
           refine run_gop rfl rfl gdI.ok (fun hg => loc_not rfl) rfl ?_
           refine run_gleave ?_
           refine run_op (loc_or rfl rfl) rfl ?_
           refine run_nil ?_
           refine run_cond rfl (fun h52 => ?_) (fun h52 => ?_)
           · exfalso; rcases h52 with ((h | h) | h) | h; (· exact h rfl); (· exact h Iff.rfl); (· exact h rfl); (· exact h ⟨rfl, rfl⟩)
           ·
            refine run_skip ?_
            refine run_inBlock ?_
            refine run_region ?_
            first | refine run_op (loc_add rfl rfl (by first | omega | assumption | (simp only [List.length_cons, List.length_nil]; omega))) rfl ?_ | refine run_op (loc_addW rfl rfl) rfl ?_
            refine run_op (loc_move rfl) rfl ?_
            refine run_nil ?_
            refine run_drop (.cons _ (.cons _ (.cons _ (.cons _ (.refl _))))) ?_
            exact run_againC ih46 (w + 1) (by omega) (by omega) (.cons rfl (by first | exact fun _ _ h => h | exact d_int (by omega) | exact d_int (by simp) | exact d_intN (by omega) | exact d_any) .nil) (.cons rfl (fun _ _ x => x) (.cons rfl (fun _ _ x => x) (.cons rfl (fun _ _ x => x) (.cons rfl (fun _ _ x => x) (.cons rfl (fun _ _ x => x) (.cons rfl (fun _ _ x => x) (.cons rfl (fun _ _ x => x) (.cons rfl (fun _ _ x => x) (.cons rfl (fun _ _ x => x) (.cons rfl (fun _ _ x => x) (.cons rfl (fun _ _ x => x) (.cons rfl (fun _ _ x => x) (.cons rfl (fun _ _ x => x) (.cons rfl (fun _ _ x => x) (.nil)))))))))))))))
          ·
           refine run_exit rfl ?_
           refine run_inBlock ?_
           refine run_region ?_
           first | refine run_op (loc_add rfl rfl (by first | omega | assumption | (simp only [List.length_cons, List.length_nil]; omega))) rfl ?_ | refine run_op (loc_addW rfl rfl) rfl ?_
           refine run_op (loc_move rfl) rfl ?_
           refine run_nil ?_
           refine run_drop (.cons _ (.refl _)) ?_
           exact run_againF ih41 ((u + 1, du.next)) (⟨by simp only; omega, Dc.next_ok hdu⟩) (by simp only; omega) (.cons rfl (by first | exact fun _ _ h => h | exact d_int (by omega) | exact d_int (by simp) | exact d_intN (by omega) | exact d_any) .nil) (.cons rfl (fun _ _ x => x) (.cons rfl (fun _ _ x => x) (.cons rfl (fun _ _ x => x) (.cons rfl (fun _ _ x => x) (.cons rfl (fun _ _ x => x) (.cons rfl (fun _ _ x => x) (.cons rfl (fun _ _ x => x) (.cons rfl (fun _ _ x => x) (.cons rfl (fun _ _ x => x) (.cons rfl (fun _ _ x => x) (.nil))))))))))) (rfl)
         ·
          refine run_exit rfl ?_
          refine run_seq ?_
          refine run_region ?_
          refine run_op (loc_loadOwnN rfl (.there (.here)) (by rfl)) rfl ?_
          refine run_op (loc_call (vstart_spec _ hyz) rfl) rfl ?_
          refine run_op (loc_move rfl) rfl ?_
          refine run_op (loc_extract rfl rfl) rfl ?_
          refine run_op (loc_extract rfl rfl) rfl ?_
          refine run_new (loc_allocOwn (by simp)) rfl (fun b53 _ => ?_)
          refine run_storeN (ho := (by show OneAll [_, _, _, _, _, _, _, _]; infer_instance)) rfl rfl (.here) (by rfl) ?_
          refine run_op (loc_assign rfl) rfl ?_
          refine run_nil ?_
          refine run_seq ?_
          refine run_region ?_
          refine run_op (loc_loadOwnN rfl (.there (.there (.here))) (by rfl)) rfl ?_
          refine run_op (loc_call (rstart_spec _) rfl) rfl ?_
          refine run_op (loc_move rfl) rfl ?_
          refine run_op (loc_extract rfl rfl) rfl ?_
          refine run_op (loc_extract rfl rfl) rfl ?_
          refine run_new (loc_allocOwn (by simp)) rfl (fun b54 _ => ?_)
          refine run_storeN (ho := (by show OneAll [_, _, _, _, _, _, _, _]; infer_instance)) rfl rfl (.here) (by rfl) ?_
          refine run_op (loc_assign rfl) rfl ?_
          refine run_nil ?_
          refine run_seq ?_
          refine dr_start _ (.none) [⟨[(62, none)], [], none⟩,
              ⟨[(64, none)], [], none⟩,
              ⟨[(343, some (0, false)), (344, some (1, false))], [0, 1], none⟩,
              ⟨[(345, some (2, false))], [0, 1, 2], none⟩,
              ⟨[(61, none)], [0, 1, 2, 3], some (1, 0, false)⟩,
              ⟨[(63, none)], [0, 1, 2, 3], some (0, 0, false)⟩,
              ⟨[(347, some (4, true)), (348, some (5, true))], [0, 1, 2, 3, 4, 5], none⟩,
              ⟨[(349, some (6, true))], [0, 1, 2, 3, 4, 5, 6], none⟩,
              ⟨[(346, some (3, false)), (350, some (7, false))], [0, 1, 2, 3, 4, 5, 6, 7], none⟩,
              ⟨[(351, some (8, false))], [0, 1, 2, 3, 4, 5, 6, 7, 8], none⟩,
              ⟨[(48, none)], [0, 1, 2, 3, 4, 5, 6, 7, 8, 9], some (3, 0, false)⟩,
              ⟨[(353, some (10, true))], [0, 1, 2, 3, 4, 5, 6, 7, 8, 9, 10], none⟩,
              ⟨[(48, none)], [0, 1, 2, 3, 4, 5, 6, 7, 8, 9], some (3, 0, false)⟩,
              ⟨[(355, some (12, true))], [0, 1, 2, 3, 4, 5, 6, 7, 8, 9, 10, 11, 12], none⟩,
              ⟨[(354, some (11, true)), (356, some (13, true))], [0, 1, 2, 3, 4, 5, 6, 7, 8, 9, 10, 11, 12, 13], none⟩,
              ⟨[(357, some (14, true))], [0, 1, 2, 3, 4, 5, 6, 7, 8, 9, 10, 11, 12, 13, 14], none⟩,
              ⟨[(352, some (9, false)), (358, some (15, false))], [0, 1, 2, 3, 4, 5, 6, 7, 8, 9, 10, 11, 12, 13, 14, 15], none⟩,
              ⟨[(359, some (16, false))], [0, 1, 2, 3, 4, 5, 6, 7, 8, 9, 10, 11, 12, 13, 14, 15, 16], none⟩,
              ⟨[(48, none)], [0, 1, 2, 3, 4, 5, 6, 7, 8, 9, 10, 11, 12, 13, 14, 15, 16, 17], some (3, 0, false)⟩,
              ⟨[(18, none)], [0, 1, 2, 3, 4, 5, 6, 7, 8, 9, 10, 11, 12, 13, 14, 15, 16, 17], some (6, 0, false)⟩,
              ⟨[(361, some (18, true)), (362, some (19, true))], [0, 1, 2, 3, 4, 5, 6, 7, 8, 9, 10, 11, 12, 13, 14, 15, 16, 17, 18, 19], none⟩,
              ⟨[(48, none)], [0, 1, 2, 3, 4, 5, 6, 7, 8, 9, 10, 11, 12, 13, 14, 15, 16, 17], some (3, 0, false)⟩,
              ⟨[(18, none)], [0, 1, 2, 3, 4, 5, 6, 7, 8, 9, 10, 11, 12, 13, 14, 15, 16, 17], some (6, 0, false)⟩,
              ⟨[(364, some (21, true)), (365, some (22, true))], [0, 1, 2, 3, 4, 5, 6, 7, 8, 9, 10, 11, 12, 13, 14, 15, 16, 17, 18, 19, 20, 21, 22], none⟩,
              ⟨[(363, some (20, true)), (366, some (23, true))], [0, 1, 2, 3, 4, 5, 6, 7, 8, 9, 10, 11, 12, 13, 14, 15, 16, 17, 18, 19, 20, 21, 22, 23], none⟩,
              ⟨[(360, some (17, false)), (367, some (24, false))], [0, 1, 2, 3, 4, 5, 6, 7, 8, 9, 10, 11, 12, 13, 14, 15, 16, 17, 18, 19, 20, 21, 22, 23, 24], none⟩] [_, _, _, _, _, _, _, _, _] _ rfl rfl ?_
          refine dq_pure rfl (fun s => .g rfl (.nil)) (fun s hs _ => loc_move rfl) (by exact .nil) ?_
          refine dq_pure rfl (fun s => .g rfl (.nil)) (fun s hs _ => loc_move rfl) (by exact .nil) ?_
          refine dq_pure rfl (fun s => .op rfl (.op rfl (.nil))) (fun s hs _ => loc_neq rfl rfl) (by exact .nil) ?_
          refine dq_pure rfl (fun s => .op rfl (.nil)) (fun s hs _ => loc_move rfl) (by exact .nil) ?_
          refine dq_gread rfl (fun s => .g rfl (.nil)) rfl rfl rfl (fun _ => gdI.ok) (fun s hs hg _ hm => loc_loadOwnN rfl hm (by rfl)) (by exact .nil) ?_
          refine dq_gread rfl (fun s => .g rfl (.nil)) rfl rfl rfl (fun _ => gdI.ok) (fun s hs hg _ hm => loc_loadOwnN rfl hm (by rfl)) (by exact .nil) ?_
          refine dq_gpure rfl (fun s => .opU rfl (.opU rfl (.nil))) rfl (fun _ => gdI.ok) (fun s hs hg _ => loc_call (vsame_spec _ _) rfl) (by exact .nil) ?_
          refine dq_gpure rfl (fun s => .opU rfl (.nil)) rfl (fun _ => gdI.ok) (fun s hs hg _ => loc_not rfl) (by exact .nil) ?_
          refine dq_pure rfl (fun s => .op rfl (.op rfl (.nil))) (fun s hs _ => loc_or rfl rfl) (by exact .nil) ?_
          refine dq_pure rfl (fun s => .op rfl (.nil)) (fun s hs _ => loc_move rfl) (by exact .nil) ?_
          refine dq_gread rfl (fun s => .g rfl (.nil)) rfl rfl rfl (fun _ => gdI.ok) (fun s hs hg _ hm => loc_loadOwnN rfl hm (by rfl)) (by exact .nil) ?_
          refine dq_gpure rfl (fun s => .opU rfl (.nil)) rfl (fun _ => gdI.ok) (fun s hs hg _ => loc_call (vcrash_spec _ hyz) rfl) (by exact .nil) ?_
          refine dq_gread rfl (fun s => .g rfl (.nil)) rfl rfl rfl (fun _ => gdI.ok) (fun s hs hg _ hm => loc_loadOwnN rfl hm (by rfl)) (by exact .nil) ?_
          refine dq_gpure rfl (fun s => .opU rfl (.nil)) rfl (fun _ => gdI.ok) (fun s hs hg _ => loc_call (rcrash_spec _) rfl) (by exact .nil) ?_
          refine dq_gpure rfl (fun s => .opU rfl (.opU rfl (.nil))) rfl (fun _ => gdI.ok) (fun s hs hg _ => loc_call (vsame_spec _ _) rfl) (by exact .nil) ?_
          refine dq_gpure rfl (fun s => .opU rfl (.nil)) rfl (fun _ => gdI.ok) (fun s hs hg _ => loc_not rfl) (by exact .nil) ?_
          refine dq_pure rfl (fun s => .op rfl (.op rfl (.nil))) (fun s hs _ => loc_or rfl rfl) (by exact .nil) ?_
          refine dq_pure rfl (fun s => .op rfl (.nil)) (fun s hs _ => loc_move rfl) (by exact .nil) ?_
          refine dq_gread rfl (fun s => .g rfl (.nil)) rfl rfl rfl (fun _ => gdI.ok) (fun s hs hg _ hm => loc_loadOwnN rfl hm (by rfl)) (by exact .nil) ?_
          refine dq_gread rfl (fun s => .g rfl (.nil)) rfl rfl rfl (fun _ => gdI.ok) (fun s hs hg _ hm => loc_loadOwnN rfl hm (by rfl)) (by exact .nil) ?_
          refine dq_gpure rfl (fun s => .opU rfl (.opU rfl (.nil))) rfl (fun _ => gdI.ok) (fun s hs hg _ => loc_call (psame_spec _ _) rfl) (by exact .nil) ?_
          refine dq_gread rfl (fun s => .g rfl (.nil)) rfl rfl rfl (fun _ => gdI.ok) (fun s hs hg _ hm => loc_loadOwnN rfl hm (by rfl)) (by exact .nil) ?_
          refine dq_gread rfl (fun s => .g rfl (.nil)) rfl rfl rfl (fun _ => gdI.ok) (fun s hs hg _ hm => loc_loadOwnN rfl hm (by rfl)) (by exact .nil) ?_
          refine dq_gpure rfl (fun s => .opU rfl (.opU rfl (.nil))) rfl (fun _ => gdI.ok) (fun s hs hg _ => loc_call (vsame_spec _ _) rfl) (by exact .nil) ?_
          refine dq_gpure rfl (fun s => .opU rfl (.opU rfl (.nil))) rfl (fun _ => gdI.ok) (fun s hs hg _ => loc_neqB rfl rfl) (by exact .nil) ?_
          refine dq_pure rfl (fun s => .op rfl (.op rfl (.nil))) (fun s hs _ => loc_or rfl rfl) (by exact .nil) ?_
          refine dq_end (rs := [_, _, _, _, _, _, _, _, _]) () rfl (fun _ => rfl) (.nil) rfl (fun _ => rfl) (fun _ _ => ?_)
          dsimp only [outG, outM, List.map, List.set, id]
          refine run_cond rfl (fun h55 => ?_) (fun h55 => ?_)
          · exfalso; rcases h55 with ((h | h) | h) | h; (· exact h rfl); (· exact h rfl); (· exact h rfl); (· exact h Iff.rfl)
          ·
           refine run_skip ?_
           refine run_inBlock ?_
           refine run_region ?_
           first | refine run_op (loc_add rfl rfl (by first | omega | assumption | (simp only [List.length_cons, List.length_nil]; omega))) rfl ?_ | refine run_op (loc_addW rfl rfl) rfl ?_
           refine run_op (loc_move rfl) rfl ?_
           refine run_nil ?_
           refine run_drop (.cons _ (.cons _ (.cons_cons _ (.cons _ (.refl _))))) ?_
           exact run_againF ih37 ((k + 1, du)) (⟨by simp only; omega, hdu⟩) (by simp only; omega) (.cons rfl (by first | exact fun _ _ h => h | exact d_int (by omega) | exact d_int (by simp) | exact d_intN (by omega) | exact d_any) .nil) (.cons rfl (fun _ _ x => x) (.cons rfl (fun _ _ x => x) (.cons rfl (fun _ _ x => x) (.cons rfl (fun _ _ x => x) (.cons rfl (fun _ _ x => x) (.cons rfl (fun _ _ x => x) (.nil))))))) (rfl)
        ·
         refine run_exit rfl ?_
         refine run_seq ?_
         refine run_region ?_
         refine run_op (loc_assign rfl) rfl ?_
         refine run_nil ?_
         refine run_drop (.cons _ (.cons _ (.cons _ (.cons _ (.cons _ (.cons _ (.refl _))))))) ?_
         refine run_retP Tryz.func4 rfl rfl ?_
         exact d_B Iff.rfl
end Go.Q

namespace Go.Q
open Go.ChangeShapes Go.WideShapes Go.RowKit
def immOf (w : World) : Imm := ⟨fun b => w.heap[b]?, w.os, w.tape, w.output⟩
theorem inv_of (w : World) : Inv (immOf w) [] w := ⟨rfl, rfl, rfl, fun _ _ h => h, fun r hr => (by cases hr), List.nodup_nil⟩
theorem below_of {W w' : World} {J : Imm} (hle : (immOf W).le J) (hi : Inv J [] w') : Below W.heap.size W w' := by
 have hblk : ∀ k, k < W.heap.size → w'.heap[k]? = W.heap[k]? := fun k hk => by
  have h1 : W.heap[k]? = some W.heap[k] := by simp [hk]
  rw [h1]
  exact hi.imm k _ (hle.blk k _ h1)
 refine ⟨hi.os.trans hle.os, hi.tape.trans hle.tape, hi.output.trans hle.output, ?_, hblk⟩
 by_cases h : W.heap.size ≤ w'.heap.size
 ·exact h
 ·have h1 := hblk w'.heap.size (by omega)
  have h2 : w'.heap[w'.heap.size]? = none := by simp
  rw [h2] at h1
  have h3 : W.heap[w'.heap.size]? = some W.heap[w'.heap.size] := by simp [show w'.heap.size < W.heap.size by omega]
  rw [h3] at h1
  cases h1
section
variable {H : Type} {enc : TypeId × Value → H} {P : Program}
theorem post_same {f : Func} {s : ChangeSpec} {apart fresh handsOn again : Bool} {W W' : World} {args : Array Value} {v : Value} {ds gs : List (DataW H)} {before pa pv : List MemPlace}
  (hW : DataW.Whole enc P f.params.toList s.vars apart W args.toList ds gs before)
  (hres : ∀ (b : Nat) (sp : Nat → Bool) (hd : Bool), DataW.TrodAll enc P W' b sp hd f.resultTypes.toList (v.resultList f.resultTypes.size) (s.fn H (ds ++ gs)).results [])
  (hargs : ∀ sp : Nat → Bool, (∀ p ∈ before, sp p.block = true) → DataW.TrodAll enc P W' 0 sp true f.params.toList args.toList (s.fn H (ds ++ gs)).args pa)
  (hvars : ∀ sp : Nat → Bool, (∀ p ∈ before, sp p.block = true) → DataW.TrodVars enc P W' sp s.vars (s.fn H (ds ++ gs)).vars pv)
  (hps : before = pa ++ pv) (hk : W.keptBut W' (· ∈ before)) (hfz : ∀ a : Addr, a.block < W.heap.size → W'.frozen? a = W.frozen? a)
  (hok : ∀ (j : Nat) (t : TypeId) (r : Value), f.resultTypes[j]? = some t → (v.resultList f.resultTypes.size)[j]? = some r → Value.okWide P W' .any 0 t r) :
  s.post enc P f apart fresh handsOn again W args v W' := by
 have hold : ∀ p ∈ before, (fun b => decide (b < W.heap.size)) p.block = true := fun p hp => by simpa using hW.lt p hp
 have hlt := hW.lt
 refine ⟨ds, gs, before, [], pa, pv, hW, hres _ _ _, hargs _ hold, hvars _ hold, World.keptBut_mono (fun p hp => ⟨hp, ?_⟩) hk, fun _ => ?_⟩
 ·rw [hps, List.mem_append] at hp
  exact Or.inr hp
 ·obtain ⟨_, _, _, _, _, hz, hn⟩ := hW
  refine ⟨hok, _, _, ([] ++ pa) ++ pv, ⟨[] ++ pa, pv, trodAll_append (hargs _ (fun _ _ => rfl)) (hres _ _ _), hvars _ (fun _ _ => rfl), rfl, ?_, ?_⟩, ?_⟩
  ·intro b off hp
   have hm : MemPlace.cell b off ∈ before := by rw [hps]; simpa using hp
   rw [hfz _ (hlt _ hm)]
   exact hz b off hm
  ·intro ha
   have := hn ha
   rw [hps] at this
   simpa using this
  ·intro p hp _
   rw [hps]
   simpa using hp
theorem trodAll_stay (hl : laidOutB P = true) {W W' : World} {sp : Nat → Bool} : ∀ {ts : List TypeId} {vs : List Value} {ds : List (DataW H)} {ps : List MemPlace}, (∀ t ∈ ts, P.readableRec t = true ∧ t < P.types.size) →
  DataW.TrodAll enc P W 0 (fun _ => true) true ts vs ds ps → (∀ p ∈ ps, W.sameAt W' p) → (∀ p ∈ ps, sp p.block = true) → DataW.TrodAll enc P W' 0 sp true ts vs ds ps
 | [], _, _, _, _, h, _, _ => by
  obtain ⟨rfl, rfl, rfl⟩ := trodAll_nil h
  exact rfl
 | t :: ts, _, _, _, hr, h, hs, hp => by
  obtain ⟨v, vs, d, ds, p, q, rfl, rfl, rfl, h1, h2⟩ := trodAll_cons h
  have hrt := hr t (List.mem_cons_self ..)
  exact ⟨p, q, WideElems.Trod_stays hl hrt.1 hrt.2 h1 (fun x hx => hs x (List.mem_append_left _ hx)) (fun x hx => hp x (List.mem_append_left _ hx)),
   trodAll_stay hl (fun x hx => hr x (List.mem_cons_of_mem _ hx)) h2 (fun x hx => hs x (List.mem_append_right _ hx)) (fun x hx => hp x (List.mem_append_right _ hx)), rfl⟩
theorem law_calls {f : FuncId} {fn : Func} {s : ChangeSpec} {apart fresh handsOn again : Bool} {W : World} {args : Array Value} {ds gs : List (DataW H)} {before : List MemPlace} {tb : TypeId} {Ds : List D}
  (hl : laidOutB P = true) (hread : ∀ t ∈ fn.params.toList, P.readableRec t = true ∧ t < P.types.size) (hres : fn.resultTypes = #[tb]) (htb : P.underlying tb = some .bool) (hvars : s.vars = [])
  (hW : DataW.Whole enc P fn.params.toList s.vars apart W args.toList ds gs before) (hr : (s.fn H ds).results = [.lit (.bool true)]) (ha : (s.fn H ds).args = ds) (hv : (s.fn H ds).vars = [])
  (hsp : SpecP P f Ds (dB True)) (hrel : relL Ds (immOf W) args.toList) :
  Calls P f args W fun e W' => ∃ v, e = .returned v ∧ s.post enc P fn apart fresh handsOn again W args v W' := by
 have h := hsp (immOf W) [] W args.toList hrel (inv_of W)
 rw [Array.toArray_toList] at h
 refine h.mono ?_
 rintro e W' ⟨v, rfl, J, hle, ⟨b, rfl, hb⟩, hi⟩
 have hbt : b = true := hb.2 trivial
 subst hbt
 have hB := below_of hle hi
 have hlt := hW.lt
 have hW' := hW
 obtain ⟨p, q, hA, hV, rfl, hfz, hnd⟩ := hW'
 rw [hvars] at hV
 obtain ⟨rfl, rfl⟩ := trodVars_none hV
 rw [List.append_nil] at hlt
 refine ⟨_, rfl, post_same (pa := p) (pv := []) hW (fun b sp hd => ?_) (fun sp hs => ?_) (fun sp hs => ?_) rfl (hB.frame _) (fun a ha => hB.frozen ha) (ok_one hres rfl (okWide_bool_mk htb true))⟩
 ·rw [List.append_nil, hr, hres]
  exact trodAll_mk1 (shut_bool htb true)
 ·rw [List.append_nil, ha]
  exact trodAll_stay hl hread hA (fun x hx => hB.same (hlt x hx)) (fun x hx => hs x (by simpa using hx))
 ·rw [List.append_nil, hv, hvars]
  exact rfl

theorem wf_u8 {n : Int} (h : (Lit.int .u8 n).wf = true) : 0 ≤ n ∧ n ≤ 255 := by
 have h1 : IntKind.u8.min ≤ n ∧ n ≤ IntKind.u8.max := by simpa [Lit.wf] using h
 exact h1
theorem at_of_cell {w : World} {a : Addr} {v : Value} {d : D} (h : w.cell? a = some v) (hd : d.rel (immOf w) v) : (immOf w).at a [d] := by
 unfold World.cell? at h
 split at h
 ·rename_i cs T fz hb
  split at h
  ·cases h
  ·rename_i hs
   refine ⟨by simpa using hs, cs, T, fz, hb, ?_⟩
   have h1 : cs.toList[a.off]? = some v := by simpa using h
   have h2 : (cs.toList.drop a.off).take 1 = [v] := by
    rw [List.take_one, List.head?_drop, h1]; rfl
   show relL [d] _ ((cs.toList.drop a.off).take 1)
   rw [h2]
   exact ⟨hd, trivial⟩
 ·cases h
variable {W : World}
theorem arg_int {r : Reach} {b0 : Nat} {t : TypeId} {k : IntKind} {v : Value} {d : DataW H} {ps : List MemPlace} (ht : P.underlying t = some (.int k)) (hval : Value.okWide P W r b0 t v) (hd : DataW.Trod enc P W 0 (fun _ => true) true t v d ps) :
  ∃ n, (dInt k n).rel (immOf W) v ∧ (Lit.int k n).wf = true := by
 obtain ⟨n, rfl, _, _, h⟩ := open_int ht hval hd
 exact ⟨n, rfl, h⟩
end
end Go.Q

namespace Go.Q
open Go.ChangeShapes Go.WideShapes Go.RowKit Go.Joins
section
variable {H : Type} {enc : TypeId × Value → H} {P : Program} {W : World}
theorem weights_all {e : TypeId} {l : List (DataW H)} {d : DataW H} (hd : d ∈ l) {n : Nat} (hn : n ∈ d.weights P e) : n ∈ DataW.weightsAll P e l := by
 induction l with
 | nil => cases hd
 | cons x l ih =>
  rw [DataW.weightsAll]
  rcases List.mem_cons.1 hd with rfl | hd
  ·exact List.mem_append_left _ hn
  ·exact List.mem_append_right _ (ih hd)
structure TabTy (P : Program) (t e q : TypeId) (f0 f1 f2 f3 g : Field) : Prop where
 s : P.underlying t = some (.struct #[f0, f1, f2, f3])
 c : P.cellsOf t = 4
 i0 : P.underlying f0.type = some (.int .i64) ∧ f0.offset = 0 ∧ P.cellsOf f0.type = 1
 i1 : P.underlying f1.type = some (.struct #[g]) ∧ f1.offset = 1 ∧ P.cellsOf f1.type = 1
 i2 : P.underlying f2.type = some (.int .i64) ∧ f2.offset = 2 ∧ P.cellsOf f2.type = 1
 i3 : P.underlying f3.type = some (.slice e) ∧ f3.offset = 3 ∧ P.cellsOf f3.type = 1
 ig : P.underlying g.type = some (.int .i64) ∧ g.offset = 0 ∧ P.cellsOf g.type = 1
 he : P.underlying e = some (.slice q)
 hq : P.underlying q = some (.int .i64)
 ce : P.cellsOf e = 1
 cq : P.cellsOf q = 1
 be : P.bytesOf e = 24
 bq : P.bytesOf q = 8
def fieldsOf (P : Program) (t : TypeId) : List Field := match P.underlying t with | some (.struct fs) => fs.toList | _ => []
end
end Go.Q

namespace Go.Q
open Go.ChangeShapes Go.WideShapes Go.RowKit
def ArgOk (P : Program) (t : TypeId) {α : Type} (p : α → Prop) (c : α → List D) : Prop :=
 ∀ (H : Type) (enc : TypeId × Value → H) (W : World) (fuel : Nat) (cs : List Value) (d : DataW H) (ps : List MemPlace), DataW.trod enc P W 0 (fun _ => true) true fuel t cs = some (d, ps) →
  (∀ n ∈ d.weights P t, n ≤ reachBytes) → ∃ x, p x ∧ relL (c x) (immOf W) cs
variable {P : Program} {t e : TypeId} {α β : Type}
theorem ArgOk.map {p : α → Prop} {c : α → List D} {q : β → Prop} {c' : β → List D} (h : ArgOk P t p c) (f : α → β) (hp : ∀ x, p x → q (f x)) (hc : ∀ x, c x = c' (f x)) : ArgOk P t q c' := fun H enc W fuel cs d ps ht hw =>
 let ⟨x, h1, h2⟩ := h H enc W fuel cs d ps ht hw
 ⟨f x, hp x h1, hc x ▸ h2⟩
theorem ArgOk.int {k : IntKind} (ht : P.underlying t = some (.int k)) : ArgOk P t (fun n => (Lit.int k n).wf = true) (fun n => [dInt k n]) := fun H enc W fuel cs d ps h hw => by
 obtain ⟨n, rfl, _, hn⟩ := DataW.trod_int ht h
 exact ⟨n, hn, rfl, trivial⟩
theorem ArgOk.bool (ht : P.underlying t = some .bool) : ArgOk P t (fun _ => True) (fun b : Bool => [dB (b = true)]) := fun H enc W fuel cs d ps h hw => by
 obtain ⟨b, rfl, _⟩ := DataW.trod_bool ht h
 exact ⟨b, trivial, ⟨b, rfl, Iff.rfl⟩, trivial⟩
theorem cells_of {W : World} {a : Addr} {n : Nat} {vs : List Value} (h : W.cells? 0 a n = some vs) : vs.length = n ∧ ∀ i v, vs[i]? = some v → W.cell? (a.add i) = some v := by
 unfold World.cells? at h
 rw [if_pos (Nat.zero_le _)] at h
 have h1 := mapM_some_length h
 rw [List.length_range] at h1
 refine ⟨h1, fun i v hv => ?_⟩
 have hi : i < n := by rw [← h1]; exact (List.getElem?_eq_some_iff.1 hv).1
 have := mapM_some_get h i i (by simp [hi])
 rw [← hv, ← this]
theorem at_of_cells {w : World} {a : Addr} {ds : List D} {vs : List Value} (hs : a.spot = none) (hl : vs ≠ []) (hv : ∀ i v, vs[i]? = some v → w.cell? (a.add i) = some v) (hr : relL ds (immOf w) vs) : (immOf w).at a ds := by
 obtain ⟨b, o, s⟩ := a
 simp only at hs
 subst hs
 have hcell : ∀ i v, vs[i]? = some v → w.cell? ⟨b, o + i, none⟩ = some v := fun i v h => by have := hv i v h; rwa [Addr.add_lit] at this
 cases vs with
 | nil => exact absurd rfl hl
 | cons v0 vs =>
  have h0 := hcell 0 v0 rfl
  unfold World.cell? at h0
  simp only at h0
  split at h0
  ·rename_i cs T fz hb
   refine ⟨rfl, cs, T, fz, hb, ?_⟩
   have hlen := relL_length hr
   have : (cs.toList.drop o).take ds.length = v0 :: vs := by
    apply List.ext_getElem?
    intro i
    by_cases hi : i < (v0 :: vs).length
    ·have h1 := hcell i ((v0 :: vs)[i]) (List.getElem?_eq_getElem hi)
     simp only [World.cell?, hb] at h1
     rw [List.getElem?_take, if_pos (by omega), List.getElem?_drop, Array.getElem?_toList, List.getElem?_eq_getElem hi]
     simpa using h1
    ·rw [List.getElem?_eq_none (by rw [List.length_take]; omega), List.getElem?_eq_none (by omega)]
   show relL ds _ ((cs.toList.drop o).take ds.length)
   rw [this]
   exact hr
  ·cases h0
theorem list_choose {Q : Nat → α → Prop} {n : Nat} (h : ∀ i, i < n → ∃ x, Q i x) : ∃ xs : List α, xs.length = n ∧ ∀ i x, xs[i]? = some x → Q i x := by
 refine ⟨List.ofFn fun i : Fin n => Classical.choose (h i.1 i.2), by simp, fun i x hx => ?_⟩
 have hi : i < n := by have := (List.getElem?_eq_some_iff.1 hx).1; simpa using this
 rw [List.getElem?_ofFn, dif_pos hi] at hx
 injection hx with hx
 rw [← hx]
 exact Classical.choose_spec (h i hi)
theorem spot_add (a : Addr) (h : a.spot = none) (i : Nat) : (a.add i).spot = none := by
 obtain ⟨b, o, s⟩ := a
 simp only at h
 subst h
 rw [Addr.add_lit]
theorem ArgOk.slice {p : α → Prop} {c : α → List D} {n : Nat} (ht : P.underlying t = some (.slice e)) (he : ArgOk P e p c) (hn : P.cellsOf e = n) (hn0 : n ≠ 0) (hb : 8 ≤ P.bytesOf e) (hc : ∀ x, (c x).length = n) :
  ArgOk P t (fun xs : List α => ∀ x ∈ xs, p x) (fun xs => [dSl n c xs]) := fun H enc W fuel cs d ps h hw => by
 subst hn
 rcases DataW.trod_slice ht h with ⟨rfl, _⟩ | ⟨a, len, cap, elems, rest, m, _, rfl, hx, _, h1, h2, h3, h4, _, _⟩
 ·exact ⟨[], (fun x hx => by cases hx), d_nil _ _ rfl, trivial⟩
 ·injection hx with hx _
  subst hx
  have hlen : len ≤ lenMax := by
   have h7 := hw ((elems.length + rest.length) * P.bytesOf e) (by simp [DataW.weights, ht])
   have h9 : reachBytes = 140737488351232 := rfl
   have h10 := Nat.mul_le_mul_left (elems.length + rest.length) hb
   unfold lenMax
   omega
  have hel : ∀ i, i < len → ∃ x, p x ∧ ∃ vs, W.cells? 0 (a.add (i * P.cellsOf e)) (P.cellsOf e) = some vs ∧ relL (c x) (immOf W) vs := by
   intro i hi
   have h5 := h4 i hi
   rw [List.getElem?_eq_getElem (by omega)] at h5
   obtain ⟨vs, h6, h7⟩ := Option.bind_eq_some_iff.1 h5
   obtain ⟨x, h8, h9⟩ := he H enc W m vs _ _ h7 (fun k hk => hw k (by
    simp only [DataW.weights, ht, List.mem_cons, List.mem_append]
    exact .inr (.inl (weights_all (d := elems[i].1) (List.mem_map.2 ⟨elems[i], List.getElem_mem .., rfl⟩) hk))))
   exact ⟨x, h8, vs, h6, h9⟩
  obtain ⟨xs, hxl, hxs⟩ := list_choose hel
  subst hxl
  refine ⟨xs, fun x hx => by obtain ⟨i, hi⟩ := List.getElem?_of_mem hx; exact (hxs i x hi).1, ⟨some a, cap, rfl, h1, h2, hlen, fun i x hi => ?_⟩, trivial⟩
  obtain ⟨_, vs, g1, g2⟩ := hxs i x hi
  have hne : ∀ {vs : List Value}, vs.length = P.cellsOf e → vs ≠ [] := fun h e0 => hn0 (by rw [← h, e0]; rfl)
  have hspot : a.spot = none := by
   have h0 : 0 < xs.length := by have := (List.getElem?_eq_some_iff.1 hi).1; omega
   obtain ⟨_, us, u1, _⟩ := hxs 0 xs[0] (List.getElem?_eq_getElem h0)
   obtain ⟨u2, u3⟩ := cells_of u1
   have := hne u2
   cases us with
   | nil => exact absurd rfl this
   | cons u us =>
    have := u3 0 u rfl
    rw [Nat.zero_mul, Addr.add_zero', Addr.add_zero'] at this
    exact (at_of_cell (d := dTop) this trivial).1
  obtain ⟨g3, g4⟩ := cells_of g1
  exact ⟨hc x, a, rfl, hspot, at_of_cells (spot_add a hspot _) (hne g3) g4 g2⟩
def structB (P : Program) (t : TypeId) (l : List (Nat × Nat × TypeId)) : Bool :=
 match P.underlying t with
 | some (.struct fs) => (fs.toList.map fun f => (f.offset, P.cellsOf f.type, f.type)) == l && Nat.beq (P.cellsOf t) (l.foldr (fun x n => x.2.1 + n) 0)
 | _ => false
inductive FieldsOk (P : Program) : List (Nat × Nat × TypeId) → Nat → {α : Type} → (α → Prop) → (α → List D) → Prop where
 | nil {off : Nat} : FieldsOk P [] off (fun _ : Unit => True) (fun _ => [])
 | cons {off n : Nat} {t : TypeId} {l : List (Nat × Nat × TypeId)} {α β : Type} {p : α → Prop} {c : α → List D} {q : β → Prop} {c' : β → List D} : ArgOk P t p c → FieldsOk P l (off + n) q c' → FieldsOk P ((off, n, t) :: l) off (fun x : α × β => p x.1 ∧ q x.2) (fun x => c x.1 ++ c' x.2)
theorem FieldsOk.run {l : List (Nat × Nat × TypeId)} {off : Nat} {α : Type} {p : α → Prop} {c : α → List D} (h : FieldsOk P l off p c) (H : Type) (enc : TypeId × Value → H) (W : World) (m : Nat) (cs : List Value) (xs : List (DataW H × List MemPlace)) (hl : xs.length = l.length)
  (hx : ∀ (i o n : Nat) (t : TypeId), l[i]? = some (o, n, t) → DataW.trod enc P W 0 (fun _ => true) true m t ((cs.drop o).take n) = xs[i]?) (hw : ∀ (i o n : Nat) (t : TypeId) (y : DataW H × List MemPlace), l[i]? = some (o, n, t) → xs[i]? = some y → ∀ k ∈ y.1.weights P t, k ≤ reachBytes)
  (hsz : cs.length = off + l.foldr (fun x n => x.2.1 + n) 0) : ∃ x, p x ∧ relL (c x) (immOf W) (cs.drop off) := by
 induction h generalizing xs with
 | nil => exact ⟨(), trivial, by rw [List.drop_eq_nil_of_le (by simp at hsz; omega)]; trivial⟩
 | @cons off n t l α β p c q c' h1 _ ih =>
  cases xs with
  | nil => simp at hl
  | cons y ys =>
   have e1 := hx 0 off n t rfl
   obtain ⟨x, g1, g2⟩ := h1 H enc W m _ y.1 y.2 e1 (hw 0 off n t y rfl rfl)
   obtain ⟨x', g3, g4⟩ := ih ys (by simpa using hl) (fun i o n t hi => by have := hx (i + 1) o n t (by simpa using hi); simpa using this) (fun i o n t y hi hy => hw (i + 1) o n t y (by simpa using hi) (by simpa using hy)) (by rw [hsz]; simp only [List.foldr_cons]; omega)
   refine ⟨(x, x'), ⟨g1, g3⟩, ?_⟩
   have : cs.drop off = (cs.drop off).take n ++ cs.drop (off + n) := by rw [← List.drop_drop, List.take_append_drop]
   rw [this]
   exact relL_append g2 g4
theorem ArgOk.struct {l : List (Nat × Nat × TypeId)} {p : α → Prop} {c : α → List D} (hs : structB P t l = true) (hf : FieldsOk P l 0 p c) : ArgOk P t p c := fun H enc W fuel cs d ps h hw => by
 unfold structB at hs
 split at hs
 ·rename_i fs ht
  simp only [Bool.and_eq_true] at hs
  have hl : (fs.toList.map fun (f : Field) => (f.offset, P.cellsOf f.type, f.type)) = l := eq_of_beq hs.1
  obtain ⟨xs, m, _, hx, hcl, hxl, hget⟩ := DataW.trod_struct ht h
  injection hx with hx _
  subst hx
  have hfl : ∀ (i o n : Nat) (t' : TypeId), l[i]? = some (o, n, t') → ∃ f : Field, fs[i]? = some f ∧ f.offset = o ∧ P.cellsOf f.type = n ∧ f.type = t' := by
   intro i o n t' hi
   rw [← hl, List.getElem?_map] at hi
   cases hf' : fs.toList[i]? with
   | none => rw [hf'] at hi; cases hi
   | some f =>
    rw [hf'] at hi
    simp only [Option.map_some, Option.some.injEq, Prod.mk.injEq] at hi
    exact ⟨f, by simpa using hf', hi.1, hi.2.1, hi.2.2⟩
  have := hf.run H enc W m cs xs (by rw [hxl, ← hl]; simp) (fun i o n t' hi => by
   obtain ⟨f, f1, f2, f3, f4⟩ := hfl i o n t' hi
   have := hget i f f1
   rwa [f2, f3, f4] at this) (fun i o n t' y hi hy k hk => by
   obtain ⟨f, f1, f2, f3, f4⟩ := hfl i o n t' hi
   refine hw k ?_
   simp only [DataW.weights, ht]
   refine DataW.weights_mem_each (j := i) (t := t') (d := y.1) ?_ ?_ k hk
   ·rw [List.getElem?_map]; rw [show fs.toList[i]? = some f by simpa using f1]; rw [← f4]; rfl
   ·rw [List.getElem?_map, hy]; rfl) (by rw [hcl, Nat.eq_of_beq_eq_true hs.2, Nat.zero_add])
  rwa [List.drop_zero] at this
 ·cases hs

def isStruct (P : Program) (t : TypeId) : Bool := match P.underlying t with | some (.struct _) => true | _ => false
theorem arg_struct {H : Type} {enc : TypeId × Value → H} {W : World} {r : Reach} {b0 : Nat} {v : Value} {d : DataW H} {ps : List MemPlace} {p : α → Prop} {c : α → List D} (h : ArgOk P t p c) (ht : isStruct P t = true)
  (hval : Value.okWide P W r b0 t v) (hd : DataW.Trod enc P W 0 (fun _ => true) true t v d ps) (hsz : ∀ n ∈ d.weights P t, n ≤ reachBytes) : ∃ x, p x ∧ (dAgg (c x)).rel (immOf W) v := by
 unfold isStruct at ht
 split at ht
 ·rename_i fs hfs
  obtain ⟨cs, rfl, _⟩ := okWide_struct hfs hval
  obtain ⟨fuel, hf⟩ := hd
  obtain ⟨x, h1, h2⟩ := h H enc W fuel _ d ps hf hsz
  exact ⟨x, h1, cs, rfl, h2⟩
 ·cases ht

theorem arg_bytes {H : Type} {enc : TypeId × Value → H} {W : World} {r : Reach} {b0 : Nat} {v : Value} {d : DataW H} {ps : List MemPlace} (ht : P.underlying t = some (.slice e)) (he : P.underlying e = some (.int .u8)) (hn : P.cellsOf e = 1) (hb : P.bytesOf e = 1)
  (hval : Value.okWide P W r b0 t v) (hd : DataW.Trod enc P W 0 (fun _ => true) true t v d ps) (hsz : ∀ n ∈ d.weights P t, n ≤ reachBytes) : ∃ xs : List Int, (∀ x ∈ xs, 0 ≤ x ∧ x ≤ 255) ∧ (dBy xs).rel (immOf W) v := by
 obtain ⟨a0, l0, c0, rfl⟩ := okWide_slice ht hval
 obtain ⟨fuel, hf⟩ := hd
 rcases DataW.trod_slice ht hf with ⟨h0, _⟩ | ⟨a, len, cap, elems, rest, m, _, h0, hx, _, h1, h2, h3, h4, _, _⟩
 ·simp only [Value.cells, List.cons.injEq, and_true] at h0
  exact ⟨[], (fun x hx => by cases hx), none, 0, h0, Nat.le_refl _, Nat.zero_le _, Nat.zero_le _, fun i x hx => by simp at hx⟩
 ·simp only [Value.cells, List.cons.injEq, and_true] at h0
  injection hx with hx _
  subst hx
  have hlen : len ≤ 140737488355328 := by
   have h7 := hsz ((elems.length + rest.length) * P.bytesOf e) (by simp [DataW.weights, ht])
   have h9 : reachBytes = 140737488351232 := rfl
   rw [hb] at h7
   omega
  have hel : ∀ i, i < len → ∃ x, (0 ≤ x ∧ x ≤ 255) ∧ W.cell? ((a.add i).add 0) = some (.int .u8 x) := by
   intro i hi
   have h5 := h4 i hi
   rw [List.getElem?_eq_getElem (by omega)] at h5
   obtain ⟨vs, h6, h7⟩ := Option.bind_eq_some_iff.1 h5
   obtain ⟨n, rfl, _, hw⟩ := DataW.trod_int he h7
   rw [hn, Nat.mul_one] at h6
   exact ⟨n, wf_u8 hw, (cells_of h6).2 0 _ rfl⟩
  obtain ⟨xs, hxl, hxs⟩ := list_choose hel
  subst hxl
  refine ⟨xs, fun x hx => by obtain ⟨i, hi⟩ := List.getElem?_of_mem hx; exact (hxs i x hi).1, some a, cap, h0, h1, h2, hlen, fun i x hi => ?_⟩
  have hspot : a.spot = none := by
   have h0 : 0 < xs.length := by have := (List.getElem?_eq_some_iff.1 hi).1; omega
   have := (hxs 0 xs[0] (List.getElem?_eq_getElem h0)).2
   rw [Addr.add_zero', Addr.add_zero'] at this
   exact (at_of_cell (d := dTop) this trivial).1
  refine ⟨a, rfl, hspot, ?_⟩
  have := (hxs i x hi).2
  rw [Addr.add_zero'] at this
  rw [Nat.mul_one]
  exact at_of_cell this rfl
end Go.Q
