/- The sanity check of chapter 30 answers true. -/
import Derived.Test.YtgaalfgmgmpnbaaGreatQPlainV3
import Derived.Test.YtgaalfgmgmpnbaaGreatQOwn7
import Derived.Test.YtgaalfgmgmpnbaaGreatQOwn6
set_option linter.unusedVariables false
set_option linter.unusedSimpArgs false
namespace Go.Q
open Go.Proofs
open Classical
theorem sane30_spec  : SpecP Tryz.prog 6 [] (dB True) := by
 have hz0 : szSrv ⟨1, s12, True, [], []⟩ := ⟨by simp, by simp, fun h hh => (by cases hh), fun j hj => (by cases hj)⟩
 have hz1 : szSrv (egV30 []) := eg_sz [] (by simp) (fun j hj => by cases hj)
 have hvl : (wordN (egV30 [egJ30 [4]]) ⟨1, 5⟩ 0).values.length = 2 := by rw [eg_word2.2.2.2]; rfl
 refine specP_of_body Tryz.func6 rfl rfl (fun I M => ?_)
 refine run_seq ?_
 refine run_region ?_
 refine run_op (loc_assign rfl) rfl ?_
 refine run_nil ?_
 refine run_seq ?_
 refine run_region ?_
 refine run_op (loc_build (.one rfl rfl rfl (.one rfl rfl rfl (.nil)))) rfl ?_
 refine run_op (loc_call (snew_spec 1 s12) rfl) rfl ?_
 refine run_op (loc_move rfl) rfl ?_
 refine run_op (loc_extract rfl rfl) rfl ?_
 refine run_op (loc_extract rfl rfl) rfl ?_
 refine run_new (loc_allocOwn (by simp)) rfl (fun b1 _ => ?_)
 refine run_storeN (ho := (by show OneAll [_, _, _, _, _, _, _, _]; infer_instance)) rfl rfl (.here) (by rfl) ?_
 refine run_op (loc_assign rfl) rfl ?_
 refine run_nil ?_
 rw [s12_new.2]
 refine run_seq ?_
 refine run_region ?_
 refine run_op (loc_loadOwnN rfl (.here) (by rfl)) rfl ?_
 refine run_op (loc_build (.one rfl rfl rfl (.nil))) rfl ?_
 refine run_op (loc_buildSlice rfl rfl (.one rfl (.one rfl (.nil))) rfl rfl) rfl ?_
 refine runL_recast (s := 19) rfl (d_sl (ys := [1, 2]) (h := fI) rfl) ?_
 refine run_op (loc_buildSlice rfl rfl (.one rfl (.one rfl (.nil))) rfl rfl) rfl ?_
 refine runL_recast (s := 20) rfl (d_sl (ys := [3, 4]) (h := fI) rfl) ?_
 refine run_op (loc_buildSlice rfl rfl (.one rfl (.one rfl (.nil))) rfl rfl) rfl ?_
 refine runL_recast (s := 21) rfl (d_sl (ys := [[1, 2], [3, 4]]) (h := fR) rfl) ?_
 refine run_op (loc_build (.one rfl rfl rfl (.agg rfl rfl rfl rfl (.one rfl rfl rfl (.one rfl rfl rfl (.nil)))))) rfl ?_
 refine run_op (loc_call (vload_spec ⟨1, s12, True, [], []⟩ egT30 hz0) rfl) rfl ?_
 refine run_op (loc_move rfl) rfl ?_
 refine run_op (loc_extract rfl rfl) rfl ?_
 refine run_op (loc_extract rfl rfl) rfl ?_
 refine run_storeN (ho := (by show OneAll [_, _, _, _, _, _, _, _]; infer_instance)) rfl rfl (.here) (by rfl) ?_
 refine run_op (loc_assign rfl) rfl ?_
 refine run_nil ?_
 rw [eg_load.2]
 refine run_seq ?_
 refine run_region ?_
 refine run_op (loc_loadOwnN rfl (.here) (by rfl)) rfl ?_
 refine run_op (loc_buildSlice rfl rfl (.one rfl (.one rfl (.nil))) rfl rfl) rfl ?_
 refine runL_recast (s := 28) rfl (d_sl (ys := [1, 1]) (h := fI) rfl) ?_
 refine run_op (LocP.imp (d' := dNte egN30) (loc_build (.one rfl rfl rfl (.one rfl rfl rfl (.one rfl rfl rfl (.one rfl rfl rfl (.nil)))))) (by exact d_aggU (.cons (fun _ _ h => h) (.cons (fun _ _ h => h) (.cons (fun _ _ h => h) (.cons (fun _ _ h => h) (.cons (fun _ _ h => h) (.cons (fun _ _ h => h) (.cons d_nil (.cons (fun _ _ h => h) (.nil))))))))))) rfl ?_
 refine run_op (loc_call (vask_spec (egV30 []) egN30 hz1 (by unfold egN30; simp)) rfl) rfl ?_
 refine run_op (loc_move rfl) rfl ?_
 refine run_op (loc_extract rfl rfl) rfl ?_
 refine run_op (loc_extract rfl rfl) rfl ?_
 refine run_storeN (ho := (by show OneAll [_, _, _, _, _, _, _, _]; infer_instance)) rfl rfl (.here) (by rfl) ?_
 refine run_op (loc_assign rfl) rfl ?_
 refine run_nil ?_
 rw [eg_ask.2]
 refine run_seq ?_
 refine run_region ?_
 refine run_op (loc_loadOwnN rfl (.here) (by rfl)) rfl ?_
 refine run_op (loc_build (.one rfl rfl rfl (.one rfl rfl rfl (.nil)))) rfl ?_
 refine run_op (loc_call (vword_spec (egV30 [egJ30 []]) ⟨1, 5⟩ 0 (egV30_ok (by simp) (fun x hx => (by cases hx))) (eg_sz _ (by simp) (fun j hj => by rw [List.mem_singleton.1 hj]; unfold egJ30; simp)) trivial (egJ30 []) [] rfl) rfl) rfl ?_
 refine run_op (loc_move rfl) rfl ?_
 refine run_op (loc_extract rfl rfl) rfl ?_
 refine run_op (loc_extract rfl rfl) rfl ?_
 refine run_op (loc_extract rfl rfl) rfl ?_
 refine run_op (loc_extract rfl rfl) rfl ?_
 refine run_new (loc_allocOwn (by simp)) rfl (fun b2 _ => ?_)
 refine run_storeN (ho := (by show OneAll [_, _, _, _, _, _, _, _]; infer_instance)) rfl rfl (.there (.here)) (by rfl) ?_
 refine run_storeN (ho := (by show OneAll [_, _, _, _, _, _, _, _]; infer_instance)) rfl rfl (.here) (by rfl) ?_
 refine run_op (loc_assign rfl) rfl ?_
 refine run_op (loc_assign rfl) rfl ?_
 refine run_nil ?_
 rw [eg_word1.2.2]
 refine run_seq ?_
 refine run_region ?_
 refine run_op (loc_loadOwnN rfl (.there (.here)) (by rfl)) rfl ?_
 refine run_op (loc_build (.one rfl rfl rfl (.one rfl rfl rfl (.nil)))) rfl ?_
 refine run_op (loc_call (vword_spec (egV30 [egJ30 [4]]) ⟨1, 5⟩ 0 (egV30_ok (by simp) (fun x hx => by rw [List.mem_singleton.1 hx]; show (0 : Int) ≤ 4 ∧ (4 : Int) < 7; omega)) (eg_sz _ (by simp) (fun j hj => by rw [List.mem_singleton.1 hj]; unfold egJ30; simp)) trivial (egJ30 [4]) [] rfl) rfl) rfl ?_
 refine run_op (loc_move rfl) rfl ?_
 refine run_op (loc_extract rfl rfl) rfl ?_
 refine run_op (loc_extract rfl rfl) rfl ?_
 refine run_op (loc_extract rfl rfl) rfl ?_
 refine run_op (loc_extract rfl rfl) rfl ?_
 refine run_new (loc_allocOwn (by simp)) rfl (fun b3 _ => ?_)
 refine run_storeN (ho := (by show OneAll [_, _, _, _, _, _, _, _]; infer_instance)) rfl rfl (.there (.there (.here))) (by rfl) ?_
 refine run_storeN (ho := (by show OneAll [_, _, _, _, _, _, _, _]; infer_instance)) rfl rfl (.here) (by rfl) ?_
 refine run_op (loc_assign rfl) rfl ?_
 refine run_op (loc_assign rfl) rfl ?_
 refine run_nil ?_
 rw [eg_word2.2.2.1]
 refine run_seq ?_
 refine run_region ?_
 refine run_op (loc_move rfl) rfl ?_
 refine run_op (loc_eql rfl rfl) rfl ?_
 refine run_op (loc_move rfl) rfl ?_
 refine run_gfirst rfl rfl gdI.ok (fun hg => loc_move rfl) rfl ?_
 refine run_gop rfl rfl gdI.ok (fun hg => loc_eql rfl rfl) rfl ?_
 refine run_gleave ?_
 refine run_op (loc_and rfl rfl) rfl ?_
 refine run_op (loc_move rfl) rfl ?_
 refine run_gfirst rfl rfl gdI.ok (fun hg => loc_move rfl) rfl ?_
 refine run_gop rfl rfl gdI.ok (fun hg => loc_eql rfl rfl) rfl ?_
 refine run_gleave ?_
 refine run_op (loc_and rfl rfl) rfl ?_
 refine run_op (loc_move rfl) rfl ?_
 refine run_gfirst rfl rfl gdI.ok (fun hg => loc_move rfl) rfl ?_
 refine run_gop rfl rfl gdI.ok (fun hg => loc_eql rfl rfl) rfl ?_
 refine run_gleave ?_
 refine run_op (loc_and rfl rfl) rfl ?_
 refine run_op (loc_move rfl) rfl ?_
 refine run_gfirst rfl rfl gdI.ok (fun hg => loc_move rfl) rfl ?_
 refine run_gop rfl rfl gdI.ok (fun hg => loc_eql rfl rfl) rfl ?_
 refine run_gleave ?_
 refine run_op (loc_and rfl rfl) rfl ?_
 refine run_op (loc_move rfl) rfl ?_
 refine run_gfirst rfl rfl gdI.ok (fun hg => loc_move rfl) rfl ?_
 refine run_gop rfl rfl gdI.ok (fun hg => loc_not rfl) rfl ?_
 refine run_gleave ?_
 refine run_op (loc_and rfl rfl) rfl ?_
 refine run_op (loc_move rfl) rfl ?_
 refine run_gfirst rfl rfl gdI.ok (fun hg => loc_move rfl) rfl ?_
 refine run_gleave ?_
 refine run_op (loc_and rfl rfl) rfl ?_
 refine run_op (loc_move rfl) rfl ?_
 refine run_gfirst rfl rfl gdI.ok (fun hg => loc_fieldAddrOwn rfl) rfl ?_
 refine run_gop rfl rfl gdI.ok (fun hg => loc_loadOwn1 rfl (.here) (by rfl)) rfl ?_
 refine run_gop rfl rfl gdI.ok (fun hg => loc_len rfl) rfl ?_
 refine run_gop rfl rfl gdI.ok (fun hg => loc_eql rfl rfl) rfl ?_
 refine run_gleave ?_
 refine run_op (loc_and rfl rfl) rfl ?_
 refine run_op (loc_move rfl) rfl ?_
 refine run_gfirst rfl rfl gdI.ok (fun hg => loc_fieldAddrOwn rfl) rfl ?_
 refine run_gop rfl rfl gdI.ok (fun hg => loc_loadOwn1 rfl (.here) (by rfl)) rfl ?_
 first | refine run_gop rfl rfl gdI.ok (fun hg => loc_index rfl rfl (by first | omega | assumption)) rfl ?_ | refine run_gop rfl rfl gdI.ok (fun hg => loc_indexI rfl rfl (by first | omega | assumption)) rfl ?_
 refine run_gop rfl rfl gdI.ok (fun hg => loc_load1 rfl) rfl ?_
 refine run_gop rfl rfl gdI.ok (fun hg => loc_eql rfl rfl) rfl ?_
 refine run_gleave ?_
 refine run_op (loc_and rfl rfl) rfl ?_
 refine run_op (loc_move rfl) rfl ?_
 refine run_gfirst rfl rfl gdI.ok (fun hg => loc_fieldAddrOwn rfl) rfl ?_
 refine run_gop rfl rfl gdI.ok (fun hg => loc_loadOwn1 rfl (.here) (by rfl)) rfl ?_
 first | refine run_gop rfl rfl gdI.ok (fun hg => loc_index rfl rfl (by first | omega | assumption)) rfl ?_ | refine run_gop rfl rfl gdI.ok (fun hg => loc_indexI rfl rfl (by first | omega | assumption)) rfl ?_
 refine run_gop rfl rfl gdI.ok (fun hg => loc_load1 rfl) rfl ?_
 refine run_gop rfl rfl gdI.ok (fun hg => loc_eql rfl rfl) rfl ?_
 refine run_gleave ?_
 refine run_op (loc_and rfl rfl) rfl ?_
 refine run_op (loc_move rfl) rfl ?_
 refine run_gfirst rfl rfl gdI.ok (fun hg => loc_fieldAddrOwn rfl) rfl ?_
 refine run_gop rfl rfl gdI.ok (fun hg => loc_loadOwn1 rfl (.there (.there (.here))) (by rfl)) rfl ?_
 refine run_gop rfl rfl gdI.ok (fun hg => loc_len rfl) rfl ?_
 refine run_gop rfl rfl gdI.ok (fun hg => loc_eql rfl rfl) rfl ?_
 refine run_gleave ?_
 refine run_op (loc_and rfl rfl) rfl ?_
 refine run_op (loc_assign rfl) rfl ?_
 refine run_nil ?_
 refine run_drop (.cons _ (.cons _ (.cons _ (.refl _)))) ?_
 refine run_retP Tryz.func6 rfl rfl ?_
 exact d_B ⟨fun _ => trivial, fun _ => ⟨⟨⟨⟨⟨⟨⟨⟨⟨⟨s12_new.1, eg_load.1⟩, eg_ask.1⟩, eg_word1.1⟩, eg_word2.1⟩, eg_word1.2.1⟩, eg_word2.2.1⟩, by rw [eg_word2.2.2.2]; rfl⟩, by rw [eg_word2.2.2.2]; rfl⟩, by rw [eg_word2.2.2.2]; rfl⟩, rfl⟩⟩
end Go.Q

namespace Go.Q
open Go.Proofs
open Classical
theorem ints30_spec (xs ys : List Int) : SpecP Tryz.prog 25 [dInts xs, dInts ys] (dB (xs = ys)) := by
  refine specP_of_body Tryz.func25 rfl rfl (fun I M => ?_)
  refine run_seq ?_
  refine run_region ?_
  refine run_op (loc_assign rfl) rfl ?_
  refine run_nil ?_
  refine run_seq ?_
  refine run_seq ?_
  refine run_region ?_
  refine run_op (loc_move rfl) rfl ?_
  first | refine runL_fact (s := 6) rfl (fun _ _ h => dSl_len h) (fun hlen1 => ?_) | skip
  refine run_op (loc_len rfl) rfl ?_
  refine run_op (loc_move rfl) rfl ?_
  first | refine runL_fact (s := 8) rfl (fun _ _ h => dSl_len h) (fun hlen2 => ?_) | skip
  refine run_op (loc_len rfl) rfl ?_
  refine run_op (loc_neq rfl rfl) rfl ?_
  refine run_nil ?_
  refine run_cond rfl (fun h3 => ?_) (fun h3 => ?_)
  ·
   refine run_seq ?_
   refine run_region ?_
   refine run_op (loc_assign rfl) rfl ?_
   refine run_nil ?_
   refine run_retP Tryz.func25 rfl rfl ?_
   exact d_B ⟨False.elim, fun h => by subst h; omega⟩
  ·
   refine run_skip ?_
   refine run_seq ?_
   refine run_seq ?_
   refine run_region ?_
   refine run_op (loc_assign rfl) rfl ?_
   refine run_nil ?_
   refine run_block ?_
   refine run_loopC (σ := Nat) (ks := [0, 1]) (.cons rfl (.cons rfl (.nil))) (fun k => [(5, dInt .i64 (k : Nat))]) (fun k => k ≤ xs.length ∧ (∀ j, j < k → xs[j]?.getD default = ys[j]?.getD default)) (fun k => xs.length - k) (0) (⟨by omega, fun j hj => by omega⟩) (.cons rfl (by first | exact fun _ _ h => h | exact d_int (by omega) | exact d_int (by simp) | exact d_intN (by omega) | exact d_any) .nil) ?_
   rintro k ⟨hk, hbk⟩ ih4
   refine run_seq ?_
   refine run_seq ?_
   refine run_region ?_
   refine run_op (loc_move rfl) rfl ?_
   refine run_op (loc_move rfl) rfl ?_
   first | refine runL_fact (s := 12) rfl (fun _ _ h => dSl_len h) (fun hlen5 => ?_) | skip
   refine run_op (loc_len rfl) rfl ?_
   refine run_op (loc_lss rfl rfl) rfl ?_
   refine run_nil ?_
   refine run_cond rfl (fun h6 => ?_) (fun h6 => ?_)
   ·
    refine run_skip ?_
    refine run_seq ?_
    refine run_block ?_
    refine run_seq ?_
    refine dr_start _ (.none) [⟨[(0, none)], [], none⟩,
        ⟨[(5, none)], [], none⟩,
        ⟨[(17, some (0, false)), (18, some (1, false))], [0, 1], none⟩,
        ⟨[(19, some (2, false))], [0, 1, 2], none⟩,
        ⟨[(1, none)], [], none⟩,
        ⟨[(5, none)], [], none⟩,
        ⟨[(21, some (4, false)), (22, some (5, false))], [4, 5], none⟩,
        ⟨[(23, some (6, false))], [4, 5, 6], none⟩,
        ⟨[(20, some (3, false)), (24, some (7, false))], [0, 1, 2, 3, 4, 5, 6, 7], none⟩] [] _ rfl rfl ?_
    refine dq_pure rfl (fun s => .g rfl (.nil)) (fun s hs _ => loc_move rfl) (by exact .nil) ?_
    refine dq_pure rfl (fun s => .g rfl (.nil)) (fun s hs _ => loc_move rfl) (by exact .nil) ?_
    first | refine dq_pure rfl (fun s => .op rfl (.op rfl (.nil))) (fun s hs _ => loc_index rfl rfl (by first | omega | assumption)) (by exact .nil) ?_ | refine dq_pure rfl (fun s => .op rfl (.op rfl (.nil))) (fun s hs _ => loc_indexI rfl rfl (by first | omega | assumption)) (by exact .nil) ?_
    refine dq_pure rfl (fun s => .op rfl (.nil)) (fun s hs _ => loc_load1 rfl) (by exact .nil) ?_
    refine dq_pure rfl (fun s => .g rfl (.nil)) (fun s hs _ => loc_move rfl) (by exact .nil) ?_
    refine dq_pure rfl (fun s => .g rfl (.nil)) (fun s hs _ => loc_move rfl) (by exact .nil) ?_
    first | refine dq_pure rfl (fun s => .op rfl (.op rfl (.nil))) (fun s hs _ => loc_index rfl rfl (by first | omega | assumption)) (by exact .nil) ?_ | refine dq_pure rfl (fun s => .op rfl (.op rfl (.nil))) (fun s hs _ => loc_indexI rfl rfl (by first | omega | assumption)) (by exact .nil) ?_
    refine dq_pure rfl (fun s => .op rfl (.nil)) (fun s hs _ => loc_load1 rfl) (by exact .nil) ?_
    refine dq_pure rfl (fun s => .op rfl (.op rfl (.nil))) (fun s hs _ => loc_neq rfl rfl) (by exact .nil) ?_
    refine dq_end (rs := []) () rfl (fun _ => rfl) (.nil) rfl (fun _ => rfl) (fun _ _ => ?_)
    dsimp only [outG, outM, List.map, List.set, id]
    refine run_cond rfl (fun h7 => ?_) (fun h7 => ?_)
    ·
     refine run_seq ?_
     refine run_region ?_
     refine run_op (loc_assign rfl) rfl ?_
     refine run_nil ?_
     refine run_retP Tryz.func25 rfl rfl ?_
     exact d_B ⟨False.elim, fun h => by subst h; contradiction⟩
    ·
     refine run_skip ?_
     refine run_inBlock ?_
     refine run_region ?_
     refine run_op (loc_move rfl) rfl ?_
     first | refine run_op (loc_add rfl rfl (by first | omega | assumption)) rfl ?_ | refine run_op (loc_addW rfl rfl) rfl ?_
     refine run_op (loc_assign rfl) rfl ?_
     refine run_nil ?_
     exact run_againC ih4 (k + 1) (⟨by omega, fun j hj => by by_cases e : j = k; (· subst e; exact Classical.not_not.1 (by assumption)); (· exact hbk j (by omega))⟩) (by omega) (.cons rfl (by first | exact fun _ _ h => h | exact d_int (by omega) | exact d_int (by simp) | exact d_intN (by omega) | exact d_any) .nil) (.cons rfl (fun _ _ x => x) (.cons rfl (fun _ _ x => x) (.nil)))
   ·
    refine run_exit rfl ?_
    refine run_seq ?_
    refine run_region ?_
    refine run_op (loc_assign rfl) rfl ?_
    refine run_nil ?_
    refine run_retP Tryz.func25 rfl rfl ?_
    exact d_B ⟨fun _ => list_extD (by omega) (fun j hj => hbk j (by omega)), fun _ => trivial⟩
theorem rows30_spec (xs ys : List (List Int)) : SpecP Tryz.prog 113 [dRows xs, dRows ys] (dB (xs = ys)) := by
  refine specP_of_body Tryz.func113 rfl rfl (fun I M => ?_)
  refine run_seq ?_
  refine run_region ?_
  refine run_op (loc_assign rfl) rfl ?_
  refine run_nil ?_
  refine run_seq ?_
  refine run_seq ?_
  refine run_region ?_
  refine run_op (loc_move rfl) rfl ?_
  first | refine runL_fact (s := 6) rfl (fun _ _ h => dSl_len h) (fun hlen1 => ?_) | skip
  refine run_op (loc_len rfl) rfl ?_
  refine run_op (loc_move rfl) rfl ?_
  first | refine runL_fact (s := 8) rfl (fun _ _ h => dSl_len h) (fun hlen2 => ?_) | skip
  refine run_op (loc_len rfl) rfl ?_
  refine run_op (loc_neq rfl rfl) rfl ?_
  refine run_nil ?_
  refine run_cond rfl (fun h3 => ?_) (fun h3 => ?_)
  ·
   refine run_seq ?_
   refine run_region ?_
   refine run_op (loc_assign rfl) rfl ?_
   refine run_nil ?_
   refine run_retP Tryz.func113 rfl rfl ?_
   exact d_B ⟨False.elim, fun h => by subst h; omega⟩
  ·
   refine run_skip ?_
   refine run_seq ?_
   refine run_seq ?_
   refine run_region ?_
   refine run_op (loc_assign rfl) rfl ?_
   refine run_nil ?_
   refine run_block ?_
   refine run_loopC (σ := Nat) (ks := [0, 1]) (.cons rfl (.cons rfl (.nil))) (fun k => [(5, dInt .i64 (k : Nat))]) (fun k => k ≤ xs.length ∧ (∀ j, j < k → xs[j]?.getD default = ys[j]?.getD default)) (fun k => xs.length - k) (0) (⟨by omega, fun j hj => by omega⟩) (.cons rfl (by first | exact fun _ _ h => h | exact d_int (by omega) | exact d_int (by simp) | exact d_intN (by omega) | exact d_any) .nil) ?_
   rintro k ⟨hk, hbk⟩ ih4
   refine run_seq ?_
   refine run_seq ?_
   refine run_region ?_
   refine run_op (loc_move rfl) rfl ?_
   refine run_op (loc_move rfl) rfl ?_
   first | refine runL_fact (s := 12) rfl (fun _ _ h => dSl_len h) (fun hlen5 => ?_) | skip
   refine run_op (loc_len rfl) rfl ?_
   refine run_op (loc_lss rfl rfl) rfl ?_
   refine run_nil ?_
   refine run_cond rfl (fun h6 => ?_) (fun h6 => ?_)
   ·
    refine run_skip ?_
    refine run_seq ?_
    refine run_block ?_
    refine run_seq ?_
    refine dr_start _ (.none) [⟨[(0, none)], [], none⟩,
        ⟨[(5, none)], [], none⟩,
        ⟨[(17, some (0, false)), (18, some (1, false))], [0, 1], none⟩,
        ⟨[(19, some (2, false))], [0, 1, 2], none⟩,
        ⟨[(1, none)], [], none⟩,
        ⟨[(5, none)], [], none⟩,
        ⟨[(21, some (4, false)), (22, some (5, false))], [4, 5], none⟩,
        ⟨[(23, some (6, false))], [4, 5, 6], none⟩,
        ⟨[(20, some (3, false)), (24, some (7, false))], [0, 1, 2, 3, 4, 5, 6, 7], none⟩,
        ⟨[(25, some (8, false))], [0, 1, 2, 3, 4, 5, 6, 7, 8], none⟩] [] _ rfl rfl ?_
    refine dq_pure rfl (fun s => .g rfl (.nil)) (fun s hs _ => loc_move rfl) (by exact .nil) ?_
    refine dq_pure rfl (fun s => .g rfl (.nil)) (fun s hs _ => loc_move rfl) (by exact .nil) ?_
    first | refine dq_pure rfl (fun s => .op rfl (.op rfl (.nil))) (fun s hs _ => loc_index rfl rfl (by first | omega | assumption)) (by exact .nil) ?_ | refine dq_pure rfl (fun s => .op rfl (.op rfl (.nil))) (fun s hs _ => loc_indexI rfl rfl (by first | omega | assumption)) (by exact .nil) ?_
    refine dq_pure rfl (fun s => .op rfl (.nil)) (fun s hs _ => loc_load1 rfl) (by exact .nil) ?_
    refine dq_pure rfl (fun s => .g rfl (.nil)) (fun s hs _ => loc_move rfl) (by exact .nil) ?_
    refine dq_pure rfl (fun s => .g rfl (.nil)) (fun s hs _ => loc_move rfl) (by exact .nil) ?_
    first | refine dq_pure rfl (fun s => .op rfl (.op rfl (.nil))) (fun s hs _ => loc_index rfl rfl (by first | omega | assumption)) (by exact .nil) ?_ | refine dq_pure rfl (fun s => .op rfl (.op rfl (.nil))) (fun s hs _ => loc_indexI rfl rfl (by first | omega | assumption)) (by exact .nil) ?_
    refine dq_pure rfl (fun s => .op rfl (.nil)) (fun s hs _ => loc_load1 rfl) (by exact .nil) ?_
    refine dq_pure rfl (fun s => .op rfl (.op rfl (.nil))) (fun s hs _ => loc_call (ints30_spec _ _) rfl) (by exact .nil) ?_
    refine dq_pure rfl (fun s => .op rfl (.nil)) (fun s hs _ => loc_not rfl) (by exact .nil) ?_
    refine dq_end (rs := []) () rfl (fun _ => rfl) (.nil) rfl (fun _ => rfl) (fun _ _ => ?_)
    dsimp only [outG, outM, List.map, List.set, id]
    refine run_cond rfl (fun h7 => ?_) (fun h7 => ?_)
    ·
     refine run_seq ?_
     refine run_region ?_
     refine run_op (loc_assign rfl) rfl ?_
     refine run_nil ?_
     refine run_retP Tryz.func113 rfl rfl ?_
     exact d_B ⟨False.elim, fun h => by subst h; contradiction⟩
    ·
     refine run_skip ?_
     refine run_inBlock ?_
     refine run_region ?_
     refine run_op (loc_move rfl) rfl ?_
     first | refine run_op (loc_add rfl rfl (by first | omega | assumption)) rfl ?_ | refine run_op (loc_addW rfl rfl) rfl ?_
     refine run_op (loc_assign rfl) rfl ?_
     refine run_nil ?_
     exact run_againC ih4 (k + 1) (⟨by omega, fun j hj => by by_cases e : j = k; (· subst e; exact Classical.not_not.1 (by assumption)); (· exact hbk j (by omega))⟩) (by omega) (.cons rfl (by first | exact fun _ _ h => h | exact d_int (by omega) | exact d_int (by simp) | exact d_intN (by omega) | exact d_any) .nil) (.cons rfl (fun _ _ x => x) (.cons rfl (fun _ _ x => x) (.nil)))
   ·
    refine run_exit rfl ?_
    refine run_seq ?_
    refine run_region ?_
    refine run_op (loc_assign rfl) rfl ?_
    refine run_nil ?_
    refine run_retP Tryz.func113 rfl rfl ?_
    exact d_B ⟨fun _ => list_extD (by omega) (fun j hj => hbk j (by omega)), fun _ => trivial⟩
theorem sameRs30_spec (xs ys : List (List Int)) : SpecP Tryz.prog 61 [dRows xs, dRows ys] (dB (xs = ys)) := by
 refine specP_of_body Tryz.func61 rfl rfl (fun I M => ?_)
 refine run_seq ?_
 refine run_region ?_
 refine run_op (loc_assign rfl) rfl ?_
 refine run_nil ?_
 refine run_seq ?_
 refine run_region ?_
 refine run_op (loc_move rfl) rfl ?_
 refine run_op (loc_move rfl) rfl ?_
 refine run_op (loc_call (rows30_spec _ _) rfl) rfl ?_
 refine run_op (loc_assign rfl) rfl ?_
 refine run_nil ?_
 refine run_retP Tryz.func61 rfl rfl ?_
 exact fun _ _ h => h
theorem Hd.ext' {a b : Hd} (h1 : a.number = b.number) (h2 : a.p = b.p) (h3 : a.count = b.count) (h4 : a.width = b.width) (h5 : a.root = b.root) : a = b := by cases a; cases b; simp_all
theorem Held.ext' {a b : Held} (h1 : a.head = b.head) (h2 : a.rows = b.rows) : a = b := by cases a; cases b; simp_all
theorem Job.ext' {a b : Job} (h1 : a.read = b.read) (h2 : a.probe = b.probe) (h3 : a.version = b.version) (h4 : a.query = b.query) (h5 : a.got = b.got) : a = b := by cases a; cases b; simp_all
theorem Schm.ext' {a b : Schm} (h1 : a.kind = b.kind) (h2 : a.servers = b.servers) (h3 : a.degree = b.degree) (h4 : a.group = b.group) : a = b := by cases a; cases b; simp_all
theorem Srv.ext' {a b : Srv} (h1 : a.id = b.id) (h2 : a.scheme = b.scheme) (h3 : a.up ↔ b.up) (h4 : a.versions = b.versions) (h5 : a.jobs = b.jobs) : a = b := by
 cases a; cases b
 simp only at h1 h2 h3 h4 h5
 have h6 := propext h3
 subst h1 h2 h4 h5 h6; rfl
theorem vsame_spec (a b : Srv) : SpecP Tryz.prog 20 [dSrv a, dSrv b] (dB (a = b)) := by
  refine specP_of_body Tryz.func20 rfl rfl (fun I M => ?_)
  refine run_seq ?_
  refine run_region ?_
  refine run_op (loc_boxN rfl) rfl ?_
  refine run_op (loc_boxN rfl) rfl ?_
  refine run_op (loc_assign rfl) rfl ?_
  refine run_nil ?_
  refine run_seq ?_
  refine run_seq ?_
  refine run_region ?_
  refine run_op (loc_fieldAddr rfl) rfl ?_
  refine run_op (loc_load1 rfl) rfl ?_
  refine run_op (loc_fieldAddr rfl) rfl ?_
  refine run_op (loc_load1 rfl) rfl ?_
  refine run_op (loc_neq rfl rfl) rfl ?_
  refine run_op (loc_move rfl) rfl ?_
  refine run_gfirst rfl rfl gdI.ok (fun hg => loc_fieldAddr rfl) rfl ?_
  refine run_gop rfl rfl gdI.ok (fun hg => loc_loadN rfl rfl) rfl ?_
  refine run_gop rfl rfl gdI.ok (fun hg => loc_fieldAddr rfl) rfl ?_
  refine run_gop rfl rfl gdI.ok (fun hg => loc_loadN rfl rfl) rfl ?_
  refine run_gop rfl rfl gdI.ok (fun hg => loc_neqI rfl rfl (.cons (.cons (.cons (.cons (.nil))))) rfl) rfl ?_
  refine run_gleave ?_
  refine run_op (loc_or rfl rfl) rfl ?_
  refine run_op (loc_move rfl) rfl ?_
  refine run_gfirst rfl rfl gdI.ok (fun hg => loc_fieldAddr rfl) rfl ?_
  refine run_gop rfl rfl gdI.ok (fun hg => loc_load1 rfl) rfl ?_
  refine run_gop rfl rfl gdI.ok (fun hg => loc_fieldAddr rfl) rfl ?_
  refine run_gop rfl rfl gdI.ok (fun hg => loc_load1 rfl) rfl ?_
  refine run_gop rfl rfl gdI.ok (fun hg => loc_neqB rfl rfl) rfl ?_
  refine run_gleave ?_
  refine run_op (loc_or rfl rfl) rfl ?_
  refine run_op (loc_move rfl) rfl ?_
  refine run_gfirst rfl rfl gdI.ok (fun hg => loc_fieldAddr rfl) rfl ?_
  refine run_gop rfl rfl gdI.ok (fun hg => loc_load1 rfl) rfl ?_
  refine run_gop rfl rfl gdI.ok (fun hg => loc_len rfl) rfl ?_
  refine run_gop rfl rfl gdI.ok (fun hg => loc_fieldAddr rfl) rfl ?_
  refine run_gop rfl rfl gdI.ok (fun hg => loc_load1 rfl) rfl ?_
  refine run_gop rfl rfl gdI.ok (fun hg => loc_len rfl) rfl ?_
  refine run_gop rfl rfl gdI.ok (fun hg => loc_neq rfl rfl) rfl ?_
  refine run_gleave ?_
  refine run_op (loc_or rfl rfl) rfl ?_
  refine run_op (loc_move rfl) rfl ?_
  refine run_gfirst rfl rfl gdI.ok (fun hg => loc_fieldAddr rfl) rfl ?_
  refine run_gop rfl rfl gdI.ok (fun hg => loc_load1 rfl) rfl ?_
  refine run_gop rfl rfl gdI.ok (fun hg => loc_len rfl) rfl ?_
  refine run_gop rfl rfl gdI.ok (fun hg => loc_fieldAddr rfl) rfl ?_
  refine run_gop rfl rfl gdI.ok (fun hg => loc_load1 rfl) rfl ?_
  refine run_gop rfl rfl gdI.ok (fun hg => loc_len rfl) rfl ?_
  refine run_gop rfl rfl gdI.ok (fun hg => loc_neq rfl rfl) rfl ?_
  refine run_gleave ?_
  refine run_op (loc_or rfl rfl) rfl ?_
  refine run_nil ?_
  refine run_cond rfl (fun h1 => ?_) (fun h1 => ?_)
  ·
   have h9 := h1
   refine run_seq ?_
   refine run_region ?_
   refine run_op (loc_assign rfl) rfl ?_
   refine run_nil ?_
   refine run_retP Tryz.func20 rfl rfl ?_
   exact d_B ⟨False.elim, fun h => by subst h; simp at h9⟩
  ·
   have h9 := h1
   simp only [not_or, ne_eq, Classical.not_not, List.cons.injEq, and_true] at h9
   refine run_skip ?_
   refine run_seq ?_
   refine run_seq ?_
   refine run_region ?_
   refine run_op (loc_assign rfl) rfl ?_
   refine run_nil ?_
   refine run_block ?_
   refine run_loopC (σ := Nat) (ks := [2, 3]) (.cons rfl (.cons rfl (.nil))) (fun k => [(5, dInt .i64 (k : Nat))]) (fun k => k ≤ a.versions.length ∧ (∀ j, j < k → a.versions[j]?.getD default = b.versions[j]?.getD default)) (fun k => a.versions.length - k) (0) (⟨by omega, fun j hj => by omega⟩) (.cons rfl (by first | exact fun _ _ h => h | exact d_int (by omega) | exact d_int (by simp) | exact d_intN (by omega) | exact d_any) .nil) ?_
   rintro k ⟨hk, hbk⟩ ih2
   refine run_seq ?_
   refine run_seq ?_
   refine run_region ?_
   refine run_op (loc_move rfl) rfl ?_
   refine run_op (loc_fieldAddr rfl) rfl ?_
   refine run_op (loc_load1 rfl) rfl ?_
   first | refine runL_fact (s := 48) rfl (fun _ _ h => dSl_len h) (fun hlen3 => ?_) | skip
   refine run_op (loc_len rfl) rfl ?_
   refine run_op (loc_lss rfl rfl) rfl ?_
   refine run_nil ?_
   refine run_cond rfl (fun h4 => ?_) (fun h4 => ?_)
   ·
    refine run_skip ?_
    refine run_seq ?_
    refine run_block ?_
    refine run_seq ?_
    refine dr_start _ (.none) [⟨[(2, none)], [], none⟩,
        ⟨[(53, some (0, false))], [0], none⟩,
        ⟨[(5, none)], [], none⟩,
        ⟨[(54, some (1, false)), (55, some (2, false))], [0, 1, 2], none⟩,
        ⟨[(56, some (3, false))], [0, 1, 2, 3], none⟩,
        ⟨[(57, some (4, false))], [0, 1, 2, 3, 4], none⟩,
        ⟨[(3, none)], [], none⟩,
        ⟨[(59, some (6, false))], [6], none⟩,
        ⟨[(5, none)], [], none⟩,
        ⟨[(60, some (7, false)), (61, some (8, false))], [6, 7, 8], none⟩,
        ⟨[(62, some (9, false))], [6, 7, 8, 9], none⟩,
        ⟨[(63, some (10, false))], [6, 7, 8, 9, 10], none⟩,
        ⟨[(58, some (5, false)), (64, some (11, false))], [0, 1, 2, 3, 4, 5, 6, 7, 8, 9, 10, 11], none⟩,
        ⟨[(65, some (12, false))], [0, 1, 2, 3, 4, 5, 6, 7, 8, 9, 10, 11, 12], none⟩,
        ⟨[(2, none)], [0, 1, 2, 3, 4, 5, 6, 7, 8, 9, 10, 11, 12, 13], none⟩,
        ⟨[(67, some (14, true))], [0, 1, 2, 3, 4, 5, 6, 7, 8, 9, 10, 11, 12, 13, 14], none⟩,
        ⟨[(5, none)], [0, 1, 2, 3, 4, 5, 6, 7, 8, 9, 10, 11, 12, 13], none⟩,
        ⟨[(68, some (15, true)), (69, some (16, true))], [0, 1, 2, 3, 4, 5, 6, 7, 8, 9, 10, 11, 12, 13, 14, 15, 16], none⟩,
        ⟨[(70, some (17, true))], [0, 1, 2, 3, 4, 5, 6, 7, 8, 9, 10, 11, 12, 13, 14, 15, 16, 17], none⟩,
        ⟨[(71, some (18, true))], [0, 1, 2, 3, 4, 5, 6, 7, 8, 9, 10, 11, 12, 13, 14, 15, 16, 17, 18], none⟩,
        ⟨[(3, none)], [0, 1, 2, 3, 4, 5, 6, 7, 8, 9, 10, 11, 12, 13], none⟩,
        ⟨[(73, some (20, true))], [0, 1, 2, 3, 4, 5, 6, 7, 8, 9, 10, 11, 12, 13, 20], none⟩,
        ⟨[(5, none)], [0, 1, 2, 3, 4, 5, 6, 7, 8, 9, 10, 11, 12, 13], none⟩,
        ⟨[(74, some (21, true)), (75, some (22, true))], [0, 1, 2, 3, 4, 5, 6, 7, 8, 9, 10, 11, 12, 13, 20, 21, 22], none⟩,
        ⟨[(76, some (23, true))], [0, 1, 2, 3, 4, 5, 6, 7, 8, 9, 10, 11, 12, 13, 20, 21, 22, 23], none⟩,
        ⟨[(77, some (24, true))], [0, 1, 2, 3, 4, 5, 6, 7, 8, 9, 10, 11, 12, 13, 20, 21, 22, 23, 24], none⟩,
        ⟨[(72, some (19, true)), (78, some (25, true))], [0, 1, 2, 3, 4, 5, 6, 7, 8, 9, 10, 11, 12, 13, 14, 15, 16, 17, 18, 19, 20, 21, 22, 23, 24, 25], none⟩,
        ⟨[(79, some (26, true))], [0, 1, 2, 3, 4, 5, 6, 7, 8, 9, 10, 11, 12, 13, 14, 15, 16, 17, 18, 19, 20, 21, 22, 23, 24, 25, 26], none⟩,
        ⟨[(66, some (13, false)), (80, some (27, false))], [0, 1, 2, 3, 4, 5, 6, 7, 8, 9, 10, 11, 12, 13, 14, 15, 16, 17, 18, 19, 20, 21, 22, 23, 24, 25, 26, 27], none⟩] [] _ rfl rfl ?_
    refine dq_pure rfl (fun s => .g rfl (.nil)) (fun s hs _ => loc_fieldAddr rfl) (by exact .nil) ?_
    refine dq_pure rfl (fun s => .op rfl (.nil)) (fun s hs _ => loc_load1 rfl) (by exact .nil) ?_
    refine dq_pure rfl (fun s => .g rfl (.nil)) (fun s hs _ => loc_move rfl) (by exact .nil) ?_
    first | refine dq_pure rfl (fun s => .op rfl (.op rfl (.nil))) (fun s hs _ => loc_index rfl rfl (by first | omega | assumption)) (by exact .nil) ?_ | refine dq_pure rfl (fun s => .op rfl (.op rfl (.nil))) (fun s hs _ => loc_indexI rfl rfl (by first | omega | assumption)) (by exact .nil) ?_
    refine dq_pure rfl (fun s => .op rfl (.nil)) (fun s hs _ => loc_fieldAddr rfl) (by exact .nil) ?_
    refine dq_pure rfl (fun s => .op rfl (.nil)) (fun s hs _ => loc_loadN rfl rfl) (by exact .nil) ?_
    refine dq_pure rfl (fun s => .g rfl (.nil)) (fun s hs _ => loc_fieldAddr rfl) (by exact .nil) ?_
    refine dq_pure rfl (fun s => .op rfl (.nil)) (fun s hs _ => loc_load1 rfl) (by exact .nil) ?_
    refine dq_pure rfl (fun s => .g rfl (.nil)) (fun s hs _ => loc_move rfl) (by exact .nil) ?_
    first | refine dq_pure rfl (fun s => .op rfl (.op rfl (.nil))) (fun s hs _ => loc_index rfl rfl (by first | omega | assumption)) (by exact .nil) ?_ | refine dq_pure rfl (fun s => .op rfl (.op rfl (.nil))) (fun s hs _ => loc_indexI rfl rfl (by first | omega | assumption)) (by exact .nil) ?_
    refine dq_pure rfl (fun s => .op rfl (.nil)) (fun s hs _ => loc_fieldAddr rfl) (by exact .nil) ?_
    refine dq_pure rfl (fun s => .op rfl (.nil)) (fun s hs _ => loc_loadN rfl rfl) (by exact .nil) ?_
    refine dq_pure rfl (fun s => .op rfl (.op rfl (.nil))) (fun s hs _ => loc_neqI rfl rfl (.cons (.cons (.cons (.cons (.cons (.nil)))))) rfl) (by exact .nil) ?_
    refine dq_pure rfl (fun s => .op rfl (.nil)) (fun s hs _ => loc_move rfl) (by exact .nil) ?_
    refine dq_gpure rfl (fun s => .g rfl (.nil)) rfl (fun _ => gdI.ok) (fun s hs hg _ => loc_fieldAddr rfl) (by exact .nil) ?_
    refine dq_gpure rfl (fun s => .opU rfl (.nil)) rfl (fun _ => gdI.ok) (fun s hs hg _ => loc_load1 rfl) (by exact .nil) ?_
    refine dq_gpure rfl (fun s => .g rfl (.nil)) rfl (fun _ => gdI.ok) (fun s hs hg _ => loc_move rfl) (by exact .nil) ?_
    first | refine dq_gpure rfl (fun s => .opU rfl (.opU rfl (.nil))) rfl (fun _ => gdI.ok) (fun s hs hg _ => loc_index rfl rfl (by first | omega | assumption)) (by exact .nil) ?_ | refine dq_gpure rfl (fun s => .opU rfl (.opU rfl (.nil))) rfl (fun _ => gdI.ok) (fun s hs hg _ => loc_indexI rfl rfl (by first | omega | assumption)) (by exact .nil) ?_
    refine dq_gpure rfl (fun s => .opU rfl (.nil)) rfl (fun _ => gdI.ok) (fun s hs hg _ => loc_fieldAddr rfl) (by exact .nil) ?_
    refine dq_gpure rfl (fun s => .opU rfl (.nil)) rfl (fun _ => gdI.ok) (fun s hs hg _ => loc_load1 rfl) (by exact .nil) ?_
    refine dq_gpure rfl (fun s => .g rfl (.nil)) rfl (fun _ => gdI.ok) (fun s hs hg _ => loc_fieldAddr rfl) (by exact .nil) ?_
    refine dq_gpure rfl (fun s => .opU rfl (.nil)) rfl (fun _ => gdI.ok) (fun s hs hg _ => loc_load1 rfl) (by exact .nil) ?_
    refine dq_gpure rfl (fun s => .g rfl (.nil)) rfl (fun _ => gdI.ok) (fun s hs hg _ => loc_move rfl) (by exact .nil) ?_
    first | refine dq_gpure rfl (fun s => .opU rfl (.opU rfl (.nil))) rfl (fun _ => gdI.ok) (fun s hs hg _ => loc_index rfl rfl (by first | omega | assumption)) (by exact .nil) ?_ | refine dq_gpure rfl (fun s => .opU rfl (.opU rfl (.nil))) rfl (fun _ => gdI.ok) (fun s hs hg _ => loc_indexI rfl rfl (by first | omega | assumption)) (by exact .nil) ?_
    refine dq_gpure rfl (fun s => .opU rfl (.nil)) rfl (fun _ => gdI.ok) (fun s hs hg _ => loc_fieldAddr rfl) (by exact .nil) ?_
    refine dq_gpure rfl (fun s => .opU rfl (.nil)) rfl (fun _ => gdI.ok) (fun s hs hg _ => loc_load1 rfl) (by exact .nil) ?_
    refine dq_gpure rfl (fun s => .opU rfl (.opU rfl (.nil))) rfl (fun _ => gdI.ok) (fun s hs hg _ => loc_call (sameRs30_spec _ _) rfl) (by exact .nil) ?_
    refine dq_gpure rfl (fun s => .opU rfl (.nil)) rfl (fun _ => gdI.ok) (fun s hs hg _ => loc_not rfl) (by exact .nil) ?_
    refine dq_pure rfl (fun s => .op rfl (.op rfl (.nil))) (fun s hs _ => loc_or rfl rfl) (by exact .nil) ?_
    refine dq_end (rs := []) () rfl (fun _ => rfl) (.nil) rfl (fun _ => rfl) (fun _ _ => ?_)
    dsimp only [outG, outM, List.map, List.set, id]
    refine run_cond rfl (fun h5 => ?_) (fun h5 => ?_)
    ·
     have g9 := h5
     refine run_seq ?_
     refine run_region ?_
     refine run_op (loc_assign rfl) rfl ?_
     refine run_nil ?_
     refine run_retP Tryz.func20 rfl rfl ?_
     exact d_B ⟨False.elim, fun h => by subst h; simp at g9⟩
    ·
     have g9 := h5
     simp only [not_or, ne_eq, Classical.not_not, List.cons.injEq, and_true] at g9
     refine run_skip ?_
     refine run_inBlock ?_
     refine run_region ?_
     refine run_op (loc_move rfl) rfl ?_
     first | refine run_op (loc_add rfl rfl (by first | omega | assumption)) rfl ?_ | refine run_op (loc_addW rfl rfl) rfl ?_
     refine run_op (loc_assign rfl) rfl ?_
     refine run_nil ?_
     exact run_againC ih2 (k + 1) (⟨by omega, fun j hj => by by_cases e : j = k; (· subst e; exact Held.ext' (Hd.ext' (by simp_all) (by simp_all) (by simp_all) (by simp_all) (by simp_all)) (by simp_all)); (· exact hbk j (by omega))⟩) (by omega) (.cons rfl (by first | exact fun _ _ h => h | exact d_int (by omega) | exact d_int (by simp) | exact d_intN (by omega) | exact d_any) .nil) (.cons rfl (fun _ _ x => x) (.cons rfl (fun _ _ x => x) (.nil)))
   ·
    refine run_exit rfl ?_
    refine run_seq ?_
    refine run_seq ?_
    refine run_region ?_
    refine run_op (loc_assign rfl) rfl ?_
    refine run_nil ?_
    refine run_block ?_
    refine run_loopC (σ := Nat) (ks := [2, 3]) (.cons rfl (.cons rfl (.nil))) (fun u => [(6, dInt .i64 (u : Nat))]) (fun u => u ≤ a.jobs.length ∧ (∀ j, j < u → a.jobs[j]?.getD default = b.jobs[j]?.getD default)) (fun u => a.jobs.length - u) (0) (⟨by omega, fun j hj => by omega⟩) (.cons rfl (by first | exact fun _ _ h => h | exact d_int (by omega) | exact d_int (by simp) | exact d_intN (by omega) | exact d_any) .nil) ?_
    rintro u ⟨hu, hbu⟩ ih6
    refine run_seq ?_
    refine run_seq ?_
    refine run_region ?_
    refine run_op (loc_move rfl) rfl ?_
    refine run_op (loc_fieldAddr rfl) rfl ?_
    refine run_op (loc_load1 rfl) rfl ?_
    first | refine runL_fact (s := 84) rfl (fun _ _ h => dSl_len h) (fun hlen7 => ?_) | skip
    refine run_op (loc_len rfl) rfl ?_
    refine run_op (loc_lss rfl rfl) rfl ?_
    refine run_nil ?_
    refine run_cond rfl (fun h8 => ?_) (fun h8 => ?_)
    ·
     refine run_skip ?_
     refine run_seq ?_
     refine run_block ?_
     refine run_seq ?_
     refine run_addNone ?_
     refine run_addNone ?_
     refine dr_start _ (.two (τ1 := Nat) (τ2 := Nat) 10 11 (fun _ => True) (fun _ => True)) [⟨[(2, none)], [], none⟩,
         ⟨[(89, some (0, false))], [0], none⟩,
         ⟨[(6, none)], [], none⟩,
         ⟨[(90, some (1, false)), (91, some (2, false))], [0, 1, 2], none⟩,
         ⟨[(92, some (3, false))], [0, 1, 2, 3], none⟩,
         ⟨[(3, none)], [], none⟩,
         ⟨[(94, some (5, false))], [5], none⟩,
         ⟨[(6, none)], [], none⟩,
         ⟨[(95, some (6, false)), (96, some (7, false))], [5, 6, 7], none⟩,
         ⟨[(97, some (8, false))], [5, 6, 7, 8], none⟩,
         ⟨[], [], some (1, 0, true)⟩,
         ⟨[], [], some (0, 0, true)⟩,
         ⟨[(7, some (10, false)), (93, some (4, false))], [0, 1, 2, 3, 4, 10, 11], some (1, 1, true)⟩,
         ⟨[(8, some (11, false)), (98, some (9, false))], [0, 1, 2, 3, 4, 5, 6, 7, 8, 9, 10, 11, 12], some (0, 1, true)⟩] [_, _] _ rfl rfl ?_
     refine dq_pure rfl (fun s => .g rfl (.nil)) (fun s hs _ => loc_fieldAddr rfl) (by exact .cons (.inr fun _ _ _ => rfl) (.cons (.inr fun _ _ _ => rfl) (.nil))) ?_
     refine dq_pure rfl (fun s => .op rfl (.nil)) (fun s hs _ => loc_load1 rfl) (by exact .cons (.inr fun _ _ _ => rfl) (.cons (.inr fun _ _ _ => rfl) (.nil))) ?_
     refine dq_pure rfl (fun s => .g rfl (.nil)) (fun s hs _ => loc_move rfl) (by exact .cons (.inr fun _ _ _ => rfl) (.cons (.inr fun _ _ _ => rfl) (.nil))) ?_
     first | refine dq_pure rfl (fun s => .op rfl (.op rfl (.nil))) (fun s hs _ => loc_index rfl rfl (by first | omega | assumption)) (by exact .cons (.inr fun _ _ _ => rfl) (.cons (.inr fun _ _ _ => rfl) (.nil))) ?_ | refine dq_pure rfl (fun s => .op rfl (.op rfl (.nil))) (fun s hs _ => loc_indexI rfl rfl (by first | omega | assumption)) (by exact .cons (.inr fun _ _ _ => rfl) (.cons (.inr fun _ _ _ => rfl) (.nil))) ?_
     refine dq_pure rfl (fun s => .op rfl (.nil)) (fun s hs _ => loc_loadN rfl rfl) (by exact .cons (.inr fun _ _ _ => rfl) (.cons (.inr fun _ _ _ => rfl) (.nil))) ?_
     refine dq_pure rfl (fun s => .g rfl (.nil)) (fun s hs _ => loc_fieldAddr rfl) (by exact .cons (.inr fun _ _ _ => rfl) (.cons (.inr fun _ _ _ => rfl) (.nil))) ?_
     refine dq_pure rfl (fun s => .op rfl (.nil)) (fun s hs _ => loc_load1 rfl) (by exact .cons (.inr fun _ _ _ => rfl) (.cons (.inr fun _ _ _ => rfl) (.nil))) ?_
     refine dq_pure rfl (fun s => .g rfl (.nil)) (fun s hs _ => loc_move rfl) (by exact .cons (.inr fun _ _ _ => rfl) (.cons (.inr fun _ _ _ => rfl) (.nil))) ?_
     first | refine dq_pure rfl (fun s => .op rfl (.op rfl (.nil))) (fun s hs _ => loc_index rfl rfl (by first | omega | assumption)) (by exact .cons (.inr fun _ _ _ => rfl) (.cons (.inr fun _ _ _ => rfl) (.nil))) ?_ | refine dq_pure rfl (fun s => .op rfl (.op rfl (.nil))) (fun s hs _ => loc_indexI rfl rfl (by first | omega | assumption)) (by exact .cons (.inr fun _ _ _ => rfl) (.cons (.inr fun _ _ _ => rfl) (.nil))) ?_
     refine dq_pure rfl (fun s => .op rfl (.nil)) (fun s hs _ => loc_loadN rfl rfl) (by exact .cons (.inr fun _ _ _ => rfl) (.cons (.inr fun _ _ _ => rfl) (.nil))) ?_
     refine dq_choose Prod.fst (fun s t => (t, s.2)) rfl (fun _ _ => ⟨rfl, id, rfl⟩) (fun s => .nil) rfl rfl (fun s hs => locM_new (loc_allocOwn (by simp))) (by exact .cons (.inl rfl) (.cons (.inr (.inr fun ⟨a, b⟩ ⟨c, d⟩ h => by have h : c = a := h; subst h; exact rfl)) (.nil))) (fun _ _ => rfl) ?_
     refine dq_choose Prod.snd (fun s t => (s.1, t)) rfl (fun _ _ => ⟨rfl, id, rfl⟩) (fun s => .nil) rfl rfl (fun s hs => locM_new (loc_allocOwn (by simp))) (by exact .cons (.inr (.inr fun ⟨a, b⟩ ⟨c, d⟩ h => by have h : d = b := h; subst h; exact rfl)) (.cons (.inl rfl) (.nil))) (fun _ _ => rfl) ?_
     refine dq_write0 rfl (fun s => .op rfl (.op rfl (.nil))) rfl rfl (fun s hs => loc_storeN (ho := (by show OneAll [_, _, _, _, _]; infer_instance)) rfl rfl rfl) (by exact .cons (.inl rfl) (.cons (.inl rfl) (.nil))) ?_
     refine dq_write0 rfl (fun s => .op rfl (.op rfl (.nil))) rfl rfl (fun s hs => loc_storeN (ho := (by show OneAll [_, _, _, _, _]; infer_instance)) rfl rfl rfl) (by exact .cons (.inl rfl) (.cons (.inl rfl) (.nil))) ?_
     refine dq_end (rs := [_, _]) (0, 0) rfl (fun _ => rfl) (.cons rfl (.cons rfl (.nil))) rfl (fun _ => rfl) (fun s9 _ => ?_)
     obtain ⟨b9, b10⟩ := s9
     dsimp only [outG, outM, List.map, List.set, id]
     refine run_seq ?_
     refine run_region ?_
     refine run_op (loc_fieldAddrOwn rfl) rfl ?_
     refine run_op (loc_loadOwn1 rfl (.there (.here)) (by rfl)) rfl ?_
     refine run_op (loc_fieldAddrOwn rfl) rfl ?_
     refine run_op (loc_loadOwn1 rfl (.here) (by rfl)) rfl ?_
     refine run_op (loc_neq rfl rfl) rfl ?_
     refine run_op (loc_move rfl) rfl ?_
     refine run_gfirst rfl rfl gdI.ok (fun hg => loc_fieldAddrOwn rfl) rfl ?_
     refine run_gop rfl rfl gdI.ok (fun hg => loc_loadOwn1 rfl (.there (.here)) (by rfl)) rfl ?_
     refine run_gop rfl rfl gdI.ok (fun hg => loc_fieldAddrOwn rfl) rfl ?_
     refine run_gop rfl rfl gdI.ok (fun hg => loc_loadOwn1 rfl (.here) (by rfl)) rfl ?_
     refine run_gop rfl rfl gdI.ok (fun hg => loc_neq rfl rfl) rfl ?_
     refine run_gleave ?_
     refine run_op (loc_or rfl rfl) rfl ?_
     refine run_op (loc_move rfl) rfl ?_
     refine run_gfirst rfl rfl gdI.ok (fun hg => loc_fieldAddrOwn rfl) rfl ?_
     refine run_gop rfl rfl gdI.ok (fun hg => loc_loadOwn1 rfl (.there (.here)) (by rfl)) rfl ?_
     refine run_gop rfl rfl gdI.ok (fun hg => loc_fieldAddrOwn rfl) rfl ?_
     refine run_gop rfl rfl gdI.ok (fun hg => loc_loadOwn1 rfl (.here) (by rfl)) rfl ?_
     refine run_gop rfl rfl gdI.ok (fun hg => loc_neq rfl rfl) rfl ?_
     refine run_gleave ?_
     refine run_op (loc_or rfl rfl) rfl ?_
     refine run_op (loc_move rfl) rfl ?_
     refine run_gfirst rfl rfl gdI.ok (fun hg => loc_fieldAddrOwn rfl) rfl ?_
     refine run_gop rfl rfl gdI.ok (fun hg => loc_loadOwn1 rfl (.there (.here)) (by rfl)) rfl ?_
     refine run_gop rfl rfl gdI.ok (fun hg => loc_fieldAddrOwn rfl) rfl ?_
     refine run_gop rfl rfl gdI.ok (fun hg => loc_loadOwn1 rfl (.here) (by rfl)) rfl ?_
     refine run_gop rfl rfl gdI.ok (fun hg => loc_call (ints30_spec _ _) rfl) rfl ?_
     refine run_gop rfl rfl gdI.ok (fun hg => loc_not rfl) rfl ?_
     refine run_gleave ?_
     refine run_op (loc_or rfl rfl) rfl ?_
     refine run_op (loc_move rfl) rfl ?_
     refine run_gfirst rfl rfl gdI.ok (fun hg => loc_fieldAddrOwn rfl) rfl ?_
     refine run_gop rfl rfl gdI.ok (fun hg => loc_loadOwn1 rfl (.there (.here)) (by rfl)) rfl ?_
     refine run_gop rfl rfl gdI.ok (fun hg => loc_fieldAddrOwn rfl) rfl ?_
     refine run_gop rfl rfl gdI.ok (fun hg => loc_loadOwn1 rfl (.here) (by rfl)) rfl ?_
     refine run_gop rfl rfl gdI.ok (fun hg => loc_call (ints30_spec _ _) rfl) rfl ?_
     refine run_gop rfl rfl gdI.ok (fun hg => loc_not rfl) rfl ?_
     refine run_gleave ?_
     refine run_op (loc_or rfl rfl) rfl ?_
     refine run_nil ?_
     refine run_cond rfl (fun h11 => ?_) (fun h11 => ?_)
     ·
      have f9 := h11
      refine run_seq ?_
      refine run_region ?_
      refine run_op (loc_assign rfl) rfl ?_
      refine run_nil ?_
      refine run_drop (.cons _ (.cons _ (.refl _))) ?_
      refine run_retP Tryz.func20 rfl rfl ?_
      exact d_B ⟨False.elim, fun h => by subst h; simp at f9⟩
     ·
      have f9 := h11
      simp only [not_or, ne_eq, Classical.not_not, List.cons.injEq, and_true] at f9
      refine run_skip ?_
      refine run_inBlock ?_
      refine run_region ?_
      refine run_op (loc_move rfl) rfl ?_
      first | refine run_op (loc_add rfl rfl (by first | omega | assumption)) rfl ?_ | refine run_op (loc_addW rfl rfl) rfl ?_
      refine run_op (loc_assign rfl) rfl ?_
      refine run_nil ?_
      refine run_drop (.cons _ (.cons _ (.refl _))) ?_
      exact run_againC ih6 (u + 1) (⟨by omega, fun j hj => by by_cases e : j = u; (· subst e; exact Job.ext' (by simp_all) (by simp_all) (by simp_all) (by simp_all) (by simp_all)); (· exact hbu j (by omega))⟩) (by omega) (.cons rfl (by first | exact fun _ _ h => h | exact d_int (by omega) | exact d_int (by simp) | exact d_intN (by omega) | exact d_any) .nil) (.cons rfl (fun _ _ x => x) (.cons rfl (fun _ _ x => x) (.nil)))
    ·
     refine run_exit rfl ?_
     refine run_seq ?_
     refine run_region ?_
     refine run_op (loc_assign rfl) rfl ?_
     refine run_nil ?_
     refine run_retP Tryz.func20 rfl rfl ?_
     exact d_B ⟨fun _ => Srv.ext' (by simp_all) (Schm.ext' (by simp_all) (by simp_all) (by simp_all) (by simp_all)) (by simp_all) (list_extD (by omega) (fun j hj => hbk j (by omega))) (list_extD (by omega) (fun j hj => hbu j (by omega))), fun _ => trivial⟩
end Go.Q

namespace Go.Q
open Classical
noncomputable def heldT (s : Schm) (id : Int) (t : Tab) : Held := ⟨headT t, hldL s t id⟩
theorem heldT_number {s : Schm} {id : Int} {t : Tab} (h : checkT t = 0) : (heldT s id t).head.number = t.number := by unfold heldT; rw [head_ok h]
end Go.Q

namespace Go.Q
open Classical
theorem hld_sz {s : Schm} {t : Tab} {j : Int} (hv : validS s t.p) (ht : checkT t = 0) (hn : 1 ≤ t.rows.length) (hj : 1 ≤ j ∧ j ≤ s.servers) : (hldL s t j).length ≤ 1024 ∧ ∀ r ∈ hldL s t j, r.length ≤ 64 := by
 have hct := checkT_ok ht
 have hs := hv.1
 unfold shapeS at hs
 have h2 := (hld_ok hv ht hn hj).2
 have hn2 : 1 ≤ (t.rows.length : Int) ∧ (t.rows.length : Int) ≤ 1024 := by have := hct.2.2.2.1; omega
 rw [units_ok hv.1 hn2] at h2
 constructor
 ·split at h2
  ·have := grp_bd hn2 (g := s.group) (by omega); omega
  ·omega
 ·intro r hr
  unfold hldL at hr
  rw [if_neg (hld_no ht hv hj)] at hr
  split at hr
  ·unfold holdG at hr
   split at hr
   ·obtain ⟨q, _, rfl⟩ := List.mem_map.1 hr
    unfold heldG
    rw [(heldN_ok (by have := hv.2.1.1; omega) j t.width.toNat q.2 q.2.length).1]
    have := hct.2.2.1; omega
   ·cases hr
  ·have := (hct.2.2.2.2 r hr).1
   have := hct.2.2.1; omega
end Go.Q

namespace Go.Q
open Classical
def prs (i : Nat) : Psn := ⟨(i : Int) + 1, 1000 + ((i : Int) + 1)⟩
def peopleL : List Psn := (List.range 10).map prs
theorem people_len : peopleL.length = 10 := rfl
theorem prs_snoc (k : Nat) : (List.range (k + 1)).map prs = (List.range k).map prs ++ [prs k] := by rw [List.range_succ, List.map_append]; rfl
def combN (p : Int) (w : Nat) (rows : List (List Int)) (q : List Int) : Nat → List Int
 | 0 => List.replicate w 0
 | k + 1 => addT p (q[k]?.getD default) (combN p w rows q k) (rows[k]?.getD default)
theorem combN_ok {p : Int} (hp : 2 ≤ p) (w : Nat) (rows : List (List Int)) (q : List Int) : ∀ k, (combN p w rows q k).length = w ∧ ∀ x ∈ combN p w rows q k, hasP p x
 | 0 => ⟨by simp [combN], rep0_has hp w⟩
 | k + 1 => by
  obtain ⟨h1, h2⟩ := combN_ok hp w rows q k
  exact ⟨by unfold combN; rw [addT_len]; exact h1, by unfold combN; exact addT_has (by omega) h2⟩
theorem addT_at (p x : Int) : ∀ (ts ws : List Int) (j : Nat), j < ts.length → j < ws.length → (addT p x ts ws)[j]?.getD default = (ts[j]?.getD default + x * (ws[j]?.getD default) % p) % p
 | t :: ts, a :: ws, 0, _, _ => by simp [addT]
 | t :: ts, a :: ws, j + 1, h1, h2 => by
  simp only [addT, List.getElem?_cons_succ]
  exact addT_at p x ts ws j (by simpa using h1) (by simpa using h2)
theorem combN_at {p : Int} (hp : 2 ≤ p) {w : Nat} {rows : List (List Int)} {q : List Int} {j : Nat} (hj : j < w) : ∀ k, k ≤ rows.length → (∀ r ∈ rows, r.length = w) → (combN p w rows q k)[j]?.getD default = dotK p j rows q k
 | 0, _, _ => by simp [combN, dotK, List.getElem?_replicate, hj]
 | k + 1, hk, hr => by
  have h1 := combN_at hp hj k (by omega) hr (q := q)
  have hl := (combN_ok hp w rows q k).1
  have hrk := hr _ (getD_mem (xs := rows) (k := k) (by omega))
  unfold combN dotK
  rw [addT_at _ _ _ _ _ (by omega) (by omega), h1, Int.add_emod_emod, Int.mul_comm]
theorem grp_quo1 {n : Nat} {g : Int} (hg : 1 ≤ g) (h : 0 < (n : Int) % g) : (n : Int) / g + 1 = (grpN n g.toNat : Nat) := by
 obtain ⟨m, rfl⟩ : ∃ m : Nat, g = m := ⟨g.toNat, by omega⟩
 have hm : 0 < m := by omega
 rw [← Int.natCast_emod] at h
 have h1 : 0 < n % m := by omega
 unfold grpN
 rw [Int.toNat_natCast, ← Int.natCast_ediv]
 have e : (n + m - 1) / m = n / m + 1 := by
  have h2 := Nat.div_add_mod n m
  have h3 := Nat.mod_lt n hm
  rw [Nat.div_eq_iff hm]
  have e3 : (n / m + 1) * m = m * (n / m) + m := by rw [Nat.add_mul, Nat.one_mul, Nat.mul_comm]
  constructor
  ·omega
  ·omega
 rw [e]; simp
theorem grp_quo0 {n : Nat} {g : Int} (hg : 1 ≤ g) (h : ¬ 0 < (n : Int) % g) : (n : Int) / g = (grpN n g.toNat : Nat) := by
 obtain ⟨m, rfl⟩ : ∃ m : Nat, g = m := ⟨g.toNat, by omega⟩
 have hm : 0 < m := by omega
 rw [← Int.natCast_emod] at h
 have h1 : n % m = 0 := by omega
 unfold grpN
 rw [Int.toNat_natCast, ← Int.natCast_ediv]
 have e : (n + m - 1) / m = n / m := by
  have h2 := Nat.div_add_mod n m
  rw [Nat.div_eq_iff hm]
  have e3 : (n / m) * m = m * (n / m) := Nat.mul_comm _ _
  constructor
  ·omega
  ·omega
 rw [e]
end Go.Q

namespace Go.Q
open Go.Proofs
open Classical
theorem people_spec  : SpecP Tryz.prog 14 [] (dSl 2 cPsn peopleL) := by
  refine specP_of_body Tryz.func14 rfl rfl (fun I M => ?_)
  refine run_seq ?_
  refine run_region ?_
  refine run_op (loc_assign rfl) rfl ?_
  refine run_nil ?_
  refine run_seq ?_
  refine run_region ?_
  refine run_op (loc_assign rfl) rfl ?_
  refine run_nil ?_
  refine run_seq ?_
  refine run_seq ?_
  refine run_region ?_
  refine run_op (loc_assign rfl) rfl ?_
  refine run_nil ?_
  refine run_block ?_
  refine run_rowNil 51 2 cPsn ?_
  refine run_loopF (σ := Value × Nat) (ks := []) (.nil) (fun q => [(1, dVal q.1), (2, dInt .i64 ((q.2 : Int) + 1))]) (fun q => [rRow q.1 51 2 cPsn ((List.range q.2).map prs)]) (fun q => q.2 ≤ 10) (fun q => 10 - q.2) ((.slice none 0 0, 0)) (Nat.zero_le _) (.cons rfl (by first | exact fun _ _ h => h | exact d_int (by omega) | exact d_int (by simp) | exact d_intN (by omega) | exact d_any) (.cons rfl (d_int (by simp)) .nil)) (rfl) ?_
  intro q hq ih1
  have hpl : ((List.range q.2).map prs).length = q.2 := by simp
  refine run_seq ?_
  refine run_seq ?_
  refine run_region ?_
  refine run_op (loc_move rfl) rfl ?_
  refine run_op (loc_leq rfl rfl) rfl ?_
  refine run_nil ?_
  refine run_cond rfl (fun h2 => ?_) (fun h2 => ?_)
  ·
   refine run_skip ?_
   refine run_seq ?_
   refine run_block ?_
   refine run_region ?_
   refine run_op (loc_move rfl) rfl ?_
   refine run_op (loc_move rfl) rfl ?_
   refine run_op (loc_move rfl) rfl ?_
   first | refine run_op (loc_add rfl rfl (by first | omega | assumption)) rfl ?_ | refine run_op (loc_addW rfl rfl) rfl ?_
   refine run_op (loc_build (.one rfl rfl rfl (.one rfl rfl rfl (.nil)))) rfl ?_
   refine run_op (loc_buildSlice rfl rfl (.agg rfl (.nil)) rfl rfl) rfl ?_
   refine run_append1 (e0 := prs q.2) rfl (.here) rfl (by rfl) (by rfl) (by first | omega | (simp [lenMax]; omega) | (simp [lenMax]; done) | assumption) (by first | omega | (simp [lenMax]; omega) | (simp [lenMax]; done) | assumption) rfl (fun v3 => ?_)
   refine run_op (loc_assign rfl) rfl ?_
   refine run_nil ?_
   refine run_inBlock ?_
   refine run_region ?_
   refine run_op (loc_move rfl) rfl ?_
   first | refine run_op (loc_add rfl rfl (by first | omega | assumption)) rfl ?_ | refine run_op (loc_addW rfl rfl) rfl ?_
   refine run_op (loc_assign rfl) rfl ?_
   refine run_nil ?_
   exact run_againF ih1 ((v3, q.2 + 1)) (by simp only; omega) (by simp only; omega) (.cons rfl (by first | exact fun _ _ h => h | exact d_int (by omega) | exact d_int (by simp) | exact d_intN (by omega) | exact d_any) (.cons rfl (d_int (by simp only; omega)) .nil)) (.nil) (by simp only [appR]; rw [prs_snoc])
  ·
   refine run_exit rfl ?_
   refine run_seq ?_
   refine run_freezeRow (s := 1) rfl (.here) ?_
   refine run_region ?_
   refine run_op (loc_move rfl) rfl ?_
   refine run_op (loc_assign rfl) rfl ?_
   refine run_nil ?_
   refine run_retP Tryz.func14 rfl rfl ?_
   exact d_sl (by rw [show q.2 = 10 by omega]; rfl)
theorem number_spec (n : Int) : SpecP Tryz.prog 121 [dInt .i64 n] (dB (1 ≤ n ∧ n < 2147483647)) := by
 refine specP_of_body Tryz.func121 rfl rfl (fun I M => ?_)
 refine run_seq ?_
 refine run_region ?_
 refine run_op (loc_assign rfl) rfl ?_
 refine run_nil ?_
 refine run_seq ?_
 refine run_region ?_
 refine run_op (loc_move rfl) rfl ?_
 refine run_op (loc_geq rfl rfl) rfl ?_
 refine run_op (loc_move rfl) rfl ?_
 refine run_gfirst rfl rfl gdI.ok (fun hg => loc_move rfl) rfl ?_
 refine run_gop rfl rfl gdI.ok (fun hg => loc_lss rfl rfl) rfl ?_
 refine run_gleave ?_
 refine run_op (loc_and rfl rfl) rfl ?_
 refine run_op (loc_assign rfl) rfl ?_
 refine run_nil ?_
 refine run_retP Tryz.func121 rfl rfl ?_
 exact fun _ _ h => h
theorem rsign_spec (s : Int) (l : List Int) : SpecP Tryz.prog 68 [dInt .i64 s, dInts l] (dTup [dInt .i64 (signM s l), dInt .i64 (signE s l)]) := by
  refine specP_of_body Tryz.func68 rfl rfl (fun I M => ?_)
  refine run_seq ?_
  refine run_region ?_
  refine run_op (loc_assign rfl) rfl ?_
  refine run_op (loc_assign rfl) rfl ?_
  refine run_nil ?_
  refine run_seq ?_
  refine run_seq ?_
  refine run_region ?_
  refine run_op (loc_move rfl) rfl ?_
  refine run_op (loc_call (number_spec _) rfl) rfl ?_
  refine run_op (loc_not rfl) rfl ?_
  refine run_nil ?_
  refine run_cond rfl (fun h1 => ?_) (fun h1 => ?_)
  ·
   have hE : signE s l = 1 := by unfold signE; rw [if_pos h1]
   refine run_seq ?_
   refine run_region ?_
   refine run_op (loc_assign rfl) rfl ?_
   refine run_op (loc_assign rfl) rfl ?_
   refine run_nil ?_
   refine run_ret2P Tryz.func68 rfl rfl rfl ?_
   exact d_tup2 (d_int (by unfold signM; rw [if_neg (by omega)])) (d_int hE.symm)
  ·
   have c1 := Classical.not_not.1 h1
   refine run_skip ?_
   refine run_seq ?_
   refine run_seq ?_
   refine run_region ?_
   refine run_op (loc_move rfl) rfl ?_
   first | refine runL_fact (s := 9) rfl (fun _ _ h => dSl_len h) (fun hlen2 => ?_) | skip
   refine run_op (loc_len rfl) rfl ?_
   refine run_op (loc_gtr rfl rfl) rfl ?_
   refine run_nil ?_
   refine run_cond rfl (fun h3 => ?_) (fun h3 => ?_)
   ·
    have hE : signE s l = 4 := by unfold signE; rw [if_neg (Classical.not_not.2 c1), if_pos (by omega)]
    refine run_seq ?_
    refine run_region ?_
    refine run_op (loc_assign rfl) rfl ?_
    refine run_op (loc_assign rfl) rfl ?_
    refine run_nil ?_
    refine run_ret2P Tryz.func68 rfl rfl rfl ?_
    exact d_tup2 (d_int (by unfold signM; rw [if_neg (by omega)])) (d_int hE.symm)
   ·
    have hE : signE s l = 0 := by unfold signE; rw [if_neg (Classical.not_not.2 c1), if_neg (by omega)]
    refine run_skip ?_
    refine run_seq ?_
    refine run_region ?_
    refine run_op (loc_move rfl) rfl ?_
    refine run_new (loc_buildOwn (f' := fI) (xs := [s]) rfl rfl (.one rfl (.nil)) rfl rfl rfl) rfl (fun b4 _ => ?_)
    refine run_op (loc_move rfl) rfl ?_
    refine run_upd (LocM.frz (loc_append rfl rfl rfl (by first | omega | (simp [lenMax]; omega) | (simp [lenMax]; done) | assumption) (by first | omega | (simp [lenMax]; omega) | (simp [lenMax]; done) | assumption)) rfl) rfl (.here) (fun v5 hv5 => ?_)
    refine run_op (loc_call (rrow_spec _) rfl) rfl ?_
    refine run_op (loc_assign rfl) rfl ?_
    refine run_op (loc_assign rfl) rfl ?_
    refine run_nil ?_
    refine run_drop (.cons _ (.refl _)) ?_
    refine run_ret2P Tryz.func68 rfl rfl rfl ?_
    exact d_tup2 (d_int (by unfold signM; rw [if_pos hE]; rfl)) (d_int hE.symm)
end Go.Q

namespace Go.Q
open Go.Proofs
open Classical
theorem combine_spec (p w : Int) (rows : List (List Int)) (q : List Int) (hp : okP p) (hw : 0 ≤ w ∧ w ≤ 64) (hq : q.length = rows.length) (hr : ∀ r ∈ rows, (r.length : Int) = w ∧ allP p r) (hqa : allP p q) : SpecP Tryz.prog 157 [dAgg [dInt .i64 p], dInts q, dRows rows, dInt .i64 w] (dTup [dInts (combN p w.toNat rows q rows.length), dInt .i64 0]) := by
  have hp1 := hp.1
  have hp2 := hp.2.1
  refine specP_of_body Tryz.func157 rfl rfl (fun I M => ?_)
  refine run_seq ?_
  refine run_region ?_
  refine run_op (loc_boxN rfl) rfl ?_
  refine run_op (loc_assign rfl) rfl ?_
  refine run_op (loc_assign rfl) rfl ?_
  refine run_nil ?_
  refine run_seq ?_
  refine run_seq ?_
  refine run_region ?_
  refine run_op (loc_loadN rfl rfl) rfl ?_
  refine run_op (loc_call (rcheck3_spec _) rfl) rfl ?_
  refine run_op (loc_assign rfl) rfl ?_
  refine run_nil ?_
  refine run_seq ?_
  refine run_region ?_
  refine run_op (loc_move rfl) rfl ?_
  refine run_op (loc_neq rfl rfl) rfl ?_
  refine run_nil ?_
  refine run_cond rfl (fun h1 => ?_) (fun h1 => ?_)
  · exfalso; exact h1 (errP_zero.2 hp)
  ·
   refine run_skip ?_
   refine run_seq ?_
   refine run_seq ?_
   refine run_region ?_
   refine run_op (loc_move rfl) rfl ?_
   refine run_op (loc_lss rfl rfl) rfl ?_
   refine run_op (loc_move rfl) rfl ?_
   refine run_gfirst rfl rfl gdI.ok (fun hg => loc_move rfl) rfl ?_
   refine run_gop rfl rfl gdI.ok (fun hg => loc_gtr rfl rfl) rfl ?_
   refine run_gleave ?_
   refine run_op (loc_or rfl rfl) rfl ?_
   refine run_nil ?_
   refine run_cond rfl (fun h2 => ?_) (fun h2 => ?_)
   · exfalso; omega
   ·
    refine run_skip ?_
    refine run_seq ?_
    refine run_seq ?_
    refine run_region ?_
    refine run_op (loc_move rfl) rfl ?_
    first | refine runL_fact (s := 31) rfl (fun _ _ h => dSl_len h) (fun hlen3 => ?_) | skip
    refine run_op (loc_len rfl) rfl ?_
    refine run_op (loc_move rfl) rfl ?_
    first | refine runL_fact (s := 33) rfl (fun _ _ h => dSl_len h) (fun hlen4 => ?_) | skip
    refine run_op (loc_len rfl) rfl ?_
    refine run_op (loc_neq rfl rfl) rfl ?_
    refine run_nil ?_
    refine run_cond rfl (fun h5 => ?_) (fun h5 => ?_)
    · exfalso; omega
    ·
     refine run_skip ?_
     refine run_seq ?_
     refine run_seq ?_
     refine run_region ?_
     refine run_op (loc_move rfl) rfl ?_
     first | refine runL_fact (s := 36) rfl (fun _ _ h => dSl_len h) (fun hlen6 => ?_) | skip
     refine run_op (loc_len rfl) rfl ?_
     refine run_op (loc_move rfl) rfl ?_
     refine run_nil ?_
     refine run_block ?_
     refine run_loopC (σ := Nat) (ks := [1, 2, 3, 4, 36, 37]) (.cons rfl (.cons rfl (.cons rfl (.cons rfl (.cons rfl (.cons rfl (.nil))))))) (fun k => [(38, dInt .i64 (k : Nat))]) (fun k => k ≤ rows.length) (fun k => rows.length - k) (0) ((by omega)) (.cons rfl (by first | exact fun _ _ h => h | exact d_int (by omega) | exact d_int (by simp) | exact d_intN (by omega) | exact d_any) .nil) ?_
     intro k hk ih7
     refine run_seq ?_
     refine run_region ?_
     refine run_op (loc_lss rfl rfl) rfl ?_
     refine run_nil ?_
     refine run_seq ?_
     refine run_cond rfl (fun h8 => ?_) (fun h8 => ?_)
     ·
      have hrk := (hr _ (getD_mem (xs := rows) (k := k) (by omega))).1
      refine run_skip ?_
      refine run_seq ?_
      refine run_block ?_
      refine run_seq ?_
      refine run_region ?_
      first | refine run_op (loc_index rfl rfl (by first | omega | assumption)) rfl ?_ | refine run_op (loc_indexI rfl rfl (by first | omega | assumption)) rfl ?_
      refine run_op (loc_load1 rfl) rfl ?_
      refine run_op (loc_assign rfl) rfl ?_
      refine run_nil ?_
      refine run_seq ?_
      refine run_region ?_
      refine run_op (loc_move rfl) rfl ?_
      first | refine runL_fact (s := 42) rfl (fun _ _ h => dSl_len h) (fun hlen9 => ?_) | skip
      refine run_op (loc_len rfl) rfl ?_
      refine run_op (loc_move rfl) rfl ?_
      refine run_op (loc_neq rfl rfl) rfl ?_
      refine run_nil ?_
      refine run_cond rfl (fun h10 => ?_) (fun h10 => ?_)
      · exfalso; omega
      ·
       refine run_skip ?_
       refine run_inBlock ?_
       refine run_region ?_
       first | refine run_op (loc_add rfl rfl (by first | omega | assumption)) rfl ?_ | refine run_op (loc_addW rfl rfl) rfl ?_
       refine run_op (loc_move rfl) rfl ?_
       refine run_nil ?_
       exact run_againC ih7 (k + 1) (by omega) (by omega) (.cons rfl (by first | exact fun _ _ h => h | exact d_int (by omega) | exact d_int (by simp) | exact d_intN (by omega) | exact d_any) .nil) (.cons rfl (fun _ _ x => x) (.cons rfl (fun _ _ x => x) (.cons rfl (fun _ _ x => x) (.cons rfl (fun _ _ x => x) (.cons rfl (fun _ _ x => x) (.cons rfl (fun _ _ x => x) (.nil)))))))
     ·
      refine run_exit rfl ?_
      refine run_seq ?_
      refine run_seq ?_
      refine run_region ?_
      refine run_op (loc_loadN rfl rfl) rfl ?_
      refine run_op (loc_move rfl) rfl ?_
      refine run_op (loc_call (in3_spec _ _) rfl) rfl ?_
      refine run_op (loc_not rfl) rfl ?_
      refine run_nil ?_
      refine run_cond rfl (fun h11 => ?_) (fun h11 => ?_)
      · exfalso; exact h11 ⟨hp, hqa⟩
      ·
       refine run_skip ?_
       refine run_seq ?_
       refine run_seq ?_
       refine run_region ?_
       refine run_op (loc_move rfl) rfl ?_
       first | refine runL_fact (s := 51) rfl (fun _ _ h => dSl_len h) (fun hlen12 => ?_) | skip
       refine run_op (loc_len rfl) rfl ?_
       refine run_op (loc_move rfl) rfl ?_
       refine run_nil ?_
       refine run_block ?_
       refine run_loopC (σ := Nat) (ks := [1, 2, 3, 4, 51, 52]) (.cons rfl (.cons rfl (.cons rfl (.cons rfl (.cons rfl (.cons rfl (.nil))))))) (fun i => [(53, dInt .i64 (i : Nat))]) (fun i => i ≤ rows.length) (fun i => rows.length - i) (0) ((by omega)) (.cons rfl (by first | exact fun _ _ h => h | exact d_int (by omega) | exact d_int (by simp) | exact d_intN (by omega) | exact d_any) .nil) ?_
       intro i hi ih13
       refine run_seq ?_
       refine run_region ?_
       refine run_op (loc_lss rfl rfl) rfl ?_
       refine run_nil ?_
       refine run_seq ?_
       refine run_cond rfl (fun h14 => ?_) (fun h14 => ?_)
       ·
        have hri := (hr _ (getD_mem (xs := rows) (k := i) (by omega))).2
        refine run_skip ?_
        refine run_seq ?_
        refine run_block ?_
        refine run_seq ?_
        refine run_region ?_
        first | refine run_op (loc_index rfl rfl (by first | omega | assumption)) rfl ?_ | refine run_op (loc_indexI rfl rfl (by first | omega | assumption)) rfl ?_
        refine run_op (loc_load1 rfl) rfl ?_
        refine run_op (loc_assign rfl) rfl ?_
        refine run_nil ?_
        refine run_seq ?_
        refine run_region ?_
        refine run_op (loc_loadN rfl rfl) rfl ?_
        refine run_op (loc_move rfl) rfl ?_
        refine run_op (loc_call (in3_spec _ _) rfl) rfl ?_
        refine run_op (loc_not rfl) rfl ?_
        refine run_nil ?_
        refine run_cond rfl (fun h15 => ?_) (fun h15 => ?_)
        · exfalso; exact h15 ⟨hp, hri⟩
        ·
         refine run_skip ?_
         refine run_inBlock ?_
         refine run_region ?_
         first | refine run_op (loc_add rfl rfl (by first | omega | assumption)) rfl ?_ | refine run_op (loc_addW rfl rfl) rfl ?_
         refine run_op (loc_move rfl) rfl ?_
         refine run_nil ?_
         exact run_againC ih13 (i + 1) (by omega) (by omega) (.cons rfl (by first | exact fun _ _ h => h | exact d_int (by omega) | exact d_int (by simp) | exact d_intN (by omega) | exact d_any) .nil) (.cons rfl (fun _ _ x => x) (.cons rfl (fun _ _ x => x) (.cons rfl (fun _ _ x => x) (.cons rfl (fun _ _ x => x) (.cons rfl (fun _ _ x => x) (.cons rfl (fun _ _ x => x) (.nil)))))))
       ·
        refine run_exit rfl ?_
        refine run_seq ?_
        refine run_region ?_
        refine run_op (loc_move rfl) rfl ?_
        refine run_new (loc_makeSlice rfl rfl (by first | omega | assumption) (by first | omega | assumption) _ _ rfl (by simp)) rfl (fun b15 _ => ?_)
        refine run_op (loc_assign rfl) rfl ?_
        refine run_nil ?_
        refine run_seq ?_
        refine run_seq ?_
        refine run_region ?_
        refine run_op (loc_move rfl) rfl ?_
        first | refine runL_fact (s := 64) rfl (fun _ _ h => dSl_len h) (fun hlen16 => ?_) | skip
        refine run_op (loc_len rfl) rfl ?_
        refine run_op (loc_move rfl) rfl ?_
        refine run_nil ?_
        refine run_block ?_
        refine run_loopF (σ := Nat) (ks := [1, 4, 15, 64, 65]) (.cons rfl (.cons rfl (.cons rfl (.cons rfl (.cons rfl (.nil)))))) (fun k => [(66, dInt .i64 (k : Nat))]) (fun k => [rRow (.slice (some ⟨b15, 0, none⟩) w.toNat w.toNat) 3 1 fI (combN p w.toNat rows q k)]) (fun k => k ≤ rows.length) (fun k => rows.length - k) (0) (Nat.zero_le _) (.cons rfl (by first | exact fun _ _ h => h | exact d_int (by omega) | exact d_int (by simp) | exact d_intN (by omega) | exact d_any) .nil) (rfl) ?_
        intro k hk2 ih17
        obtain ⟨hcl, hca⟩ := combN_ok (p := p) (by omega) w.toNat rows q k
        refine run_seq ?_
        refine run_region ?_
        refine run_op (loc_lss rfl rfl) rfl ?_
        refine run_nil ?_
        refine run_seq ?_
        refine run_cond rfl (fun h18 => ?_) (fun h18 => ?_)
        ·
         have hrk := hr _ (getD_mem (xs := rows) (k := k) (by omega))
         have hrk1 := hrk.1
         have hqk := hqa _ (getD_mem (xs := q) (k := k) (by omega))
         unfold hasP at hqk
         refine run_skip ?_
         refine run_seq ?_
         refine run_block ?_
         refine run_seq ?_
         refine run_region ?_
         refine run_op (loc_move rfl) rfl ?_
         first | refine run_op (loc_index rfl rfl (by first | omega | assumption)) rfl ?_ | refine run_op (loc_indexI rfl rfl (by first | omega | assumption)) rfl ?_
         refine run_op (loc_load1 rfl) rfl ?_
         refine run_op (loc_assign rfl) rfl ?_
         refine run_op (loc_assign rfl) rfl ?_
         refine run_nil ?_
         refine run_seq ?_
         refine run_region ?_
         refine run_op (loc_move rfl) rfl ?_
         first | refine runL_fact (s := 71) rfl (fun _ _ h => dSl_len h) (fun hlen19 => ?_) | skip
         refine run_op (loc_len rfl) rfl ?_
         refine run_op (loc_move rfl) rfl ?_
         refine run_nil ?_
         refine run_block ?_
         refine run_loopF (σ := Nat) (ks := [1, 4, 15, 16, 64, 65, 66, 71, 72]) (.cons rfl (.cons rfl (.cons rfl (.cons rfl (.cons rfl (.cons rfl (.cons rfl (.cons rfl (.cons rfl (.nil)))))))))) (fun u => [(73, dInt .i64 (u : Nat))]) (fun u => [rRow (.slice (some ⟨b15, 0, none⟩) w.toNat w.toNat) 3 1 fI (addT p (q[k]?.getD default) (combN p w.toNat rows q k) ((rows[k]?.getD default).take u))]) (fun u => u ≤ (rows[k]?.getD default).length) (fun u => (rows[k]?.getD default).length - u) (0) (Nat.zero_le _) (.cons rfl (by first | exact fun _ _ h => h | exact d_int (by omega) | exact d_int (by simp) | exact d_intN (by omega) | exact d_any) .nil) (by simp only [appR]; rw [List.take_zero, addT_nil]) ?_
         intro u hu ih20
         have hal := addT_len p (q[k]?.getD default) (combN p w.toNat rows q k) ((rows[k]?.getD default).take u)
         refine run_seq ?_
         refine run_region ?_
         refine run_op (loc_lss rfl rfl) rfl ?_
         refine run_nil ?_
         refine run_seq ?_
         refine run_cond rfl (fun h21 => ?_) (fun h21 => ?_)
         ·
          have hx1 := hrk.2 _ (getD_mem (xs := (rows[k]?.getD default)) (k := u) (by omega))
          have hx2 := hca _ (getD_mem (xs := (combN p w.toNat rows q k)) (k := u) (by omega))
          unfold hasP at hx1 hx2
          have hx3 := addT_get p (q[k]?.getD default) (combN p w.toNat rows q k) ((rows[k]?.getD default).take u) u (by rw [List.length_take]; omega)
          have hmm := mul_bd (a := (q[k]?.getD default)) (b := (rows[k]?.getD default)[u]?.getD default) (A := 65521) (B := 65521) (by omega) (by omega) (by omega) (by omega)
          refine run_skip ?_
          refine run_seq ?_
          refine run_block ?_
          refine run_seq ?_
          refine run_region ?_
          refine run_op (loc_move rfl) rfl ?_
          first | refine run_op (loc_index rfl rfl (by first | omega | assumption)) rfl ?_ | refine run_op (loc_indexI rfl rfl (by first | omega | assumption)) rfl ?_
          refine run_op (loc_load1 rfl) rfl ?_
          refine run_op (loc_assign rfl) rfl ?_
          refine run_op (loc_assign rfl) rfl ?_
          refine run_nil ?_
          refine dr_start _ (.none) [⟨[(15, none)], [], none⟩,
              ⟨[(18, none)], [], none⟩,
              ⟨[(15, none)], [], none⟩,
              ⟨[(18, none)], [], none⟩,
              ⟨[(80, some (2, false)), (81, some (3, false))], [2, 3], none⟩,
              ⟨[(82, some (4, false))], [2, 3, 4], some (0, 0, false)⟩,
              ⟨[(1, none)], [], none⟩,
              ⟨[(16, none)], [], none⟩,
              ⟨[(84, some (6, false)), (85, some (7, false))], [6, 7], none⟩,
              ⟨[(86, some (8, false))], [6, 7, 8], none⟩,
              ⟨[(19, none)], [], none⟩,
              ⟨[(87, some (9, false)), (88, some (10, false))], [6, 7, 8, 9, 10], none⟩,
              ⟨[(83, some (5, false)), (89, some (11, false))], [2, 3, 4, 5, 6, 7, 8, 9, 10, 11], none⟩,
              ⟨[(4, none)], [], none⟩,
              ⟨[(91, some (13, false))], [13], none⟩,
              ⟨[(90, some (12, false)), (92, some (14, false))], [2, 3, 4, 5, 6, 7, 8, 9, 10, 11, 12, 13, 14], none⟩,
              ⟨[(78, some (0, false)), (79, some (1, false))], [0, 1, 2, 3, 4, 5, 6, 7, 8, 9, 10, 11, 12, 13, 14, 15], none⟩,
              ⟨[(94, some (16, false)), (93, some (15, false))], [0, 1, 2, 3, 4, 5, 6, 7, 8, 9, 10, 11, 12, 13, 14, 15, 16], some (0, 0, true)⟩] [_] _ rfl rfl ?_
          refine dq_pure rfl (fun s => .g rfl (.nil)) (fun s hs _ => loc_move rfl) (by exact .nil) ?_
          refine dq_pure rfl (fun s => .g rfl (.nil)) (fun s hs _ => loc_move rfl) (by exact .nil) ?_
          refine dq_pure rfl (fun s => .g rfl (.nil)) (fun s hs _ => loc_move rfl) (by exact .nil) ?_
          refine dq_pure rfl (fun s => .g rfl (.nil)) (fun s hs _ => loc_move rfl) (by exact .nil) ?_
          first | refine dq_pure rfl (fun s => .op rfl (.op rfl (.nil))) (fun s hs _ => loc_indexRow rfl rfl (by first | omega | assumption)) (by exact .nil) ?_ | refine dq_pure rfl (fun s => .op rfl (.op rfl (.nil))) (fun s hs _ => loc_indexRowI rfl rfl (by first | omega | assumption)) (by exact .nil) ?_
          refine dq_read rfl (fun s => .op rfl (.nil)) rfl rfl (fun s hs _ hm => loc_loadRow1 rfl hm (by first | omega | assumption)) (by exact .nil) ?_
          refine dq_pure rfl (fun s => .g rfl (.nil)) (fun s hs _ => loc_move rfl) (by exact .nil) ?_
          refine dq_pure rfl (fun s => .g rfl (.nil)) (fun s hs _ => loc_move rfl) (by exact .nil) ?_
          first | refine dq_pure rfl (fun s => .op rfl (.op rfl (.nil))) (fun s hs _ => loc_index rfl rfl (by first | omega | assumption)) (by exact .nil) ?_ | refine dq_pure rfl (fun s => .op rfl (.op rfl (.nil))) (fun s hs _ => loc_indexI rfl rfl (by first | omega | assumption)) (by exact .nil) ?_
          refine dq_pure rfl (fun s => .op rfl (.nil)) (fun s hs _ => loc_load1 rfl) (by exact .nil) ?_
          refine dq_pure rfl (fun s => .g rfl (.nil)) (fun s hs _ => loc_move rfl) (by exact .nil) ?_
          first | refine dq_pure rfl (fun s => .op rfl (.op rfl (.nil))) (fun s hs _ => loc_mul rfl rfl (by first | omega | assumption)) (by exact .nil) ?_ | refine dq_pure rfl (fun s => .op rfl (.op rfl (.nil))) (fun s hs _ => loc_mulW rfl rfl) (by exact .nil) ?_
          first | refine dq_pure rfl (fun s => .op rfl (.op rfl (.nil))) (fun s hs _ => loc_add rfl rfl (by first | omega | assumption)) (by exact .nil) ?_ | refine dq_pure rfl (fun s => .op rfl (.op rfl (.nil))) (fun s hs _ => loc_addW rfl rfl) (by exact .nil) ?_
          refine dq_pure rfl (fun s => .g rfl (.nil)) (fun s hs _ => loc_fieldAddr rfl) (by exact .nil) ?_
          refine dq_pure rfl (fun s => .op rfl (.nil)) (fun s hs _ => loc_load1 rfl) (by exact .nil) ?_
          first | refine dq_pure rfl (fun s => .op rfl (.op rfl (.nil))) (fun s hs _ => loc_rem rfl rfl (by first | omega | assumption)) (by exact .nil) ?_ | refine dq_pure rfl (fun s => .op rfl (.op rfl (.nil))) (fun s hs _ => loc_remW rfl rfl (by first | omega | assumption)) (by exact .nil) ?_
          first | refine dq_pure rfl (fun s => .op rfl (.op rfl (.nil))) (fun s hs _ => loc_indexRow rfl rfl (by first | omega | assumption)) (by exact .nil) ?_ | refine dq_pure rfl (fun s => .op rfl (.op rfl (.nil))) (fun s hs _ => loc_indexRowI rfl rfl (by first | omega | assumption)) (by exact .nil) ?_
          refine dq_write0 rfl (fun s => .op rfl (.op rfl (.nil))) rfl rfl (fun s hs => loc_storeRow1 _ rfl rfl rfl (by first | omega | assumption)) (by exact .nil) ?_
          refine dq_end (rs := [_]) () rfl (fun _ => rfl) (.nil) rfl (fun _ => rfl) (fun _ _ => ?_)
          dsimp only [outG, outM, List.map, List.set, id]
          refine run_inBlock ?_
          refine run_region ?_
          first | refine run_op (loc_add rfl rfl (by first | omega | assumption)) rfl ?_ | refine run_op (loc_addW rfl rfl) rfl ?_
          refine run_op (loc_move rfl) rfl ?_
          refine run_nil ?_
          exact run_againF ih20 (u + 1) (by omega) (by omega) (.cons rfl (by first | exact fun _ _ h => h | exact d_int (by omega) | exact d_int (by simp) | exact d_intN (by omega) | exact d_any) .nil) (.cons rfl (fun _ _ x => x) (.cons rfl (fun _ _ x => x) (.cons rfl (fun _ _ x => x) (.cons rfl (fun _ _ x => x) (.cons rfl (fun _ _ x => x) (.cons rfl (fun _ _ x => x) (.cons rfl (fun _ _ x => x) (.cons rfl (fun _ _ x => x) (.cons rfl (fun _ _ x => x) (.nil)))))))))) (by simp only [appR]; rw [addT_take p (q[k]?.getD default) (combN p w.toNat rows q k) (rows[k]?.getD default) u (by omega) (by omega), Int.add_emod_emod, hx3])
         ·
          refine run_exit rfl ?_
          refine run_inBlock ?_
          refine run_region ?_
          first | refine run_op (loc_add rfl rfl (by first | omega | assumption)) rfl ?_ | refine run_op (loc_addW rfl rfl) rfl ?_
          refine run_op (loc_move rfl) rfl ?_
          refine run_nil ?_
          exact run_againF ih17 (k + 1) (by omega) (by omega) (.cons rfl (by first | exact fun _ _ h => h | exact d_int (by omega) | exact d_int (by simp) | exact d_intN (by omega) | exact d_any) .nil) (.cons rfl (fun _ _ x => x) (.cons rfl (fun _ _ x => x) (.cons rfl (fun _ _ x => x) (.cons rfl (fun _ _ x => x) (.cons rfl (fun _ _ x => x) (.nil)))))) (by simp only [appR]; rw [List.take_of_length_le (by omega)]; rfl)
        ·
         refine run_exit rfl ?_
         refine run_seq ?_
         refine run_freezeRow (s := 15) rfl (.here) ?_
         refine run_region ?_
         refine run_op (loc_move rfl) rfl ?_
         refine run_op (loc_assign rfl) rfl ?_
         refine run_op (loc_assign rfl) rfl ?_
         refine run_nil ?_
         refine run_ret2P Tryz.func157 rfl rfl rfl ?_
         exact d_tup2 (d_toInts (by rw [show rows.length = k by omega]) (fun _ _ h => h)) (fun _ _ h => h)
theorem answer16_spec (p w : Int) (rows : List (List Int)) (q : List Int) (hp : okP p) (hw : 0 ≤ w ∧ w ≤ 64) (hq : q.length = rows.length) (hr : ∀ r ∈ rows, (r.length : Int) = w ∧ allP p r) (hqa : allP p q) : SpecP Tryz.prog 120 [dAgg [dInt .i64 p], dInt .i64 w, dRows rows, dInts q] (dTup [dInts (combN p w.toNat rows q rows.length), dInt .i64 0]) := by
 refine specP_of_body Tryz.func120 rfl rfl (fun I M => ?_)
 refine run_seq ?_
 refine run_region ?_
 refine run_op (loc_boxN rfl) rfl ?_
 refine run_op (loc_assign rfl) rfl ?_
 refine run_op (loc_assign rfl) rfl ?_
 refine run_nil ?_
 refine run_seq ?_
 refine run_region ?_
 refine run_op (loc_loadN rfl rfl) rfl ?_
 refine run_op (loc_move rfl) rfl ?_
 refine run_op (loc_move rfl) rfl ?_
 refine run_op (loc_move rfl) rfl ?_
 refine run_op (loc_call (combine_spec p w rows q hp hw hq hr hqa) rfl) rfl ?_
 refine run_op (loc_extract rfl rfl) rfl ?_
 refine run_op (loc_extract rfl rfl) rfl ?_
 refine run_op (loc_assign rfl) rfl ?_
 refine run_op (loc_assign rfl) rfl ?_
 refine run_nil ?_
 refine run_ret2P Tryz.func120 rfl rfl rfl ?_
 exact fun _ _ h => h
theorem answer23_spec (p w : Int) (rows : List (List Int)) (q : List Int) (hp : okP p) (hw : 0 ≤ w ∧ w ≤ 64) (hq : q.length = rows.length) (hr : ∀ r ∈ rows, (r.length : Int) = w ∧ allP p r) (hqa : allP p q) : SpecP Tryz.prog 67 [dAgg [dInt .i64 p], dInt .i64 w, dRows rows, dInts q] (dTup [dInts (combN p w.toNat rows q rows.length), dInt .i64 0]) := by
 refine specP_of_body Tryz.func67 rfl rfl (fun I M => ?_)
 refine run_seq ?_
 refine run_region ?_
 refine run_op (loc_boxN rfl) rfl ?_
 refine run_op (loc_assign rfl) rfl ?_
 refine run_op (loc_assign rfl) rfl ?_
 refine run_nil ?_
 refine run_seq ?_
 refine run_region ?_
 refine run_op (loc_loadN rfl rfl) rfl ?_
 refine run_op (loc_move rfl) rfl ?_
 refine run_op (loc_move rfl) rfl ?_
 refine run_op (loc_move rfl) rfl ?_
 refine run_op (loc_call (answer16_spec p w rows q hp hw hq hr hqa) rfl) rfl ?_
 refine run_op (loc_extract rfl rfl) rfl ?_
 refine run_op (loc_extract rfl rfl) rfl ?_
 refine run_op (loc_assign rfl) rfl ?_
 refine run_op (loc_assign rfl) rfl ?_
 refine run_nil ?_
 refine run_ret2P Tryz.func67 rfl rfl rfl ?_
 exact fun _ _ h => h
end Go.Q
