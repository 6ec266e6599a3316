/- Contracts of equal servers in the program. -/
import Derived.Test.YtgaalfgmgmpnbaaGreatQSrvW
import Derived.Test.YtgaalfgmgmpnbaaGreatQServer7
import Derived.Test.YtgaalfgmgmpnbaaGreatQDice30S
set_option linter.unusedVariables false
set_option linter.unusedSimpArgs false
namespace Go.Q
open Go.Proofs
open Classical
theorem equalFuncR_spec (xs ys : List (List Int)) : SpecP Tryz.prog 71 [dSl 1 fR xs, dSl 1 fR ys, dFun Tryz.prog (fun p : (List Int) × (List Int) => [dInts p.1, dInts p.2]) (fun p => dB (p.1 = p.2))] (dB (xs = ys)) := by
  refine specP_of_body Tryz.func71 rfl rfl (fun I M => ?_)
  refine run_seq ?_
  refine run_region ?_
  refine run_op (loc_assign rfl) rfl ?_
  refine run_nil ?_
  refine run_seq ?_
  refine run_seq ?_
  refine run_region ?_
  refine run_op (loc_move rfl) rfl ?_
  first | refine runL_fact (s := 10) rfl (fun _ _ h => dSl_len h) (fun hlen1 => ?_) | skip
  refine run_op (loc_len rfl) rfl ?_
  refine run_op (loc_move rfl) rfl ?_
  first | refine runL_fact (s := 12) rfl (fun _ _ h => dSl_len h) (fun hlen2 => ?_) | skip
  refine run_op (loc_len rfl) rfl ?_
  refine run_op (loc_neq rfl rfl) rfl ?_
  refine run_nil ?_
  refine run_cond rfl (fun h3 => ?_) (fun h3 => ?_)
  ·
   refine run_seq ?_
   refine run_region ?_
   refine run_op (loc_assign rfl) rfl ?_
   refine run_nil ?_
   refine run_retP Tryz.func71 rfl rfl ?_
   exact d_B ⟨False.elim, fun h => by subst h; omega⟩
  ·
   refine run_skip ?_
   refine run_seq ?_
   refine run_seq ?_
   refine run_region ?_
   refine run_op (loc_move rfl) rfl ?_
   first | refine runL_fact (s := 15) rfl (fun _ _ h => dSl_len h) (fun hlen4 => ?_) | skip
   refine run_op (loc_len rfl) rfl ?_
   refine run_op (loc_move rfl) rfl ?_
   refine run_nil ?_
   refine run_block ?_
   refine run_loopC (σ := Nat) (ks := [1, 2, 15, 16]) (.cons rfl (.cons rfl (.cons rfl (.cons rfl (.nil))))) (fun k => [(17, dInt .i64 (k : Nat))]) (fun k => k ≤ xs.length ∧ (∀ j, j < k → xs[j]?.getD default = ys[j]?.getD default)) (fun k => xs.length - k) (0) (⟨by omega, fun j hj => by omega⟩) (.cons rfl (by first | exact fun _ _ h => h | exact d_int (by omega) | exact d_int (by simp) | exact d_intN (by omega) | exact d_any) .nil) ?_
   rintro k ⟨hk, hbk⟩ ih5
   refine run_seq ?_
   refine run_region ?_
   refine run_op (loc_lss rfl rfl) rfl ?_
   refine run_nil ?_
   refine run_seq ?_
   refine run_cond rfl (fun h6 => ?_) (fun h6 => ?_)
   ·
    refine run_skip ?_
    refine run_seq ?_
    refine run_block ?_
    refine run_seq ?_
    refine run_region ?_
    refine run_op (loc_move rfl) rfl ?_
    first | refine run_op (loc_index rfl rfl (by first | omega | assumption)) rfl ?_ | refine run_op (loc_indexI rfl rfl (by first | omega | assumption)) rfl ?_
    refine run_op (loc_load1 rfl) rfl ?_
    refine run_op (loc_assign rfl) rfl ?_
    refine run_op (loc_assign rfl) rfl ?_
    refine run_nil ?_
    refine run_seq ?_
    refine run_region ?_
    refine run_op (loc_move rfl) rfl ?_
    refine run_op (loc_move rfl) rfl ?_
    first | refine run_op (loc_index rfl rfl (by first | omega | assumption)) rfl ?_ | refine run_op (loc_indexI rfl rfl (by first | omega | assumption)) rfl ?_
    refine run_op (loc_load1 rfl) rfl ?_
    refine run_op (loc_assign rfl) rfl ?_
    refine run_nil ?_
    refine run_seq ?_
    refine run_region ?_
    refine run_op (loc_move rfl) rfl ?_
    refine run_op (loc_move rfl) rfl ?_
    refine run_op (loc_move rfl) rfl ?_
    refine run_op (loc_callFun (xs[k]?.getD default, ys[k]?.getD default) rfl rfl) rfl ?_
    refine run_op (loc_not rfl) rfl ?_
    refine run_nil ?_
    refine run_cond rfl (fun h7 => ?_) (fun h7 => ?_)
    ·
     refine run_seq ?_
     refine run_region ?_
     refine run_op (loc_assign rfl) rfl ?_
     refine run_nil ?_
     refine run_retP Tryz.func71 rfl rfl ?_
     exact d_B ⟨False.elim, fun h => by subst h; contradiction⟩
    ·
     refine run_skip ?_
     refine run_inBlock ?_
     refine run_region ?_
     first | refine run_op (loc_add rfl rfl (by first | omega | assumption)) rfl ?_ | refine run_op (loc_addW rfl rfl) rfl ?_
     refine run_op (loc_move rfl) rfl ?_
     refine run_nil ?_
     exact run_againC ih5 (k + 1) (⟨by omega, fun j hj => by by_cases e : j = k; (· subst e; exact Classical.not_not.1 (by assumption)); (· exact hbk j (by omega))⟩) (by omega) (.cons rfl (by first | exact fun _ _ h => h | exact d_int (by omega) | exact d_int (by simp) | exact d_intN (by omega) | exact d_any) .nil) (.cons rfl (fun _ _ x => x) (.cons rfl (fun _ _ x => x) (.cons rfl (fun _ _ x => x) (.cons rfl (fun _ _ x => x) (.nil)))))
   ·
    refine run_exit rfl ?_
    refine run_seq ?_
    refine run_region ?_
    refine run_op (loc_assign rfl) rfl ?_
    refine run_nil ?_
    refine run_retP Tryz.func71 rfl rfl ?_
    exact d_B ⟨fun _ => list_extD (by omega) (fun j hj => hbk j (by omega)), fun _ => trivial⟩
theorem eqRows_spec (xs ys : List (List Int)) : SpecP Tryz.prog 71 [dSl 1 fR xs, dSl 1 fR ys, dVal (.func (.func 72) #[] #[])] (dB (xs = ys)) :=
 specP_pre (equalFuncR_spec xs ys) (relL_last (ds := [dSl 1 fR xs, dSl 1 fR ys]) (val_fun (P := Tryz.prog) (Ds := fun p : (List Int) × (List Int) => [dInts p.1, dInts p.2]) (d := fun p => dB (p.1 = p.2)) (fun p => equalI_spec p.1 p.2)))
theorem same1_spec (x y : Held) : SpecP Tryz.prog 70 [dHeld x, dHeld y] (dB (x = y)) := by
 refine specP_of_body Tryz.func70 rfl rfl (fun I M => ?_)
 refine run_seq ?_
 refine run_region ?_
 refine run_op (loc_boxN rfl) rfl ?_
 refine run_op (loc_boxN rfl) rfl ?_
 refine run_op (loc_assign rfl) rfl ?_
 refine run_nil ?_
 refine run_seq ?_
 refine run_region ?_
 refine run_op (loc_fieldAddr rfl) rfl ?_
 refine run_op (loc_loadN rfl rfl) rfl ?_
 refine run_op (loc_fieldAddr rfl) rfl ?_
 refine run_op (loc_loadN rfl rfl) rfl ?_
 refine run_op (loc_eqlI rfl rfl (.cons (.cons (.cons (.cons (.cons (.nil)))))) rfl) rfl ?_
 refine run_op (loc_move rfl) rfl ?_
 refine run_gfirst rfl rfl gdI.ok (fun hg => loc_fieldAddr rfl) rfl ?_
 refine run_gop rfl rfl gdI.ok (fun hg => loc_load1 rfl) rfl ?_
 refine run_gop rfl rfl gdI.ok (fun hg => loc_fieldAddr rfl) rfl ?_
 refine run_gop rfl rfl gdI.ok (fun hg => loc_load1 rfl) rfl ?_
 refine run_gop rfl rfl gdI.ok (fun hg => loc_call (eqRows_spec _ _) rfl) rfl ?_
 refine run_gleave ?_
 refine run_op (loc_and rfl rfl) rfl ?_
 refine run_op (loc_assign rfl) rfl ?_
 refine run_nil ?_
 refine run_retP Tryz.func70 rfl rfl ?_
 exact d_B (by constructor; (· intro h; simp only [List.cons.injEq, and_true] at h; exact Held.ext' (Hd.ext' h.1.1 h.1.2.1 h.1.2.2.1 h.1.2.2.2.1 h.1.2.2.2.2) h.2); (· rintro rfl; exact ⟨rfl, rfl⟩))
theorem same2_spec (x y : Job) : SpecP Tryz.prog 74 [dJob x, dJob y] (dB (x = y)) := by
 refine specP_of_body Tryz.func74 rfl rfl (fun I M => ?_)
 refine run_seq ?_
 refine run_region ?_
 refine run_op (loc_boxN rfl) rfl ?_
 refine run_op (loc_boxN rfl) rfl ?_
 refine run_op (loc_assign rfl) rfl ?_
 refine run_nil ?_
 refine run_seq ?_
 refine run_region ?_
 refine run_op (loc_fieldAddr rfl) rfl ?_
 refine run_op (loc_load1 rfl) rfl ?_
 refine run_op (loc_fieldAddr rfl) rfl ?_
 refine run_op (loc_load1 rfl) rfl ?_
 refine run_op (loc_eql rfl rfl) rfl ?_
 refine run_op (loc_move rfl) rfl ?_
 refine run_gfirst rfl rfl gdI.ok (fun hg => loc_fieldAddr rfl) rfl ?_
 refine run_gop rfl rfl gdI.ok (fun hg => loc_load1 rfl) rfl ?_
 refine run_gop rfl rfl gdI.ok (fun hg => loc_fieldAddr rfl) rfl ?_
 refine run_gop rfl rfl gdI.ok (fun hg => loc_load1 rfl) rfl ?_
 refine run_gop rfl rfl gdI.ok (fun hg => loc_eql rfl rfl) rfl ?_
 refine run_gleave ?_
 refine run_op (loc_and rfl rfl) rfl ?_
 refine run_op (loc_move rfl) rfl ?_
 refine run_gfirst rfl rfl gdI.ok (fun hg => loc_fieldAddr rfl) rfl ?_
 refine run_gop rfl rfl gdI.ok (fun hg => loc_load1 rfl) rfl ?_
 refine run_gop rfl rfl gdI.ok (fun hg => loc_fieldAddr rfl) rfl ?_
 refine run_gop rfl rfl gdI.ok (fun hg => loc_load1 rfl) rfl ?_
 refine run_gop rfl rfl gdI.ok (fun hg => loc_eql rfl rfl) rfl ?_
 refine run_gleave ?_
 refine run_op (loc_and rfl rfl) rfl ?_
 refine run_op (loc_move rfl) rfl ?_
 refine run_gfirst rfl rfl gdI.ok (fun hg => loc_fieldAddr rfl) rfl ?_
 refine run_gop rfl rfl gdI.ok (fun hg => loc_load1 rfl) rfl ?_
 refine run_gop rfl rfl gdI.ok (fun hg => loc_fieldAddr rfl) rfl ?_
 refine run_gop rfl rfl gdI.ok (fun hg => loc_load1 rfl) rfl ?_
 refine run_gop rfl rfl gdI.ok (fun hg => loc_call (equalI_spec _ _) rfl) rfl ?_
 refine run_gleave ?_
 refine run_op (loc_and rfl rfl) rfl ?_
 refine run_op (loc_move rfl) rfl ?_
 refine run_gfirst rfl rfl gdI.ok (fun hg => loc_fieldAddr rfl) rfl ?_
 refine run_gop rfl rfl gdI.ok (fun hg => loc_load1 rfl) rfl ?_
 refine run_gop rfl rfl gdI.ok (fun hg => loc_fieldAddr rfl) rfl ?_
 refine run_gop rfl rfl gdI.ok (fun hg => loc_load1 rfl) rfl ?_
 refine run_gop rfl rfl gdI.ok (fun hg => loc_call (equalI_spec _ _) rfl) rfl ?_
 refine run_gleave ?_
 refine run_op (loc_and rfl rfl) rfl ?_
 refine run_op (loc_assign rfl) rfl ?_
 refine run_nil ?_
 refine run_retP Tryz.func74 rfl rfl ?_
 exact d_B (by constructor; (· rintro ⟨⟨⟨⟨h1, h2⟩, h3⟩, h4⟩, h5⟩; exact Job.ext' h1 h2 h3 h4 h5); (· rintro rfl; exact ⟨⟨⟨⟨rfl, rfl⟩, rfl⟩, rfl⟩, rfl⟩))
theorem equalFuncHl_spec (xs ys : List (Held)) : SpecP Tryz.prog 69 [dSl 6 cHeld xs, dSl 6 cHeld ys, dFun Tryz.prog (fun p : (Held) × (Held) => [dAgg (cHeld p.1), dAgg (cHeld p.2)]) (fun p => dB (p.1 = p.2))] (dB (xs = ys)) := by
  refine specP_of_body Tryz.func69 rfl rfl (fun I M => ?_)
  refine run_seq ?_
  refine run_region ?_
  refine run_op (loc_assign rfl) rfl ?_
  refine run_nil ?_
  refine run_seq ?_
  refine run_seq ?_
  refine run_region ?_
  refine run_op (loc_move rfl) rfl ?_
  first | refine runL_fact (s := 10) rfl (fun _ _ h => dSl_len h) (fun hlen1 => ?_) | skip
  refine run_op (loc_len rfl) rfl ?_
  refine run_op (loc_move rfl) rfl ?_
  first | refine runL_fact (s := 12) rfl (fun _ _ h => dSl_len h) (fun hlen2 => ?_) | skip
  refine run_op (loc_len rfl) rfl ?_
  refine run_op (loc_neq rfl rfl) rfl ?_
  refine run_nil ?_
  refine run_cond rfl (fun h3 => ?_) (fun h3 => ?_)
  ·
   refine run_seq ?_
   refine run_region ?_
   refine run_op (loc_assign rfl) rfl ?_
   refine run_nil ?_
   refine run_retP Tryz.func69 rfl rfl ?_
   exact d_B ⟨False.elim, fun h => by subst h; omega⟩
  ·
   refine run_skip ?_
   refine run_seq ?_
   refine run_seq ?_
   refine run_region ?_
   refine run_op (loc_move rfl) rfl ?_
   first | refine runL_fact (s := 15) rfl (fun _ _ h => dSl_len h) (fun hlen4 => ?_) | skip
   refine run_op (loc_len rfl) rfl ?_
   refine run_op (loc_move rfl) rfl ?_
   refine run_nil ?_
   refine run_block ?_
   refine run_loopC (σ := Nat) (ks := [1, 2, 15, 16]) (.cons rfl (.cons rfl (.cons rfl (.cons rfl (.nil))))) (fun k => [(17, dInt .i64 (k : Nat))]) (fun k => k ≤ xs.length ∧ (∀ j, j < k → xs[j]?.getD default = ys[j]?.getD default)) (fun k => xs.length - k) (0) (⟨by omega, fun j hj => by omega⟩) (.cons rfl (by first | exact fun _ _ h => h | exact d_int (by omega) | exact d_int (by simp) | exact d_intN (by omega) | exact d_any) .nil) ?_
   rintro k ⟨hk, hbk⟩ ih5
   refine run_seq ?_
   refine run_region ?_
   refine run_op (loc_lss rfl rfl) rfl ?_
   refine run_nil ?_
   refine run_seq ?_
   refine run_cond rfl (fun h6 => ?_) (fun h6 => ?_)
   ·
    refine run_skip ?_
    refine run_seq ?_
    refine run_block ?_
    refine run_seq ?_
    refine run_region ?_
    refine run_op (loc_move rfl) rfl ?_
    first | refine run_op (loc_index rfl rfl (by first | omega | assumption)) rfl ?_ | refine run_op (loc_indexI rfl rfl (by first | omega | assumption)) rfl ?_
    refine run_op (loc_loadN rfl rfl) rfl ?_
    refine run_new (loc_allocOwn (by simp)) rfl (fun b7 _ => ?_)
    refine run_op (loc_assign rfl) rfl ?_
    refine run_storeN (ho := (by show OneAll [_, _, _, _, _, _]; infer_instance)) rfl rfl (.here) (by rfl) ?_
    refine run_nil ?_
    refine run_seq ?_
    refine run_region ?_
    refine run_op (loc_move rfl) rfl ?_
    refine run_op (loc_move rfl) rfl ?_
    first | refine run_op (loc_index rfl rfl (by first | omega | assumption)) rfl ?_ | refine run_op (loc_indexI rfl rfl (by first | omega | assumption)) rfl ?_
    refine run_op (loc_loadN rfl rfl) rfl ?_
    refine run_new (loc_allocOwn (by simp)) rfl (fun b8 _ => ?_)
    refine run_storeN (ho := (by show OneAll [_, _, _, _, _, _]; infer_instance)) rfl rfl (.here) (by rfl) ?_
    refine run_nil ?_
    refine run_seq ?_
    refine run_region ?_
    refine run_op (loc_move rfl) rfl ?_
    refine run_op (loc_loadOwnN rfl (.there (.here)) (by rfl)) rfl ?_
    refine run_op (loc_loadOwnN rfl (.here) (by rfl)) rfl ?_
    refine run_op (loc_callFun (xs[k]?.getD default, ys[k]?.getD default) rfl rfl) rfl ?_
    refine run_op (loc_not rfl) rfl ?_
    refine run_nil ?_
    refine run_cond rfl (fun h9 => ?_) (fun h9 => ?_)
    ·
     refine run_seq ?_
     refine run_region ?_
     refine run_op (loc_assign rfl) rfl ?_
     refine run_nil ?_
     refine run_drop (.cons _ (.cons _ (.refl _))) ?_
     refine run_retP Tryz.func69 rfl rfl ?_
     exact d_B ⟨False.elim, fun h => by subst h; contradiction⟩
    ·
     refine run_skip ?_
     refine run_inBlock ?_
     refine run_region ?_
     first | refine run_op (loc_add rfl rfl (by first | omega | assumption)) rfl ?_ | refine run_op (loc_addW rfl rfl) rfl ?_
     refine run_op (loc_move rfl) rfl ?_
     refine run_nil ?_
     refine run_drop (.cons _ (.cons _ (.refl _))) ?_
     exact run_againC ih5 (k + 1) (⟨by omega, fun j hj => by by_cases e : j = k; (· subst e; exact Classical.not_not.1 (by assumption)); (· exact hbk j (by omega))⟩) (by omega) (.cons rfl (by first | exact fun _ _ h => h | exact d_int (by omega) | exact d_int (by simp) | exact d_intN (by omega) | exact d_any) .nil) (.cons rfl (fun _ _ x => x) (.cons rfl (fun _ _ x => x) (.cons rfl (fun _ _ x => x) (.cons rfl (fun _ _ x => x) (.nil)))))
   ·
    refine run_exit rfl ?_
    refine run_seq ?_
    refine run_region ?_
    refine run_op (loc_assign rfl) rfl ?_
    refine run_nil ?_
    refine run_retP Tryz.func69 rfl rfl ?_
    exact d_B ⟨fun _ => list_extD (by omega) (fun j hj => hbk j (by omega)), fun _ => trivial⟩
theorem eqHl_spec (xs ys : List (Held)) : SpecP Tryz.prog 69 [dSl 6 cHeld xs, dSl 6 cHeld ys, dVal (.func (.func 70) #[] #[])] (dB (xs = ys)) :=
 specP_pre (equalFuncHl_spec xs ys) (relL_last (ds := [dSl 6 cHeld xs, dSl 6 cHeld ys]) (val_fun (P := Tryz.prog) (Ds := fun p : (Held) × (Held) => [dAgg (cHeld p.1), dAgg (cHeld p.2)]) (d := fun p => dB (p.1 = p.2)) (fun p => same1_spec p.1 p.2)))
theorem equalFuncJb_spec (xs ys : List (Job)) : SpecP Tryz.prog 73 [dSl 5 cJob xs, dSl 5 cJob ys, dFun Tryz.prog (fun p : (Job) × (Job) => [dAgg (cJob p.1), dAgg (cJob p.2)]) (fun p => dB (p.1 = p.2))] (dB (xs = ys)) := by
  refine specP_of_body Tryz.func73 rfl rfl (fun I M => ?_)
  refine run_seq ?_
  refine run_region ?_
  refine run_op (loc_assign rfl) rfl ?_
  refine run_nil ?_
  refine run_seq ?_
  refine run_seq ?_
  refine run_region ?_
  refine run_op (loc_move rfl) rfl ?_
  first | refine runL_fact (s := 10) rfl (fun _ _ h => dSl_len h) (fun hlen1 => ?_) | skip
  refine run_op (loc_len rfl) rfl ?_
  refine run_op (loc_move rfl) rfl ?_
  first | refine runL_fact (s := 12) rfl (fun _ _ h => dSl_len h) (fun hlen2 => ?_) | skip
  refine run_op (loc_len rfl) rfl ?_
  refine run_op (loc_neq rfl rfl) rfl ?_
  refine run_nil ?_
  refine run_cond rfl (fun h3 => ?_) (fun h3 => ?_)
  ·
   refine run_seq ?_
   refine run_region ?_
   refine run_op (loc_assign rfl) rfl ?_
   refine run_nil ?_
   refine run_retP Tryz.func73 rfl rfl ?_
   exact d_B ⟨False.elim, fun h => by subst h; omega⟩
  ·
   refine run_skip ?_
   refine run_seq ?_
   refine run_seq ?_
   refine run_region ?_
   refine run_op (loc_move rfl) rfl ?_
   first | refine runL_fact (s := 15) rfl (fun _ _ h => dSl_len h) (fun hlen4 => ?_) | skip
   refine run_op (loc_len rfl) rfl ?_
   refine run_op (loc_move rfl) rfl ?_
   refine run_nil ?_
   refine run_block ?_
   refine run_loopC (σ := Nat) (ks := [1, 2, 15, 16]) (.cons rfl (.cons rfl (.cons rfl (.cons rfl (.nil))))) (fun k => [(17, dInt .i64 (k : Nat))]) (fun k => k ≤ xs.length ∧ (∀ j, j < k → xs[j]?.getD default = ys[j]?.getD default)) (fun k => xs.length - k) (0) (⟨by omega, fun j hj => by omega⟩) (.cons rfl (by first | exact fun _ _ h => h | exact d_int (by omega) | exact d_int (by simp) | exact d_intN (by omega) | exact d_any) .nil) ?_
   rintro k ⟨hk, hbk⟩ ih5
   refine run_seq ?_
   refine run_region ?_
   refine run_op (loc_lss rfl rfl) rfl ?_
   refine run_nil ?_
   refine run_seq ?_
   refine run_cond rfl (fun h6 => ?_) (fun h6 => ?_)
   ·
    refine run_skip ?_
    refine run_seq ?_
    refine run_block ?_
    refine run_seq ?_
    refine run_region ?_
    refine run_op (loc_move rfl) rfl ?_
    first | refine run_op (loc_index rfl rfl (by first | omega | assumption)) rfl ?_ | refine run_op (loc_indexI rfl rfl (by first | omega | assumption)) rfl ?_
    refine run_op (loc_loadN rfl rfl) rfl ?_
    refine run_new (loc_allocOwn (by simp)) rfl (fun b7 _ => ?_)
    refine run_op (loc_assign rfl) rfl ?_
    refine run_storeN (ho := (by show OneAll [_, _, _, _, _]; infer_instance)) rfl rfl (.here) (by rfl) ?_
    refine run_nil ?_
    refine run_seq ?_
    refine run_region ?_
    refine run_op (loc_move rfl) rfl ?_
    refine run_op (loc_move rfl) rfl ?_
    first | refine run_op (loc_index rfl rfl (by first | omega | assumption)) rfl ?_ | refine run_op (loc_indexI rfl rfl (by first | omega | assumption)) rfl ?_
    refine run_op (loc_loadN rfl rfl) rfl ?_
    refine run_new (loc_allocOwn (by simp)) rfl (fun b8 _ => ?_)
    refine run_storeN (ho := (by show OneAll [_, _, _, _, _]; infer_instance)) rfl rfl (.here) (by rfl) ?_
    refine run_nil ?_
    refine run_seq ?_
    refine run_region ?_
    refine run_op (loc_move rfl) rfl ?_
    refine run_op (loc_loadOwnN rfl (.there (.here)) (by rfl)) rfl ?_
    refine run_op (loc_loadOwnN rfl (.here) (by rfl)) rfl ?_
    refine run_op (loc_callFun (xs[k]?.getD default, ys[k]?.getD default) rfl rfl) rfl ?_
    refine run_op (loc_not rfl) rfl ?_
    refine run_nil ?_
    refine run_cond rfl (fun h9 => ?_) (fun h9 => ?_)
    ·
     refine run_seq ?_
     refine run_region ?_
     refine run_op (loc_assign rfl) rfl ?_
     refine run_nil ?_
     refine run_drop (.cons _ (.cons _ (.refl _))) ?_
     refine run_retP Tryz.func73 rfl rfl ?_
     exact d_B ⟨False.elim, fun h => by subst h; contradiction⟩
    ·
     refine run_skip ?_
     refine run_inBlock ?_
     refine run_region ?_
     first | refine run_op (loc_add rfl rfl (by first | omega | assumption)) rfl ?_ | refine run_op (loc_addW rfl rfl) rfl ?_
     refine run_op (loc_move rfl) rfl ?_
     refine run_nil ?_
     refine run_drop (.cons _ (.cons _ (.refl _))) ?_
     exact run_againC ih5 (k + 1) (⟨by omega, fun j hj => by by_cases e : j = k; (· subst e; exact Classical.not_not.1 (by assumption)); (· exact hbk j (by omega))⟩) (by omega) (.cons rfl (by first | exact fun _ _ h => h | exact d_int (by omega) | exact d_int (by simp) | exact d_intN (by omega) | exact d_any) .nil) (.cons rfl (fun _ _ x => x) (.cons rfl (fun _ _ x => x) (.cons rfl (fun _ _ x => x) (.cons rfl (fun _ _ x => x) (.nil)))))
   ·
    refine run_exit rfl ?_
    refine run_seq ?_
    refine run_region ?_
    refine run_op (loc_assign rfl) rfl ?_
    refine run_nil ?_
    refine run_retP Tryz.func73 rfl rfl ?_
    exact d_B ⟨fun _ => list_extD (by omega) (fun j hj => hbk j (by omega)), fun _ => trivial⟩
theorem eqJb_spec (xs ys : List (Job)) : SpecP Tryz.prog 73 [dSl 5 cJob xs, dSl 5 cJob ys, dVal (.func (.func 74) #[] #[])] (dB (xs = ys)) :=
 specP_pre (equalFuncJb_spec xs ys) (relL_last (ds := [dSl 5 cJob xs, dSl 5 cJob ys]) (val_fun (P := Tryz.prog) (Ds := fun p : (Job) × (Job) => [dAgg (cJob p.1), dAgg (cJob p.2)]) (d := fun p => dB (p.1 = p.2)) (fun p => same2_spec p.1 p.2)))
theorem psame_spec (a b : Srv) : SpecP Tryz.prog 32 [dSrv a, dSrv b] (dB (a = b)) := by
 refine specP_of_body Tryz.func32 rfl rfl (fun I M => ?_)
 refine run_seq ?_
 refine run_region ?_
 refine run_op (loc_boxN rfl) rfl ?_
 refine run_op (loc_boxN rfl) rfl ?_
 refine run_op (loc_assign rfl) rfl ?_
 refine run_nil ?_
 refine run_seq ?_
 refine run_region ?_
 refine run_op (loc_fieldAddr rfl) rfl ?_
 refine run_op (loc_load1 rfl) rfl ?_
 refine run_op (loc_fieldAddr rfl) rfl ?_
 refine run_op (loc_load1 rfl) rfl ?_
 refine run_op (loc_eql rfl rfl) rfl ?_
 refine run_op (loc_move rfl) rfl ?_
 refine run_gfirst rfl rfl gdI.ok (fun hg => loc_fieldAddr rfl) rfl ?_
 refine run_gop rfl rfl gdI.ok (fun hg => loc_loadN rfl rfl) rfl ?_
 refine run_gop rfl rfl gdI.ok (fun hg => loc_fieldAddr rfl) rfl ?_
 refine run_gop rfl rfl gdI.ok (fun hg => loc_loadN rfl rfl) rfl ?_
 refine run_gop rfl rfl gdI.ok (fun hg => loc_eqlI rfl rfl (.cons (.cons (.cons (.cons (.nil))))) rfl) rfl ?_
 refine run_gleave ?_
 refine run_op (loc_and rfl rfl) rfl ?_
 refine run_op (loc_move rfl) rfl ?_
 refine run_gfirst rfl rfl gdI.ok (fun hg => loc_fieldAddr rfl) rfl ?_
 refine run_gop rfl rfl gdI.ok (fun hg => loc_load1 rfl) rfl ?_
 refine run_gop rfl rfl gdI.ok (fun hg => loc_fieldAddr rfl) rfl ?_
 refine run_gop rfl rfl gdI.ok (fun hg => loc_load1 rfl) rfl ?_
 refine run_gop rfl rfl gdI.ok (fun hg => loc_eqlB rfl rfl) rfl ?_
 refine run_gleave ?_
 refine run_op (loc_and rfl rfl) rfl ?_
 refine run_op (loc_move rfl) rfl ?_
 refine run_gfirst rfl rfl gdI.ok (fun hg => loc_fieldAddr rfl) rfl ?_
 refine run_gop rfl rfl gdI.ok (fun hg => loc_load1 rfl) rfl ?_
 refine run_gop rfl rfl gdI.ok (fun hg => loc_fieldAddr rfl) rfl ?_
 refine run_gop rfl rfl gdI.ok (fun hg => loc_load1 rfl) rfl ?_
 refine run_gop rfl rfl gdI.ok (fun hg => loc_call (eqHl_spec _ _) rfl) rfl ?_
 refine run_gleave ?_
 refine run_op (loc_and rfl rfl) rfl ?_
 refine run_op (loc_move rfl) rfl ?_
 refine run_gfirst rfl rfl gdI.ok (fun hg => loc_fieldAddr rfl) rfl ?_
 refine run_gop rfl rfl gdI.ok (fun hg => loc_load1 rfl) rfl ?_
 refine run_gop rfl rfl gdI.ok (fun hg => loc_fieldAddr rfl) rfl ?_
 refine run_gop rfl rfl gdI.ok (fun hg => loc_load1 rfl) rfl ?_
 refine run_gop rfl rfl gdI.ok (fun hg => loc_call (eqJb_spec _ _) rfl) rfl ?_
 refine run_gleave ?_
 refine run_op (loc_and rfl rfl) rfl ?_
 refine run_op (loc_assign rfl) rfl ?_
 refine run_nil ?_
 refine run_retP Tryz.func32 rfl rfl ?_
 exact d_B (by constructor; (· rintro ⟨⟨⟨⟨h1, h2⟩, h3⟩, h4⟩, h5⟩; simp only [List.cons.injEq, and_true] at h2; exact Srv.ext' h1 (Schm.ext' h2.1 h2.2.1 h2.2.2.1 h2.2.2.2) h3 h4 h5); (· rintro rfl; exact ⟨⟨⟨⟨rfl, rfl⟩, Iff.rfl⟩, rfl⟩, rfl⟩))
end Go.Q

namespace Go.Q
open Go.Proofs
open Classical
theorem made30_spec (b : Nat) (d : Dc) (h : okDc d) : Spec Tryz.prog 8 [dVal (ptr b 0)] [rDc b d] (σ := (Schm × Int × Tab × Srv) × Dc) (fun r => (dieS r.1.1 ∧ dieP r.1.2.1 ∧ dieT r.1.2.1 r.1.2.2.1 ∧ okI r.1.2.2.2) ∧ okDc r.2) (fun r => dTup [dSchm r.1.1, dTab r.1.2.2.1, dSrv r.1.2.2.2]) (fun s => [rDc b s.2]) := by
 refine spec_of_body Tryz.func8 rfl rfl (fun I F => ?_)
 refine run_seq ?_
 refine run_region ?_
 refine run_new (loc_allocOwn (by simp)) rfl (fun b1 _ => ?_)
 refine run_new (loc_allocOwn (by simp)) rfl (fun b2 _ => ?_)
 refine run_new (loc_allocOwn (by simp)) rfl (fun b3 _ => ?_)
 refine run_nil ?_
 refine run_seq ?_
 refine run_region ?_
 refine run_op (loc_move rfl) rfl ?_
 refine run_callM rfl (.there (.there (.there (.here)))) (dscheme_spec b _ h) rfl (fun sc hsc => ?_)
 refine run_new (loc_allocOwn (by simp)) rfl (fun b4 _ => ?_)
 refine run_storeN (ho := (by show OneAll [_, _, _, _]; infer_instance)) rfl rfl (.here) (by rfl) ?_
 refine run_nil ?_
 refine run_seq ?_
 refine run_region ?_
 refine run_op (loc_move rfl) rfl ?_
 refine run_op (loc_move rfl) rfl ?_
 refine run_callM rfl (.there (.there (.there (.there (.here))))) (dfield_spec b _ hsc.2) rfl (fun fd hfd => ?_)
 refine run_callM rfl (.there (.there (.there (.there (.here))))) (dtable_spec b _ hfd.2 fd.1 hfd.1) rfl (fun tb htb => ?_)
 refine run_new (loc_allocOwn (by simp)) rfl (fun b5 _ => ?_)
 refine run_storeN (ho := (by show OneAll [_, _, _, _]; infer_instance)) rfl rfl (.here) (by rfl) ?_
 refine run_nil ?_
 refine run_seq ?_
 refine dr_start _ (.one (σ := Srv × Dc) 5 (fun r => okI r.1 ∧ okDc r.2)) [⟨[(5, none)], [], some (1, 0, false)⟩,
   ⟨[(6, none)], [], some (0, 0, false)⟩,
   ⟨[(0, none)], [], none⟩,
   ⟨[(5, none)], [], some (1, 0, false)⟩,
   ⟨[(6, none)], [], some (0, 0, false)⟩,
   ⟨[(15, some (2, false)), (16, some (3, false)), (17, some (4, false))], [2, 3, 4], some (5, 0, true)⟩,
   ⟨[(2, none), (13, some (0, false))], [0, 2, 3, 4, 5], some (4, 0, true)⟩,
   ⟨[(3, none), (14, some (1, false))], [0, 1, 2, 3, 4, 5, 6], some (3, 0, true)⟩,
   ⟨[(4, none), (18, some (5, false))], [0, 1, 2, 3, 4, 5, 6, 7], some (2, 0, true)⟩] [_, _, _, _, _, _] _ rfl rfl ?_
 refine dq_read rfl (fun s => .g rfl (.nil)) rfl rfl (fun s hs _ hm => loc_loadOwnN rfl hm (by rfl)) (by exact .cons (.inr fun _ _ _ => rfl) (.nil)) ?_
 refine dq_read rfl (fun s => .g rfl (.nil)) rfl rfl (fun s hs _ hm => loc_loadOwnN rfl hm (by rfl)) (by exact .cons (.inr fun _ _ _ => rfl) (.nil)) ?_
 refine dq_pure rfl (fun s => .g rfl (.nil)) (fun s hs _ => loc_move rfl) (by exact .cons (.inr fun _ _ _ => rfl) (.nil)) ?_
 refine dq_read rfl (fun s => .g rfl (.nil)) rfl rfl (fun s hs _ hm => loc_loadOwnN rfl hm (by rfl)) (by exact .cons (.inr fun _ _ _ => rfl) (.nil)) ?_
 refine dq_read rfl (fun s => .g rfl (.nil)) rfl rfl (fun s hs _ hm => loc_loadOwnN rfl hm (by rfl)) (by exact .cons (.inr fun _ _ _ => rfl) (.nil)) ?_
 refine dq_choose id (fun _ t => t) rfl (fun _ _ => ⟨rfl, id, trivial⟩) (fun s => .op rfl (.op rfl (.op rfl (.nil)))) rfl rfl (fun s hs => loc_callM (dserver_spec b _ htb.2 sc.1 tb.1 fd.1 hsc.1 hfd.1 htb.1) rfl) (by exact .cons (.inl rfl) (.nil)) (fun _ _ => rfl) ?_
 refine dq_write0 rfl (fun s => .g rfl (.op rfl (.nil))) rfl rfl (fun s hs => loc_storeN (ho := (by show OneAll [_, _, _, _]; infer_instance)) rfl rfl rfl) (by exact .cons (.inl rfl) (.nil)) ?_
 refine dq_write0 rfl (fun s => .g rfl (.op rfl (.nil))) rfl rfl (fun s hs => loc_storeN (ho := (by show OneAll [_, _, _, _]; infer_instance)) rfl rfl rfl) (by exact .cons (.inl rfl) (.nil)) ?_
 refine dq_write0 rfl (fun s => .g rfl (.op rfl (.nil))) rfl rfl (fun s hs => loc_storeN (ho := (by show OneAll [_, _, _, _, _, _, _, _]; infer_instance)) rfl rfl rfl) (by exact .cons (.inl rfl) (.nil)) ?_
 refine dq_end (rs := [_, _, _, _, _, _]) (srv0, tb.2) rfl (fun _ => rfl) (.cons rfl (.nil)) rfl (fun _ => rfl) (fun sv h9 => ?_)
 obtain hsv := Ch.one_good h9
 dsimp only [outG, outM, List.map, List.set, id]
 refine run_retG (((sc.1, fd.1, tb.1, sv.1), sv.2)) Tryz.func8 rfl (.cellN rfl (.there (.there (.there (.there (.here))))) (by rfl) (.cellN rfl (.there (.there (.there (.here)))) (by rfl) (.cellN rfl (.there (.there (.here))) (by rfl) (.nil)))) ?_ (⟨⟨hsc.1, hfd.1, htb.1, hsv.1⟩, hsv.2⟩) (fun _ _ h => h.sub (.cons _ (.cons _ (.cons _ (.cons _ (.cons _ (.cons_cons _ (.refl _))))))))
 exact fun _ _ h => h
end Go.Q
