/- Contracts of tapes that a seed gives. -/
import Derived.Test.YtmapjpdgjefnoaaQLib
import Derived.Test.YtmapjpdgjefnoaaQPlainR
import Derived.Test.YtmapjpdgjefnoaaQOwn4
set_option linter.unusedVariables false
set_option linter.unusedSimpArgs false
namespace Go.Q
open Go.Proofs

open Classical
theorem repLit_spec (x n : Int) (h : 0 ≤ n ∧ n ≤ 1000000) : SpecP Try.prog 89 [dSl 1 (fun l : List D => l) [fI x], dInt .i64 n] (dInts (List.replicate n.toNat x)) := by
  have h1 := repeatI_spec [x] n.toNat (by simp; omega) (by omega) (by simp)
  rw [reps_one, show ((n.toNat : Nat) : Int) = n by omega] at h1
  exact specP_pre h1 (fun I vs hr => by
    match vs, hr with
    | [a, b], hr => exact ⟨d_sl (f := fun l : List D => l) (xs := [fI x]) (ys := [x]) (h := fI) rfl _ _ hr.1, hr.2.1, trivial⟩)

theorem repLitM_spec (x n : Int) (h : 0 ≤ n ∧ n ≤ 1000000) : Spec Try.prog 89 [dSl 1 (fun l : List D => l) [fI x], dInt .i64 n] [] (σ := Value) (fun _ => True) (fun v => dVal v) (fun v => [rRow v 3 1 fI (List.replicate n.toNat x)]) := by
  have h1 := repeatIM_spec [x] n.toNat (by simp; omega) (by omega) (by simp)
  rw [reps_one, show ((n.toNat : Nat) : Int) = n by omega] at h1
  intro I F w vs hv hi
  match vs, hv with
  | [a, b], hr => exact h1 I F w _ ⟨d_sl (f := fun l : List D => l) (xs := [fI x]) (ys := [x]) (h := fI) rfl _ _ hr.1, hr.2.1, trivial⟩ hi

theorem limit_spec (n : Int) : SpecP Try.prog 103 [dInt .i64 n] (dB (1 ≤ n ∧ n ≤ 2147483647)) := by
  refine specP_of_body Try.func103 rfl rfl (fun I M => ?_)
  refine run_seq ?_
  refine run_region ?_
  refine run_op (loc_assign rfl) rfl ?_
  refine run_nil ?_
  refine run_seq ?_
  refine run_region ?_
  refine run_op (loc_move rfl) rfl ?_
  refine run_op (loc_geq rfl rfl) rfl ?_
  refine run_op (loc_move rfl) rfl ?_
  refine run_gfirst rfl rfl (by first | exact guard_true _ | exact guard_false _ | exact guard_if (guard_true _) | exact guard_if (guard_false _)) (fun hg => loc_move rfl) rfl ?_
  refine run_gop rfl rfl (by first | exact guard_true _ | exact guard_false _ | exact guard_if (guard_true _) | exact guard_if (guard_false _)) (fun hg => loc_leq rfl rfl) rfl ?_
  refine run_gleave ?_
  refine run_op (loc_and rfl rfl) rfl ?_
  refine run_op (loc_assign rfl) rfl ?_
  refine run_nil ?_
  refine run_retP Try.func103 rfl rfl ?_
  exact fun _ _ h => h

theorem bounded1_spec (n : Int) : SpecP Try.prog 102 [dInt .i64 n] (dB (¬ (1 ≤ n ∧ n ≤ 2147483647))) := by
  refine specP_of_body Try.func102 rfl rfl (fun I M => ?_)
  refine run_seq ?_
  refine run_region ?_
  refine run_op (loc_assign rfl) rfl ?_
  refine run_nil ?_
  refine run_seq ?_
  refine run_region ?_
  refine run_op (loc_move rfl) rfl ?_
  refine run_op (loc_call (limit_spec _) rfl) rfl ?_
  refine run_op (loc_not rfl) rfl ?_
  refine run_op (loc_assign rfl) rfl ?_
  refine run_nil ?_
  refine run_retP Try.func102 rfl rfl ?_
  exact fun _ _ h => h

theorem cfLim_spec (ls : List Int) : SpecP Try.prog 101 [dInts ls, dVal (.func (.func 102) #[] #[])] (dB (∃ x ∈ ls, ¬ (1 ≤ x ∧ x ≤ 2147483647))) :=
  specP_pre (containsFuncI_spec (fun x => ¬ (1 ≤ x ∧ x ≤ 2147483647)) ls) (relL_last (ds := [dInts ls]) (val_fun (P := Try.prog) (Ds := fun x : Int => [dInt .i64 x]) (d := fun x => dB (¬ (1 ≤ x ∧ x ≤ 2147483647))) (fun x => bounded1_spec x)))
theorem bounded_spec (ls : List Int) : SpecP Try.prog 96 [dInts ls] (dB (okLim ls)) := by
  refine specP_of_body Try.func96 rfl rfl (fun I M => ?_)
  refine run_seq ?_
  refine run_region ?_
  refine run_op (loc_assign rfl) rfl ?_
  refine run_nil ?_
  refine run_seq ?_
  refine run_region ?_
  refine run_op (loc_move rfl) rfl ?_
  first | refine runL_fact (s := 3) rfl (fun _ _ h => dSl_len h) (fun hlen1 => ?_) | skip
  refine run_op (loc_len rfl) rfl ?_
  refine run_op (loc_leq rfl rfl) rfl ?_
  refine run_op (loc_move rfl) rfl ?_
  refine run_gfirst rfl rfl (by first | exact guard_true _ | exact guard_false _ | exact guard_if (guard_true _) | exact guard_if (guard_false _)) (fun hg => loc_move rfl) rfl ?_
  refine run_gop rfl rfl (by first | exact guard_true _ | exact guard_false _ | exact guard_if (guard_true _) | exact guard_if (guard_false _)) (fun hg => loc_call (cfLim_spec _) rfl) rfl ?_
  refine run_gop rfl rfl (by first | exact guard_true _ | exact guard_false _ | exact guard_if (guard_true _) | exact guard_if (guard_false _)) (fun hg => loc_not rfl) rfl ?_
  refine run_gleave ?_
  refine run_op (loc_and rfl rfl) rfl ?_
  refine run_op (loc_assign rfl) rfl ?_
  refine run_nil ?_
  refine run_retP Try.func96 rfl rfl ?_
  exact d_B (by unfold okLim; constructor; (· rintro ⟨a, b⟩; exact ⟨by omega, fun l hl => Classical.not_not.1 fun h => b ⟨l, hl, h⟩⟩); (· rintro ⟨a, b⟩; exact ⟨by omega, fun ⟨l, hl, h⟩ => h (b l hl)⟩))

theorem seeded_spec (s : Int) (ls : List Int) : SpecP Try.prog 90 [dInt .i64 s, dInts ls] (dTup [dTape (seededT s ls), dInt .i64 (seededE s ls)]) := by
  refine specP_of_body Try.func90 rfl rfl (fun I M => ?_)
  refine run_seq ?_
  refine run_region ?_
  refine run_new (loc_allocOwn (by simp)) rfl (fun b1 _ => ?_)
  refine run_op (loc_assign rfl) rfl ?_
  refine run_nil ?_
  refine run_seq ?_
  refine run_seq ?_
  refine run_region ?_
  refine run_op (loc_move rfl) rfl ?_
  refine run_op (loc_lss rfl rfl) rfl ?_
  refine run_op (loc_move rfl) rfl ?_
  refine run_gfirst rfl rfl (by first | exact guard_true _ | exact guard_false _ | exact guard_if (guard_true _) | exact guard_if (guard_false _)) (fun hg => loc_move rfl) rfl ?_
  refine run_gop rfl rfl (by first | exact guard_true _ | exact guard_false _ | exact guard_if (guard_true _) | exact guard_if (guard_false _)) (fun hg => loc_geq rfl rfl) rfl ?_
  refine run_gleave ?_
  refine run_op (loc_or rfl rfl) rfl ?_
  refine run_nil ?_
  refine run_cond rfl (fun h2 => ?_) (fun h2 => ?_)
  ·
    have c1 := h2
    refine run_seq ?_
    refine run_region ?_
    refine run_op (loc_build (.nil)) rfl ?_
    refine run_storeN (ho := (by show OneAll [_, _]; infer_instance)) rfl rfl (by first | exact .here | exact .there .here | exact .there (.there .here) | exact .there (.there (.there .here)) | exact .there (.there (.there (.there .here))) | exact .there (.there (.there (.there (.there .here))))) (by rfl) ?_
    refine run_op (loc_assign rfl) rfl ?_
    refine run_nil ?_
    refine run_retGP Try.func90 rfl (.cellN rfl (by first | exact .here | exact .there .here | exact .there (.there .here) | exact .there (.there (.there .here)) | exact .there (.there (.there (.there .here))) | exact .there (.there (.there (.there (.there .here))))) (by rfl) (.tmp rfl (.nil))) ?_ (fun _ _ h => inv_tail (h))
    have he : seededE s ls = 1 := by unfold seededE; rw [if_pos (by omega)]
    exact d_tup2 (by unfold seededT; rw [if_neg (by omega)]; exact d_aggU (.cons d_nil (.cons (d_int rfl) .nil))) (d_int he.symm)
  ·
    refine run_skip ?_
    refine run_seq ?_
    refine run_seq ?_
    refine run_region ?_
    refine run_op (loc_move rfl) rfl ?_
    refine run_op (loc_call (bounded_spec _) rfl) rfl ?_
    refine run_op (loc_not rfl) rfl ?_
    refine run_nil ?_
    refine run_cond rfl (fun h3 => ?_) (fun h3 => ?_)
    ·
      have c2 := h3
      refine run_seq ?_
      refine run_region ?_
      refine run_op (loc_build (.nil)) rfl ?_
      refine run_storeN (ho := (by show OneAll [_, _]; infer_instance)) rfl rfl (by first | exact .here | exact .there .here | exact .there (.there .here) | exact .there (.there (.there .here)) | exact .there (.there (.there (.there .here))) | exact .there (.there (.there (.there (.there .here))))) (by rfl) ?_
      refine run_op (loc_assign rfl) rfl ?_
      refine run_nil ?_
      refine run_retGP Try.func90 rfl (.cellN rfl (by first | exact .here | exact .there .here | exact .there (.there .here) | exact .there (.there (.there .here)) | exact .there (.there (.there (.there .here))) | exact .there (.there (.there (.there (.there .here))))) (by rfl) (.tmp rfl (.nil))) ?_ (fun _ _ h => inv_tail (h))
      have he : seededE s ls = 4 := by unfold seededE; rw [if_neg (by omega), if_pos c2]
      exact d_tup2 (by unfold seededT; rw [if_neg (by omega)]; exact d_aggU (.cons d_nil (.cons (d_int rfl) .nil))) (d_int he.symm)
    ·
      have hok : okLim ls := Classical.not_not.1 h3
      have hl1 := hok.1
      refine run_skip ?_
      refine run_seq ?_
      refine run_region ?_
      refine run_new (loc_allocOwn (by simp)) rfl (fun b6 _ => ?_)
      refine run_nil ?_
      refine run_seq ?_
      refine run_seq ?_
      refine run_region ?_
      refine run_op (loc_move rfl) rfl ?_
      first | refine runL_fact (s := 20) rfl (fun _ _ h => dSl_len h) (fun hlen4 => ?_) | skip
      refine run_op (loc_len rfl) rfl ?_
      refine run_op (loc_move rfl) rfl ?_
      refine run_nil ?_
      refine run_block ?_
      refine run_rowNil 3 1 fI ?_
      refine run_cellsUp (kk := 0) (b := b6) (dVal (.slice none 0 0)) (dSlV (.slice none 0 0)) (.there (.here)) rfl (fun J u h => ⟨h, _, _, _, h⟩) ?_
      refine run_front (.here) ?_
      refine run_front (.there (.here)) ?_
      refine run_loopF (σ := Nat × Value) (ks := [4, 6, 20, 21]) (.cons rfl (.cons rfl (.cons rfl (.cons rfl (.nil))))) (fun r => [(0, dInt .i64 (it r.1 s)), (22, dInt .i64 (r.1 : Nat))]) (fun r => [rCells b6 53 [dSlV r.2, dInt .i64 0], rRow r.2 3 1 fI (nums s (ls.take r.1))]) (fun r => r.1 ≤ ls.length) (fun r => ls.length - r.1) ((0, .slice none 0 0)) (Nat.zero_le _) (.cons rfl (by first | exact fun _ _ h => h | exact d_int (by omega) | exact d_int (by simp) | exact d_intN (by omega) | exact d_any) (.cons rfl (by first | exact fun _ _ h => h | exact d_int (by omega) | exact d_int (by simp) | exact d_intN (by omega) | exact d_any) .nil)) (rfl) ?_
      intro r hr ih5
      have hb := it_bd (s := s) (by omega) r.1
      have hlen := nums_len s (ls.take r.1)
      rw [List.length_take] at hlen
      refine run_seq ?_
      refine run_region ?_
      refine run_op (loc_lss rfl rfl) rfl ?_
      refine run_nil ?_
      refine run_seq ?_
      refine run_cond rfl (fun h6 => ?_) (fun h6 => ?_)
      ·
        have hl := hok.2 _ (getD_mem (xs := ls) (k := r.1) (by omega))
        refine run_skip ?_
        refine run_seq ?_
        refine run_block ?_
        refine run_seq ?_
        refine run_region ?_
        first | refine run_op (loc_index rfl rfl (by first | omega | assumption)) rfl ?_ | refine run_op (loc_indexI rfl rfl (by first | omega | assumption)) rfl ?_
        refine run_op (loc_load1 rfl) rfl ?_
        refine run_op (loc_assign rfl) rfl ?_
        refine run_nil ?_
        refine run_seq ?_
        refine run_region ?_
        refine run_op (loc_move rfl) rfl ?_
        first | refine run_op (loc_mul rfl rfl (by first | omega | assumption)) rfl ?_ | refine run_op (loc_mulW rfl rfl) rfl ?_
        first | refine run_op (loc_rem rfl rfl (by first | omega | assumption)) rfl ?_ | refine run_op (loc_remW rfl rfl (by first | omega | assumption)) rfl ?_
        refine run_op (loc_assign rfl) rfl ?_
        refine run_nil ?_
        refine dr_start _ (.one (σ := Value) 6 (fun _ => True)) [⟨[(6, none)], [], none⟩,
            ⟨[(29, some (0, false))], [0], some (0, 0, false)⟩,
            ⟨[(0, none)], [], none⟩,
            ⟨[(8, none)], [], none⟩,
            ⟨[(31, some (2, false)), (32, some (3, false))], [2, 3], none⟩,
            ⟨[(33, some (4, false))], [2, 3, 4], none⟩,
            ⟨[(30, some (1, false)), (34, some (5, false))], [0, 1, 2, 3, 4, 5], some (1, 0, true)⟩,
            ⟨[(6, none)], [0, 1, 2, 3, 4, 5, 6], none⟩,
            ⟨[(36, some (7, false)), (35, some (6, false))], [0, 1, 2, 3, 4, 5, 6, 7], some (0, 0, true)⟩] [_, _, _] _ rfl rfl ?_
        refine dq_pure rfl (fun s => .g rfl (.nil)) (fun s hs _ => loc_fieldAddrOwn rfl) (by exact .cons (.inr fun _ _ _ => rfl) (.nil)) ?_
        first | refine dq_read rfl (fun s => .op rfl (.nil)) rfl rfl (fun s hs _ hm => LocP.upV (loc_loadOwn1 rfl hm (by rfl))) (by exact .cons (.inr fun _ _ _ => rfl) (.nil)) ?_ | refine dq_read rfl (fun s => .op rfl (.nil)) rfl rfl (fun s hs _ hm => loc_loadOwn1 rfl hm (by rfl)) (by exact .cons (.inr fun _ _ _ => rfl) (.nil)) ?_
        refine dq_pure rfl (fun s => .g rfl (.nil)) (fun s hs _ => loc_move rfl) (by exact .cons (.inr fun _ _ _ => rfl) (.nil)) ?_
        refine dq_pure rfl (fun s => .g rfl (.nil)) (fun s hs _ => loc_move rfl) (by exact .cons (.inr fun _ _ _ => rfl) (.nil)) ?_
        first | refine dq_pure rfl (fun s => .op rfl (.op rfl (.nil))) (fun s hs _ => loc_rem rfl rfl (by first | omega | assumption)) (by exact .cons (.inr fun _ _ _ => rfl) (.nil)) ?_ | refine dq_pure rfl (fun s => .op rfl (.op rfl (.nil))) (fun s hs _ => loc_remW rfl rfl (by first | omega | assumption)) (by exact .cons (.inr fun _ _ _ => rfl) (.nil)) ?_
        refine dq_pure rfl (fun s => .op rfl (.nil)) (fun s hs _ => loc_buildSlice rfl rfl (.one rfl (.nil)) rfl rfl) (by exact .cons (.inr fun _ _ _ => rfl) (.nil)) ?_
        refine dq_choose id (fun _ t => t) rfl (fun _ _ => ⟨rfl, id, trivial⟩) (fun s => .op rfl (.op rfl (.nil))) rfl rfl (fun s hs => LocM.rowV (loc_append1 _ rfl rfl rfl rfl (by first | omega | (unfold lenMax; omega) | assumption | (simp; omega) | (simp [lenMax]; omega)) (by first | omega | (unfold lenMax; omega) | assumption | (simp; omega) | (simp [lenMax]; omega)))) (by exact .cons (.inl rfl) (.nil)) ?_
        refine dq_pure rfl (fun s => .g rfl (.nil)) (fun s hs _ => loc_fieldAddrOwn rfl) (by exact .cons (.inl rfl) (.nil)) ?_
        refine dq_write0 rfl (fun s => .op rfl (.op rfl (.nil))) rfl rfl (fun s hs => loc_store1 rfl rfl rfl) (by exact .cons (.inl rfl) (.nil)) ?_
        refine dq_end (rs := [_, _, _]) (.bool true) rfl (fun _ => rfl) (.cons rfl (.nil)) rfl (fun v7 _ => ?_)
        dsimp only [outG, outM, List.map, List.set, id]
        refine run_inBlock ?_
        refine run_region ?_
        first | refine run_op (loc_add rfl rfl (by first | omega | assumption)) rfl ?_ | refine run_op (loc_addW rfl rfl) rfl ?_
        refine run_op (loc_move rfl) rfl ?_
        refine run_nil ?_
        exact run_againF ih5 ((r.1 + 1, v7)) (by simp; omega) (by simp; omega) (.cons rfl (by first | exact fun _ _ h => h | exact d_int (by omega) | exact d_int (by simp) | exact d_intN (by omega) | exact d_any) (.cons rfl (by first | exact fun _ _ h => h | exact d_int (by omega) | exact d_int (by simp) | exact d_intN (by omega) | exact d_any) .nil)) (.cons rfl (fun _ _ x => x) (.cons rfl (fun _ _ x => x) (.cons rfl (fun _ _ x => x) (.cons rfl (fun _ _ x => x) (.nil))))) (by simp only [appR]; rw [nums_take _ (by omega)]; rfl)
      ·
        refine run_exit rfl ?_
        refine run_seq ?_
        first | refine run_freezeRowCellV (kk := 0) (.there (.here)) (.here) rfl ?_ | refine run_freezeRowCell (kk := 0) (.there (.here)) (.here) rfl ?_
        refine run_region ?_
        refine run_op (loc_loadOwnN rfl (by first | exact .here | exact .there .here | exact .there (.there .here) | exact .there (.there (.there .here)) | exact .there (.there (.there (.there .here))) | exact .there (.there (.there (.there (.there .here))))) (by rfl)) rfl ?_
        refine run_storeN (ho := (by show OneAll [_, _]; infer_instance)) rfl rfl (by first | exact .here | exact .there .here | exact .there (.there .here) | exact .there (.there (.there .here)) | exact .there (.there (.there (.there .here))) | exact .there (.there (.there (.there (.there .here))))) (by rfl) ?_
        refine run_op (loc_assign rfl) rfl ?_
        refine run_nil ?_
        refine run_retGP Try.func90 rfl (.cellN rfl (by first | exact .here | exact .there .here | exact .there (.there .here) | exact .there (.there (.there .here)) | exact .there (.there (.there (.there .here))) | exact .there (.there (.there (.there (.there .here))))) (by rfl) (.tmp rfl (.nil))) ?_ (fun _ _ h => inv_tail (inv_tail (h)))
        have he : seededE s ls = 0 := by unfold seededE; rw [if_neg (by omega), if_neg (Classical.not_not.2 hok)]
        exact d_tup2 (d_eq (by unfold seededT; rw [if_pos he, List.take_of_length_le (l := ls) (i := r.1) (by omega)]; rfl)) (d_int he.symm)

theorem rseeded_spec (s : Int) (ls : List Int) : SpecP Try.prog 28 [dInt .i64 s, dInts ls] (dTup [dTape (seededT s ls), dInt .i64 (seededE s ls)]) := by
  refine specP_of_body Try.func28 rfl rfl (fun I M => ?_)
  refine run_seq ?_
  refine run_region ?_
  refine run_new (loc_allocOwn (by simp)) rfl (fun b1 _ => ?_)
  refine run_op (loc_assign rfl) rfl ?_
  refine run_nil ?_
  refine run_seq ?_
  refine run_seq ?_
  refine run_region ?_
  refine run_op (loc_move rfl) rfl ?_
  refine run_op (loc_lss rfl rfl) rfl ?_
  refine run_op (loc_move rfl) rfl ?_
  refine run_gfirst rfl rfl (by first | exact guard_true _ | exact guard_false _ | exact guard_if (guard_true _) | exact guard_if (guard_false _)) (fun hg => loc_move rfl) rfl ?_
  refine run_gop rfl rfl (by first | exact guard_true _ | exact guard_false _ | exact guard_if (guard_true _) | exact guard_if (guard_false _)) (fun hg => loc_geq rfl rfl) rfl ?_
  refine run_gleave ?_
  refine run_op (loc_or rfl rfl) rfl ?_
  refine run_nil ?_
  refine run_cond rfl (fun h2 => ?_) (fun h2 => ?_)
  ·
    have c1 := h2
    refine run_seq ?_
    refine run_region ?_
    refine run_op (loc_build (.nil)) rfl ?_
    refine run_storeN (ho := (by show OneAll [_, _]; infer_instance)) rfl rfl (by first | exact .here | exact .there .here | exact .there (.there .here) | exact .there (.there (.there .here)) | exact .there (.there (.there (.there .here))) | exact .there (.there (.there (.there (.there .here))))) (by rfl) ?_
    refine run_op (loc_assign rfl) rfl ?_
    refine run_nil ?_
    refine run_retGP Try.func28 rfl (.cellN rfl (by first | exact .here | exact .there .here | exact .there (.there .here) | exact .there (.there (.there .here)) | exact .there (.there (.there (.there .here))) | exact .there (.there (.there (.there (.there .here))))) (by rfl) (.tmp rfl (.nil))) ?_ (fun _ _ h => inv_tail (h))
    have he : seededE s ls = 1 := by unfold seededE; rw [if_pos (by omega)]
    exact d_tup2 (by unfold seededT; rw [if_neg (by omega)]; exact d_aggU (.cons d_nil (.cons (d_int rfl) .nil))) (d_int he.symm)
  ·
    refine run_skip ?_
    refine run_seq ?_
    refine run_seq ?_
    refine run_region ?_
    refine run_op (loc_move rfl) rfl ?_
    first | refine runL_fact (s := 18) rfl (fun _ _ h => dSl_len h) (fun hlen3 => ?_) | skip
    refine run_op (loc_len rfl) rfl ?_
    refine run_op (loc_gtr rfl rfl) rfl ?_
    refine run_nil ?_
    refine run_cond rfl (fun h4 => ?_) (fun h4 => ?_)
    ·
      have c2 : ¬ okLim ls := fun h => by have := h.1; omega
      refine run_seq ?_
      refine run_region ?_
      refine run_op (loc_build (.nil)) rfl ?_
      refine run_storeN (ho := (by show OneAll [_, _]; infer_instance)) rfl rfl (by first | exact .here | exact .there .here | exact .there (.there .here) | exact .there (.there (.there .here)) | exact .there (.there (.there (.there .here))) | exact .there (.there (.there (.there (.there .here))))) (by rfl) ?_
      refine run_op (loc_assign rfl) rfl ?_
      refine run_nil ?_
      refine run_retGP Try.func28 rfl (.cellN rfl (by first | exact .here | exact .there .here | exact .there (.there .here) | exact .there (.there (.there .here)) | exact .there (.there (.there (.there .here))) | exact .there (.there (.there (.there (.there .here))))) (by rfl) (.tmp rfl (.nil))) ?_ (fun _ _ h => inv_tail (h))
      have he : seededE s ls = 4 := by unfold seededE; rw [if_neg (by omega), if_pos c2]
      exact d_tup2 (by unfold seededT; rw [if_neg (by omega)]; exact d_aggU (.cons d_nil (.cons (d_int rfl) .nil))) (d_int he.symm)
    ·
      have hl1 : ls.length ≤ 16384 := by omega
      refine run_skip ?_
      refine run_seq ?_
      refine run_seq ?_
      refine run_region ?_
      refine run_op (loc_move rfl) rfl ?_
      first | refine runL_fact (s := 22) rfl (fun _ _ h => dSl_len h) (fun hlen5 => ?_) | skip
      refine run_op (loc_len rfl) rfl ?_
      refine run_op (loc_move rfl) rfl ?_
      refine run_nil ?_
      refine run_block ?_
      refine run_loopC (σ := Nat) (ks := [0, 1, 4, 22, 23]) (.cons rfl (.cons rfl (.cons rfl (.cons rfl (.cons rfl (.nil)))))) (fun k => [(24, dInt .i64 (k : Nat))]) (fun k => k ≤ ls.length ∧ (∀ j, j < k → 1 ≤ ls[j]?.getD default ∧ ls[j]?.getD default ≤ 2147483647)) (fun k => ls.length - k) (0) (⟨by omega, fun j hj => by omega⟩) (.cons rfl (by first | exact fun _ _ h => h | exact d_int (by omega) | exact d_int (by simp) | exact d_intN (by omega) | exact d_any) .nil) ?_
      rintro k ⟨hk, hbk⟩ ih6
      refine run_seq ?_
      refine run_region ?_
      refine run_op (loc_lss rfl rfl) rfl ?_
      refine run_nil ?_
      refine run_seq ?_
      refine run_cond rfl (fun h7 => ?_) (fun h7 => ?_)
      ·
        refine run_skip ?_
        refine run_seq ?_
        refine run_block ?_
        refine run_seq ?_
        refine run_region ?_
        first | refine run_op (loc_index rfl rfl (by first | omega | assumption)) rfl ?_ | refine run_op (loc_indexI rfl rfl (by first | omega | assumption)) rfl ?_
        refine run_op (loc_load1 rfl) rfl ?_
        refine run_op (loc_assign rfl) rfl ?_
        refine run_nil ?_
        refine run_seq ?_
        refine run_region ?_
        refine run_op (loc_move rfl) rfl ?_
        refine run_op (loc_lss rfl rfl) rfl ?_
        refine run_op (loc_move rfl) rfl ?_
        refine run_gfirst rfl rfl (by first | exact guard_true _ | exact guard_false _ | exact guard_if (guard_true _) | exact guard_if (guard_false _)) (fun hg => loc_move rfl) rfl ?_
        refine run_gop rfl rfl (by first | exact guard_true _ | exact guard_false _ | exact guard_if (guard_true _) | exact guard_if (guard_false _)) (fun hg => loc_gtr rfl rfl) rfl ?_
        refine run_gleave ?_
        refine run_op (loc_or rfl rfl) rfl ?_
        refine run_nil ?_
        refine run_cond rfl (fun h8 => ?_) (fun h8 => ?_)
        ·
          have c2 : ¬ okLim ls := fun h => by have := h.2 _ (getD_mem (xs := ls) (k := k) (by omega)); omega
          refine run_seq ?_
          refine run_region ?_
          refine run_op (loc_build (.nil)) rfl ?_
          refine run_storeN (ho := (by show OneAll [_, _]; infer_instance)) rfl rfl (by first | exact .here | exact .there .here | exact .there (.there .here) | exact .there (.there (.there .here)) | exact .there (.there (.there (.there .here))) | exact .there (.there (.there (.there (.there .here))))) (by rfl) ?_
          refine run_op (loc_assign rfl) rfl ?_
          refine run_nil ?_
          refine run_retGP Try.func28 rfl (.cellN rfl (by first | exact .here | exact .there .here | exact .there (.there .here) | exact .there (.there (.there .here)) | exact .there (.there (.there (.there .here))) | exact .there (.there (.there (.there (.there .here))))) (by rfl) (.tmp rfl (.nil))) ?_ (fun _ _ h => inv_tail (h))
          have he : seededE s ls = 4 := by unfold seededE; rw [if_neg (by omega), if_pos c2]
          exact d_tup2 (by unfold seededT; rw [if_neg (by omega)]; exact d_aggU (.cons d_nil (.cons (d_int rfl) .nil))) (d_int he.symm)
        ·
          refine run_skip ?_
          refine run_inBlock ?_
          refine run_region ?_
          first | refine run_op (loc_add rfl rfl (by first | omega | assumption)) rfl ?_ | refine run_op (loc_addW rfl rfl) rfl ?_
          refine run_op (loc_move rfl) rfl ?_
          refine run_nil ?_
          exact run_againC ih6 (k + 1) (⟨by omega, fun j hj => by by_cases e : j = k; (· subst e; omega); (· exact hbk j (by omega))⟩) (by omega) (.cons rfl (by first | exact fun _ _ h => h | exact d_int (by omega) | exact d_int (by simp) | exact d_intN (by omega) | exact d_any) .nil) (.cons rfl (fun _ _ x => x) (.cons rfl (fun _ _ x => x) (.cons rfl (fun _ _ x => x) (.cons rfl (fun _ _ x => x) (.cons rfl (fun _ _ x => x) (.nil))))))
      ·
        have hok : okLim ls := ⟨hl1, forall_getD (p := fun l : Int => 1 ≤ l ∧ l ≤ 2147483647) (fun j hj => hbk j (by omega))⟩
        refine run_exit rfl ?_
        refine run_seq ?_
        refine run_region ?_
        refine run_new (loc_allocOwn (by simp)) rfl (fun b8 _ => ?_)
        refine run_nil ?_
        refine run_seq ?_
        refine run_seq ?_
        refine run_region ?_
        refine run_op (loc_move rfl) rfl ?_
        first | refine runL_fact (s := 36) rfl (fun _ _ h => dSl_len h) (fun hlen9 => ?_) | skip
        refine run_op (loc_len rfl) rfl ?_
        refine run_op (loc_move rfl) rfl ?_
        refine run_nil ?_
        refine run_block ?_
        refine run_rowNil 3 1 fI ?_
        refine run_cellsUp (kk := 0) (b := b8) (dVal (.slice none 0 0)) (dSlV (.slice none 0 0)) (.there (.here)) rfl (fun J u h => ⟨h, _, _, _, h⟩) ?_
        refine run_front (.here) ?_
        refine run_front (.there (.here)) ?_
        refine run_loopF (σ := Nat × Value) (ks := [4, 8, 36, 37]) (.cons rfl (.cons rfl (.cons rfl (.cons rfl (.nil))))) (fun r => [(0, dInt .i64 (it r.1 s)), (38, dInt .i64 (r.1 : Nat))]) (fun r => [rCells b8 53 [dSlV r.2, dInt .i64 0], rRow r.2 3 1 fI (nums s (ls.take r.1))]) (fun r => r.1 ≤ ls.length) (fun r => ls.length - r.1) ((0, .slice none 0 0)) (Nat.zero_le _) (.cons rfl (by first | exact fun _ _ h => h | exact d_int (by omega) | exact d_int (by simp) | exact d_intN (by omega) | exact d_any) (.cons rfl (by first | exact fun _ _ h => h | exact d_int (by omega) | exact d_int (by simp) | exact d_intN (by omega) | exact d_any) .nil)) (rfl) ?_
        intro r hr ih10
        have hb := it_bd (s := s) (by omega) r.1
        have hlen := nums_len s (ls.take r.1)
        rw [List.length_take] at hlen
        refine run_seq ?_
        refine run_region ?_
        refine run_op (loc_lss rfl rfl) rfl ?_
        refine run_nil ?_
        refine run_seq ?_
        refine run_cond rfl (fun h11 => ?_) (fun h11 => ?_)
        ·
          have hl := hok.2 _ (getD_mem (xs := ls) (k := r.1) (by omega))
          refine run_skip ?_
          refine run_seq ?_
          refine run_block ?_
          refine run_seq ?_
          refine run_region ?_
          first | refine run_op (loc_index rfl rfl (by first | omega | assumption)) rfl ?_ | refine run_op (loc_indexI rfl rfl (by first | omega | assumption)) rfl ?_
          refine run_op (loc_load1 rfl) rfl ?_
          refine run_op (loc_assign rfl) rfl ?_
          refine run_nil ?_
          refine run_seq ?_
          refine run_region ?_
          refine run_op (loc_move rfl) rfl ?_
          first | refine run_op (loc_mul rfl rfl (by first | omega | assumption)) rfl ?_ | refine run_op (loc_mulW rfl rfl) rfl ?_
          first | refine run_op (loc_rem rfl rfl (by first | omega | assumption)) rfl ?_ | refine run_op (loc_remW rfl rfl (by first | omega | assumption)) rfl ?_
          refine run_op (loc_assign rfl) rfl ?_
          refine run_nil ?_
          refine dr_start _ (.one (σ := Value) 6 (fun _ => True)) [⟨[(8, none)], [], none⟩,
              ⟨[(45, some (0, false))], [0], some (0, 0, false)⟩,
              ⟨[(0, none)], [], none⟩,
              ⟨[(10, none)], [], none⟩,
              ⟨[(47, some (2, false)), (48, some (3, false))], [2, 3], none⟩,
              ⟨[(49, some (4, false))], [2, 3, 4], none⟩,
              ⟨[(46, some (1, false)), (50, some (5, false))], [0, 1, 2, 3, 4, 5], some (1, 0, true)⟩,
              ⟨[(8, none)], [0, 1, 2, 3, 4, 5, 6], none⟩,
              ⟨[(52, some (7, false)), (51, some (6, false))], [0, 1, 2, 3, 4, 5, 6, 7], some (0, 0, true)⟩] [_, _, _] _ rfl rfl ?_
          refine dq_pure rfl (fun s => .g rfl (.nil)) (fun s hs _ => loc_fieldAddrOwn rfl) (by exact .cons (.inr fun _ _ _ => rfl) (.nil)) ?_
          first | refine dq_read rfl (fun s => .op rfl (.nil)) rfl rfl (fun s hs _ hm => LocP.upV (loc_loadOwn1 rfl hm (by rfl))) (by exact .cons (.inr fun _ _ _ => rfl) (.nil)) ?_ | refine dq_read rfl (fun s => .op rfl (.nil)) rfl rfl (fun s hs _ hm => loc_loadOwn1 rfl hm (by rfl)) (by exact .cons (.inr fun _ _ _ => rfl) (.nil)) ?_
          refine dq_pure rfl (fun s => .g rfl (.nil)) (fun s hs _ => loc_move rfl) (by exact .cons (.inr fun _ _ _ => rfl) (.nil)) ?_
          refine dq_pure rfl (fun s => .g rfl (.nil)) (fun s hs _ => loc_move rfl) (by exact .cons (.inr fun _ _ _ => rfl) (.nil)) ?_
          first | refine dq_pure rfl (fun s => .op rfl (.op rfl (.nil))) (fun s hs _ => loc_rem rfl rfl (by first | omega | assumption)) (by exact .cons (.inr fun _ _ _ => rfl) (.nil)) ?_ | refine dq_pure rfl (fun s => .op rfl (.op rfl (.nil))) (fun s hs _ => loc_remW rfl rfl (by first | omega | assumption)) (by exact .cons (.inr fun _ _ _ => rfl) (.nil)) ?_
          refine dq_pure rfl (fun s => .op rfl (.nil)) (fun s hs _ => loc_buildSlice rfl rfl (.one rfl (.nil)) rfl rfl) (by exact .cons (.inr fun _ _ _ => rfl) (.nil)) ?_
          refine dq_choose id (fun _ t => t) rfl (fun _ _ => ⟨rfl, id, trivial⟩) (fun s => .op rfl (.op rfl (.nil))) rfl rfl (fun s hs => LocM.rowV (loc_append1 _ rfl rfl rfl rfl (by first | omega | (unfold lenMax; omega) | assumption | (simp; omega) | (simp [lenMax]; omega)) (by first | omega | (unfold lenMax; omega) | assumption | (simp; omega) | (simp [lenMax]; omega)))) (by exact .cons (.inl rfl) (.nil)) ?_
          refine dq_pure rfl (fun s => .g rfl (.nil)) (fun s hs _ => loc_fieldAddrOwn rfl) (by exact .cons (.inl rfl) (.nil)) ?_
          refine dq_write0 rfl (fun s => .op rfl (.op rfl (.nil))) rfl rfl (fun s hs => loc_store1 rfl rfl rfl) (by exact .cons (.inl rfl) (.nil)) ?_
          refine dq_end (rs := [_, _, _]) (.bool true) rfl (fun _ => rfl) (.cons rfl (.nil)) rfl (fun v12 _ => ?_)
          dsimp only [outG, outM, List.map, List.set, id]
          refine run_inBlock ?_
          refine run_region ?_
          first | refine run_op (loc_add rfl rfl (by first | omega | assumption)) rfl ?_ | refine run_op (loc_addW rfl rfl) rfl ?_
          refine run_op (loc_move rfl) rfl ?_
          refine run_nil ?_
          exact run_againF ih10 ((r.1 + 1, v12)) (by simp; omega) (by simp; omega) (.cons rfl (by first | exact fun _ _ h => h | exact d_int (by omega) | exact d_int (by simp) | exact d_intN (by omega) | exact d_any) (.cons rfl (by first | exact fun _ _ h => h | exact d_int (by omega) | exact d_int (by simp) | exact d_intN (by omega) | exact d_any) .nil)) (.cons rfl (fun _ _ x => x) (.cons rfl (fun _ _ x => x) (.cons rfl (fun _ _ x => x) (.cons rfl (fun _ _ x => x) (.nil))))) (by simp only [appR]; rw [nums_take _ (by omega)]; rfl)
        ·
          refine run_exit rfl ?_
          refine run_seq ?_
          first | refine run_freezeRowCellV (kk := 0) (.there (.here)) (.here) rfl ?_ | refine run_freezeRowCell (kk := 0) (.there (.here)) (.here) rfl ?_
          refine run_region ?_
          refine run_op (loc_loadOwnN rfl (by first | exact .here | exact .there .here | exact .there (.there .here) | exact .there (.there (.there .here)) | exact .there (.there (.there (.there .here))) | exact .there (.there (.there (.there (.there .here))))) (by rfl)) rfl ?_
          refine run_storeN (ho := (by show OneAll [_, _]; infer_instance)) rfl rfl (by first | exact .here | exact .there .here | exact .there (.there .here) | exact .there (.there (.there .here)) | exact .there (.there (.there (.there .here))) | exact .there (.there (.there (.there (.there .here))))) (by rfl) ?_
          refine run_op (loc_assign rfl) rfl ?_
          refine run_nil ?_
          refine run_retGP Try.func28 rfl (.cellN rfl (by first | exact .here | exact .there .here | exact .there (.there .here) | exact .there (.there (.there .here)) | exact .there (.there (.there (.there .here))) | exact .there (.there (.there (.there (.there .here))))) (by rfl) (.tmp rfl (.nil))) ?_ (fun _ _ h => inv_tail (inv_tail (h)))
          have he : seededE s ls = 0 := by unfold seededE; rw [if_neg (by omega), if_neg (Classical.not_not.2 hok)]
          exact d_tup2 (d_eq (by unfold seededT; rw [if_pos he, List.take_of_length_le (l := ls) (i := r.1) (by omega)]; rfl)) (d_int he.symm)

theorem tsame_spec (a b : Tape) : SpecP Try.prog 43 [dTape a, dTape b] (dB (a = b)) := by
  refine specP_of_body Try.func43 rfl rfl (fun I M => ?_)
  refine run_seq ?_
  refine run_region ?_
  refine run_op (loc_boxN rfl) rfl ?_
  refine run_op (loc_boxN rfl) rfl ?_
  refine run_op (loc_assign rfl) rfl ?_
  refine run_nil ?_
  refine run_seq ?_
  refine run_seq ?_
  refine run_region ?_
  refine run_op (loc_fieldAddr rfl) rfl ?_
  refine run_op (loc_load1 rfl) rfl ?_
  refine run_op (loc_fieldAddr rfl) rfl ?_
  refine run_op (loc_load1 rfl) rfl ?_
  refine run_op (loc_neq rfl rfl) rfl ?_
  refine run_op (loc_move rfl) rfl ?_
  refine run_gfirst rfl rfl (by first | exact guard_true _ | exact guard_false _ | exact guard_if (guard_true _) | exact guard_if (guard_false _)) (fun hg => loc_fieldAddr rfl) rfl ?_
  refine run_gop rfl rfl (by first | exact guard_true _ | exact guard_false _ | exact guard_if (guard_true _) | exact guard_if (guard_false _)) (fun hg => loc_load1 rfl) rfl ?_
  refine run_gop rfl rfl (by first | exact guard_true _ | exact guard_false _ | exact guard_if (guard_true _) | exact guard_if (guard_false _)) (fun hg => loc_len rfl) rfl ?_
  refine run_gop rfl rfl (by first | exact guard_true _ | exact guard_false _ | exact guard_if (guard_true _) | exact guard_if (guard_false _)) (fun hg => loc_fieldAddr rfl) rfl ?_
  refine run_gop rfl rfl (by first | exact guard_true _ | exact guard_false _ | exact guard_if (guard_true _) | exact guard_if (guard_false _)) (fun hg => loc_load1 rfl) rfl ?_
  refine run_gop rfl rfl (by first | exact guard_true _ | exact guard_false _ | exact guard_if (guard_true _) | exact guard_if (guard_false _)) (fun hg => loc_len rfl) rfl ?_
  refine run_gop rfl rfl (by first | exact guard_true _ | exact guard_false _ | exact guard_if (guard_true _) | exact guard_if (guard_false _)) (fun hg => loc_neq rfl rfl) rfl ?_
  refine run_gleave ?_
  refine run_op (loc_or rfl rfl) rfl ?_
  refine run_nil ?_
  refine run_cond rfl (fun h1 => ?_) (fun h1 => ?_)
  ·
    refine run_seq ?_
    refine run_region ?_
    refine run_op (loc_assign rfl) rfl ?_
    refine run_nil ?_
    refine run_retP Try.func43 rfl rfl ?_
    exact d_B ⟨False.elim, fun h => by subst h; omega⟩
  ·
    refine run_skip ?_
    refine run_seq ?_
    refine run_seq ?_
    refine run_region ?_
    refine run_op (loc_fieldAddr rfl) rfl ?_
    refine run_op (loc_load1 rfl) rfl ?_
    first | refine runL_fact (s := 21) rfl (fun _ _ h => dSl_len h) (fun hlen2 => ?_) | skip
    refine run_op (loc_len rfl) rfl ?_
    refine run_op (loc_move rfl) rfl ?_
    refine run_nil ?_
    refine run_block ?_
    refine run_loopC (σ := Nat) (ks := [2, 3, 22]) (.cons rfl (.cons rfl (.cons rfl (.nil)))) (fun k => [(23, dInt .i64 (k : Nat))]) (fun k => k ≤ a.numbers.length ∧ (∀ j, j < k → a.numbers[j]?.getD default = b.numbers[j]?.getD default)) (fun k => a.numbers.length - k) (0) (⟨by omega, fun j hj => by omega⟩) (.cons rfl (by first | exact fun _ _ h => h | exact d_int (by omega) | exact d_int (by simp) | exact d_intN (by omega) | exact d_any) .nil) ?_
    rintro k ⟨hk, hbk⟩ ih3
    refine run_seq ?_
    refine run_region ?_
    refine run_op (loc_lss rfl rfl) rfl ?_
    refine run_nil ?_
    refine run_seq ?_
    refine run_cond rfl (fun h4 => ?_) (fun h4 => ?_)
    ·
      refine run_skip ?_
      refine run_seq ?_
      refine run_block ?_
      refine run_seq ?_
      refine run_region ?_
      refine run_op (loc_move rfl) rfl ?_
      refine run_op (loc_assign rfl) rfl ?_
      refine run_nil ?_
      refine run_seq ?_
      refine dr_start _ (.none) [⟨[(2, none)], [], none⟩,
          ⟨[(26, some (0, false))], [0], none⟩,
          ⟨[(5, none)], [], none⟩,
          ⟨[(27, some (1, false)), (28, some (2, false))], [0, 1, 2], none⟩,
          ⟨[(29, some (3, false))], [0, 1, 2, 3], none⟩,
          ⟨[(3, none)], [], none⟩,
          ⟨[(31, some (5, false))], [5], none⟩,
          ⟨[(5, none)], [], none⟩,
          ⟨[(32, some (6, false)), (33, some (7, false))], [5, 6, 7], none⟩,
          ⟨[(34, some (8, false))], [5, 6, 7, 8], none⟩,
          ⟨[(30, some (4, false)), (35, some (9, false))], [0, 1, 2, 3, 4, 5, 6, 7, 8, 9], none⟩] [] _ rfl rfl ?_
      refine dq_pure rfl (fun s => .g rfl (.nil)) (fun s hs _ => loc_fieldAddr rfl) (by exact .nil) ?_
      refine dq_pure rfl (fun s => .op rfl (.nil)) (fun s hs _ => loc_load1 rfl) (by exact .nil) ?_
      refine dq_pure rfl (fun s => .g rfl (.nil)) (fun s hs _ => loc_move rfl) (by exact .nil) ?_
      first | refine dq_pure rfl (fun s => .op rfl (.op rfl (.nil))) (fun s hs _ => loc_index rfl rfl (by first | omega | assumption)) (by exact .nil) ?_ | refine dq_pure rfl (fun s => .op rfl (.op rfl (.nil))) (fun s hs _ => loc_indexI rfl rfl (by first | omega | assumption)) (by exact .nil) ?_
      refine dq_pure rfl (fun s => .op rfl (.nil)) (fun s hs _ => loc_load1 rfl) (by exact .nil) ?_
      refine dq_pure rfl (fun s => .g rfl (.nil)) (fun s hs _ => loc_fieldAddr rfl) (by exact .nil) ?_
      refine dq_pure rfl (fun s => .op rfl (.nil)) (fun s hs _ => loc_load1 rfl) (by exact .nil) ?_
      refine dq_pure rfl (fun s => .g rfl (.nil)) (fun s hs _ => loc_move rfl) (by exact .nil) ?_
      first | refine dq_pure rfl (fun s => .op rfl (.op rfl (.nil))) (fun s hs _ => loc_index rfl rfl (by first | omega | assumption)) (by exact .nil) ?_ | refine dq_pure rfl (fun s => .op rfl (.op rfl (.nil))) (fun s hs _ => loc_indexI rfl rfl (by first | omega | assumption)) (by exact .nil) ?_
      refine dq_pure rfl (fun s => .op rfl (.nil)) (fun s hs _ => loc_load1 rfl) (by exact .nil) ?_
      refine dq_pure rfl (fun s => .op rfl (.op rfl (.nil))) (fun s hs _ => loc_neq rfl rfl) (by exact .nil) ?_
      refine dq_end (rs := []) () rfl (fun _ => rfl) (.nil) rfl (fun _ _ => ?_)
      dsimp only [outG, outM, List.map, List.set, id]
      refine run_cond rfl (fun h5 => ?_) (fun h5 => ?_)
      ·
        refine run_seq ?_
        refine run_region ?_
        refine run_op (loc_assign rfl) rfl ?_
        refine run_nil ?_
        refine run_retP Try.func43 rfl rfl ?_
        exact d_B ⟨False.elim, fun h => by subst h; contradiction⟩
      ·
        refine run_skip ?_
        refine run_inBlock ?_
        refine run_region ?_
        first | refine run_op (loc_add rfl rfl (by first | omega | assumption)) rfl ?_ | refine run_op (loc_addW rfl rfl) rfl ?_
        refine run_op (loc_move rfl) rfl ?_
        refine run_nil ?_
        exact run_againC ih3 (k + 1) (⟨by omega, fun j hj => by by_cases e : j = k; (· subst e; exact Classical.not_not.1 (by assumption)); (· exact hbk j (by omega))⟩) (by omega) (.cons rfl (by first | exact fun _ _ h => h | exact d_int (by omega) | exact d_int (by simp) | exact d_intN (by omega) | exact d_any) .nil) (.cons rfl (fun _ _ x => x) (.cons rfl (fun _ _ x => x) (.cons rfl (fun _ _ x => x) (.nil))))
    ·
      refine run_exit rfl ?_
      refine run_seq ?_
      refine run_region ?_
      refine run_op (loc_assign rfl) rfl ?_
      refine run_nil ?_
      refine run_retP Try.func43 rfl rfl ?_
      exact d_B ⟨fun _ => Tape.ext' (list_extD (by omega) (fun j hj => hbk j (by omega))) (by omega), fun _ => trivial⟩

end Go.Q
