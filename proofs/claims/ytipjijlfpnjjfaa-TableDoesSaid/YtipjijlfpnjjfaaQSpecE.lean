/- Contracts of new tables, and of rows in new memory. -/
import Derived.Test.YtipjijlfpnjjfaaQSpecD
import Derived.Test.YtipjijlfpnjjfaaQKit6
set_option linter.unusedVariables false
set_option linter.unusedSimpArgs false
namespace Go.Q
open Go.Proofs

open Classical
theorem rowsM_spec (xs : List (List Int)) (hx : xs.length ≤ 100000 ∧ ∀ x ∈ xs, x.length ≤ 100000) : Spec Try.prog 22 [dRows xs] [] (σ := Value × List (Value × List Int)) (fun s => s.2.map (·.2) = xs) (fun s => dVal s.1) (fun s => rRow s.1 22 1 (fun u => [dSlV u]) (s.2.map (·.1)) :: s.2.map (rOf 3 1 (fun x => [dInt .i64 x]))) := by
  refine spec_of_body Try.func22 rfl rfl (fun I F => ?_)
  refine run_seq ?_
  refine run_region ?_
  refine run_op (loc_assign rfl) rfl ?_
  refine run_nil ?_
  refine run_seq ?_
  refine run_region ?_
  refine run_op (loc_assign rfl) rfl ?_
  refine run_nil ?_
  refine run_seq ?_
  refine run_seq ?_
  refine run_region ?_
  refine run_op (loc_move rfl) rfl ?_
  refine run_op (loc_len rfl) rfl ?_
  refine run_op (loc_move rfl) rfl ?_
  refine run_nil ?_
  refine run_block ?_
  refine run_rowNil 22 1 (fun u : Value => [dSlV u]) ?_
  refine run_loop' (σ := Value × List (Value × List Int)) (fun s => [(3, dVal s.1), (6, dRows xs), (7, dInt .i64 xs.length), (8, dInt .i64 (s.2.length : Nat))]) (fun s => rRow s.1 22 1 (fun u => [dSlV u]) (s.2.reverse.map (·.1)) :: (s.2.map (rOf 3 1 fI) ++ F)) (fun s => s.2.length ≤ xs.length ∧ s.2.reverse.map (·.2) = xs.take s.2.length) (fun s => xs.length - s.2.length) ((.slice none 0 0, [])) (⟨Nat.zero_le _, rfl⟩) (.cons rfl (by first | exact fun _ _ h => h | exact d_int (by omega) | exact d_int (by simp) | exact d_intN (by omega) | exact d_any) (.cons rfl (by first | exact fun _ _ h => h | exact d_int (by omega) | exact d_int (by simp) | exact d_intN (by omega) | exact d_any) (.cons rfl (by first | exact fun _ _ h => h | exact d_int (by omega) | exact d_int (by simp) | exact d_intN (by omega) | exact d_any) (.cons rfl (by first | exact fun _ _ h => h | exact d_int (by omega) | exact d_int (by simp) | exact d_intN (by omega) | exact d_any) .nil)))) rfl ?_
  rintro s ⟨hk, hp⟩ ih1
  refine run_seq ?_
  refine run_region ?_
  refine run_op (loc_lss rfl rfl) rfl ?_
  refine run_nil ?_
  refine run_seq ?_
  refine run_cond rfl (fun h2 => ?_) (fun h2 => ?_)
  ·
    refine run_skip ?_
    refine run_seq ?_
    refine run_block ?_
    refine run_seq ?_
    refine run_region ?_
    first | refine run_op (loc_index rfl rfl (by first | omega | assumption)) rfl ?_ | refine run_op (loc_indexI rfl rfl (by first | omega | assumption)) rfl ?_
    refine run_op (loc_load1 rfl) rfl ?_
    refine run_op (loc_assign rfl) rfl ?_
    refine run_nil ?_
    refine run_region ?_
    refine run_op (loc_move rfl) rfl ?_
    refine run_op (loc_move rfl) rfl ?_
    have hrow := hx.2 _ (getD_mem (xs := xs) (k := s.2.length) (by omega))
    have hrev : (s.2.reverse.map (·.1)).length = s.2.length := by simp
    refine run_new (loc_appendNil rfl rfl rfl (by first | omega | (unfold lenMax; omega) | assumption | (simp; omega) | (simp [lenMax]; omega)) (by first | omega | (unfold lenMax; omega) | assumption | (simp; omega) | (simp [lenMax]; omega))) rfl (fun b3 _ => ?_)
    refine runL_rowV (s := 14) rfl .here ?_
    refine run_op (loc_buildSlice rfl rfl (.one rfl (.nil)) rfl rfl) rfl ?_
    refine run_append1 rfl (by first | exact .here | exact .there .here | exact .there (.there .here) | exact .there (.there (.there .here)) | exact .there (.there (.there (.there .here))) | exact .there (.there (.there (.there (.there .here))))) rfl (by rfl) (by rfl) (by first | omega | (unfold lenMax; omega) | assumption | (simp; omega) | (simp [lenMax]; omega)) (by first | omega | (unfold lenMax; omega) | assumption | (simp; omega) | (simp [lenMax]; omega)) rfl (fun v4 => ?_)
    refine run_op (loc_assign rfl) rfl ?_
    refine run_nil ?_
    refine run_inBlock ?_
    refine run_region ?_
    first | refine run_op (loc_add rfl rfl (by first | omega | assumption)) rfl ?_ | refine run_op (loc_addW rfl rfl) rfl ?_
    refine run_op (loc_move rfl) rfl ?_
    refine run_nil ?_
    refine run_perm (List.Perm.swap _ _ _) ?_
    exact run_again ih1 ((v4, (b3, xs[s.2.length]?.getD default) :: s.2)) (⟨by show s.2.length + 1 ≤ _; omega, by show ((_ :: s.2).reverse.map _) = xs.take (s.2.length + 1); rw [List.reverse_cons, List.map_append, hp, List.take_add_one, List.getElem?_eq_getElem (by omega)]; simp⟩) (by show _ - (s.2.length + 1) < _; omega) (.cons rfl (by first | exact fun _ _ h => h | exact d_int (by omega) | exact d_int (by simp) | exact d_intN (by omega) | exact d_any) (.cons rfl (by first | exact fun _ _ h => h | exact d_int (by omega) | exact d_int (by simp) | exact d_intN (by omega) | exact d_any) (.cons rfl (by first | exact fun _ _ h => h | exact d_int (by omega) | exact d_int (by simp) | exact d_intN (by omega) | exact d_any) (.cons rfl (by first | exact fun _ _ h => h | exact d_int (by omega) | exact d_int (by simp) | exact d_intN (by omega) | exact d_any) .nil)))) (by show _ = rRow _ 22 1 _ (((_ :: s.2).reverse).map _) :: _; rw [List.reverse_cons, List.map_append]; rfl)
  ·
    refine run_exit rfl ?_
    refine run_seq ?_
    refine run_region ?_
    refine run_op (loc_move rfl) rfl ?_
    refine run_op (loc_assign rfl) rfl ?_
    refine run_nil ?_
    refine run_ret ((s.1, s.2.reverse)) Try.func22 rfl rfl ?_ (by show s.2.reverse.map _ = xs; rw [hp, List.take_of_length_le (by omega)]) (fun _ _ h => h.perm (.cons _ (((List.reverse_perm s.2).symm.map _).append_right F)))
    exact fun _ _ h => h

theorem rows_spec (xs : List (List Int)) (hx : xs.length ≤ 100000 ∧ ∀ x ∈ xs, x.length ≤ 100000) : SpecP Try.prog 22 [dRows xs] (dRows xs) := spec_freezeRows (rowsM_spec xs hx)
theorem rowsBut_spec (xs : List (List Int)) (hx : xs.length ≤ 100000 ∧ ∀ x ∈ xs, x.length ≤ 100000) (k : Nat) (hk : k < xs.length) : Spec Try.prog 22 [dRows xs] [] (fun _ : Value => True) (fun v => dSl 1 (fun d : D => [d]) ((xs.map (fun x => dInts x)).set k (dVal v))) (fun v => [rRow v 3 1 fI (xs[k]?.getD default)]) := spec_freezeBut k hk (rowsM_spec xs hx)

theorem take_snoc {α : Type} [Inhabited α] {xs : List α} {k : Nat} (h : k < xs.length) : xs.take (k + 1) = xs.take k ++ [xs[k]?.getD default] := by
  rw [List.take_add_one, List.getElem?_eq_getElem h]; rfl

theorem rnewT_spec (n p w : Int) (rows : List (List Int)) : SpecP Try.prog 34 [dInt .i64 n, dAgg [dInt .i64 p], dInt .i64 w, dRows rows] (dTup [dTab (newT n p w rows), dInt .i64 (checkT ⟨n, p, w, rows⟩)]) := by
  refine specP_of_body Try.func34 rfl rfl (fun I M => ?_)
  refine run_seq ?_
  refine run_region ?_
  refine run_op (loc_boxN rfl) rfl ?_
  refine run_new (loc_allocOwn (by simp)) rfl (fun b1 _ => ?_)
  refine run_op (loc_assign rfl) rfl ?_
  refine run_nil ?_
  refine run_seq ?_
  refine run_region ?_
  refine run_op (loc_move rfl) rfl ?_
  refine run_op (loc_loadN rfl rfl) rfl ?_
  refine run_op (loc_move rfl) rfl ?_
  refine run_op (loc_move rfl) rfl ?_
  refine run_op (loc_build (.one rfl rfl rfl (.agg rfl rfl rfl rfl (.one rfl rfl rfl (.one rfl rfl rfl (.nil)))))) rfl ?_
  refine run_new (loc_allocOwn (by simp)) rfl (fun b2 _ => ?_)
  refine run_storeN (ho := (by show OneAll [_, _, _, _]; infer_instance)) rfl rfl (by first | exact .here | exact .there .here | exact .there (.there .here) | exact .there (.there (.there .here)) | exact .there (.there (.there (.there .here))) | exact .there (.there (.there (.there (.there .here))))) (by rfl) ?_
  refine run_nil ?_
  refine run_seq ?_
  refine run_seq ?_
  refine run_region ?_
  refine run_op (loc_loadOwnN rfl (by first | exact .here | exact .there .here | exact .there (.there .here) | exact .there (.there (.there .here)) | exact .there (.there (.there (.there .here))) | exact .there (.there (.there (.there (.there .here))))) (by rfl)) rfl ?_
  refine run_op (loc_call (rtcheck_spec ⟨n, p, w, rows⟩) rfl) rfl ?_
  refine run_op (loc_assign rfl) rfl ?_
  refine run_nil ?_
  refine run_seq ?_
  refine run_region ?_
  refine run_op (loc_move rfl) rfl ?_
  refine run_op (loc_neq rfl rfl) rfl ?_
  refine run_nil ?_
  refine run_cond rfl (fun h3 => ?_) (fun h3 => ?_)
  ·
    have c1 := h3
    refine run_seq ?_
    refine run_region ?_
    refine run_op (loc_build (.nil)) rfl ?_
    refine run_op (loc_move rfl) rfl ?_
    refine run_storeN (ho := (by show OneAll [_, _, _, _]; infer_instance)) rfl rfl (by first | exact .here | exact .there .here | exact .there (.there .here) | exact .there (.there (.there .here)) | exact .there (.there (.there (.there .here))) | exact .there (.there (.there (.there (.there .here))))) (by rfl) ?_
    refine run_op (loc_assign rfl) rfl ?_
    refine run_nil ?_
    refine run_retGP Try.func34 rfl (.cellN rfl (by first | exact .here | exact .there .here | exact .there (.there .here) | exact .there (.there (.there .here)) | exact .there (.there (.there (.there .here))) | exact .there (.there (.there (.there (.there .here))))) (by rfl) (.tmp rfl (.nil))) ?_ (fun _ _ h => inv_tail (inv_tail (h)))
    exact d_tup2 (by unfold newT; rw [if_neg c1]; exact d_agg4 (fun _ _ h => h) (fun _ _ h => h) (fun _ _ h => h) d_nil) (fun _ _ h => h)
  ·
    have c1 := Classical.not_not.1 h3
    refine run_skip ?_
    refine run_seq ?_
    have hsz : rows.length ≤ 100000 ∧ ∀ x ∈ rows, x.length ≤ 100000 := by have ct := checkT_ok c1; exact ⟨by have := ct.2.2.2.1; simp only at this; omega, fun x hx => by have := ct.2.2.2.2 x hx; have := ct.2.2.1; simp only at *; omega⟩
    refine run_region ?_
    refine run_op (loc_move rfl) rfl ?_
    refine run_op (loc_call (rows_spec rows hsz) rfl) rfl ?_
    refine run_op (loc_fieldAddrOwn rfl) rfl ?_
    refine run_store1 rfl rfl (by first | exact .here | exact .there .here | exact .there (.there .here) | exact .there (.there (.there .here)) | exact .there (.there (.there (.there .here))) | exact .there (.there (.there (.there (.there .here))))) (by rfl) ?_
    refine run_nil ?_
    refine run_seq ?_
    refine run_region ?_
    refine run_op (loc_loadOwnN rfl (by first | exact .here | exact .there .here | exact .there (.there .here) | exact .there (.there (.there .here)) | exact .there (.there (.there (.there .here))) | exact .there (.there (.there (.there (.there .here))))) (by rfl)) rfl ?_
    refine run_storeN (ho := (by show OneAll [_, _, _, _]; infer_instance)) rfl rfl (by first | exact .here | exact .there .here | exact .there (.there .here) | exact .there (.there (.there .here)) | exact .there (.there (.there (.there .here))) | exact .there (.there (.there (.there (.there .here))))) (by rfl) ?_
    refine run_op (loc_assign rfl) rfl ?_
    refine run_nil ?_
    refine run_retGP Try.func34 rfl (.cellN rfl (by first | exact .here | exact .there .here | exact .there (.there .here) | exact .there (.there (.there .here)) | exact .there (.there (.there (.there .here))) | exact .there (.there (.there (.there (.there .here))))) (by rfl) (.tmp rfl (.nil))) ?_ (fun _ _ h => inv_tail (inv_tail (h)))
    exact d_tup2 (by unfold newT; rw [if_pos c1]; exact fun _ _ h => h) (d_int c1.symm)

theorem newT_spec (n p w : Int) (rows : List (List Int)) : SpecP Try.prog 33 [dInt .i64 n, dAgg [dInt .i64 p], dInt .i64 w, dRows rows] (dTup [dTab (newT n p w rows), dInt .i64 (checkT ⟨n, p, w, rows⟩)]) := by
  refine specP_of_body Try.func33 rfl rfl (fun I M => ?_)
  refine run_seq ?_
  refine run_region ?_
  refine run_op (loc_boxN rfl) rfl ?_
  refine run_new (loc_allocOwn (by simp)) rfl (fun b1 _ => ?_)
  refine run_op (loc_assign rfl) rfl ?_
  refine run_nil ?_
  refine run_seq ?_
  refine run_region ?_
  refine run_op (loc_move rfl) rfl ?_
  refine run_op (loc_loadN rfl rfl) rfl ?_
  refine run_op (loc_move rfl) rfl ?_
  refine run_op (loc_move rfl) rfl ?_
  refine run_op (loc_build (.one rfl rfl rfl (.agg rfl rfl rfl rfl (.one rfl rfl rfl (.one rfl rfl rfl (.nil)))))) rfl ?_
  refine run_new (loc_allocOwn (by simp)) rfl (fun b2 _ => ?_)
  refine run_storeN (ho := (by show OneAll [_, _, _, _]; infer_instance)) rfl rfl (by first | exact .here | exact .there .here | exact .there (.there .here) | exact .there (.there (.there .here)) | exact .there (.there (.there (.there .here))) | exact .there (.there (.there (.there (.there .here))))) (by rfl) ?_
  refine run_nil ?_
  refine run_seq ?_
  refine run_seq ?_
  refine run_region ?_
  refine run_op (loc_loadOwnN rfl (by first | exact .here | exact .there .here | exact .there (.there .here) | exact .there (.there (.there .here)) | exact .there (.there (.there (.there .here))) | exact .there (.there (.there (.there (.there .here))))) (by rfl)) rfl ?_
  refine run_op (loc_call (tcheck_spec ⟨n, p, w, rows⟩) rfl) rfl ?_
  refine run_op (loc_assign rfl) rfl ?_
  refine run_nil ?_
  refine run_seq ?_
  refine run_region ?_
  refine run_op (loc_move rfl) rfl ?_
  refine run_op (loc_neq rfl rfl) rfl ?_
  refine run_nil ?_
  refine run_cond rfl (fun h3 => ?_) (fun h3 => ?_)
  ·
    have c1 := h3
    refine run_seq ?_
    refine run_region ?_
    refine run_op (loc_build (.nil)) rfl ?_
    refine run_op (loc_move rfl) rfl ?_
    refine run_storeN (ho := (by show OneAll [_, _, _, _]; infer_instance)) rfl rfl (by first | exact .here | exact .there .here | exact .there (.there .here) | exact .there (.there (.there .here)) | exact .there (.there (.there (.there .here))) | exact .there (.there (.there (.there (.there .here))))) (by rfl) ?_
    refine run_op (loc_assign rfl) rfl ?_
    refine run_nil ?_
    refine run_retGP Try.func33 rfl (.cellN rfl (by first | exact .here | exact .there .here | exact .there (.there .here) | exact .there (.there (.there .here)) | exact .there (.there (.there (.there .here))) | exact .there (.there (.there (.there (.there .here))))) (by rfl) (.tmp rfl (.nil))) ?_ (fun _ _ h => inv_tail (inv_tail (h)))
    exact d_tup2 (by unfold newT; rw [if_neg c1]; exact d_agg4 (fun _ _ h => h) (fun _ _ h => h) (fun _ _ h => h) d_nil) (fun _ _ h => h)
  ·
    have c1 := Classical.not_not.1 h3
    refine run_skip ?_
    refine run_seq ?_
    have hsz : rows.length ≤ 100000 ∧ ∀ x ∈ rows, x.length ≤ 100000 := by have ct := checkT_ok c1; exact ⟨by have := ct.2.2.2.1; simp only at this; omega, fun x hx => by have := ct.2.2.2.2 x hx; have := ct.2.2.1; simp only at *; omega⟩
    refine run_region ?_
    refine run_op (loc_fieldAddrOwn rfl) rfl ?_
    refine run_store1 rfl rfl (by first | exact .here | exact .there .here | exact .there (.there .here) | exact .there (.there (.there .here)) | exact .there (.there (.there (.there .here))) | exact .there (.there (.there (.there (.there .here))))) (by rfl) ?_
    refine run_nil ?_
    refine run_seq ?_
    refine run_seq ?_
    refine run_region ?_
    refine run_op (loc_move rfl) rfl ?_
    refine run_op (loc_len rfl) rfl ?_
    refine run_op (loc_move rfl) rfl ?_
    refine run_nil ?_
    refine run_block ?_
    refine run_rowNil 22 1 fR ?_
    refine run_cellsUp (kk := 3) (dVal (.slice none 0 0)) (dSlV (.slice none 0 0)) (.there .here) rfl (fun J u h => ⟨h, _, _, _, h⟩) ?_
    refine run_loop' (σ := Value × Nat) (fun s => [(8, dVal (ptr b1 0)), (10, dVal (ptr b2 0)), (26, dRows rows), (27, dInt .i64 rows.length), (28, dInt .i64 (s.2 : Nat))]) (fun s => rRow s.1 22 1 fR (rows.take s.2) :: rCells b2 33 [dInt .i64 n, dInt .i64 p, dInt .i64 w, dSlV s.1] :: rCells b1 33 [dInt .i64 0, dInt .i64 0, dInt .i64 0, dVal (.slice none 0 0)] :: M) (fun s => s.2 ≤ rows.length) (fun s => rows.length - s.2) ((.slice none 0 0, 0)) (Nat.zero_le _) (.cons rfl (by first | exact fun _ _ h => h | exact d_int (by omega) | exact d_int (by simp) | exact d_intN (by omega) | exact d_any) (.cons rfl (by first | exact fun _ _ h => h | exact d_int (by omega) | exact d_int (by simp) | exact d_intN (by omega) | exact d_any) (.cons rfl (by first | exact fun _ _ h => h | exact d_int (by omega) | exact d_int (by simp) | exact d_intN (by omega) | exact d_any) (.cons rfl (by first | exact fun _ _ h => h | exact d_int (by omega) | exact d_int (by simp) | exact d_intN (by omega) | exact d_any) (.cons rfl (by first | exact fun _ _ h => h | exact d_int (by omega) | exact d_int (by simp) | exact d_intN (by omega) | exact d_any) .nil))))) rfl ?_
    intro s hk ih4
    refine run_seq ?_
    refine run_region ?_
    refine run_op (loc_lss rfl rfl) rfl ?_
    refine run_nil ?_
    refine run_seq ?_
    refine run_cond rfl (fun h5 => ?_) (fun h5 => ?_)
    ·
      refine run_skip ?_
      refine run_seq ?_
      refine run_block ?_
      refine run_seq ?_
      refine run_region ?_
      first | refine run_op (loc_index rfl rfl (by first | omega | assumption)) rfl ?_ | refine run_op (loc_indexI rfl rfl (by first | omega | assumption)) rfl ?_
      refine run_op (loc_load1 rfl) rfl ?_
      refine run_op (loc_assign rfl) rfl ?_
      refine run_nil ?_
      have htl : (rows.take s.2).length ≤ 100000 := by simp; omega
      refine dr_start (Value) (fun _ => True) 5 [⟨[(10, none)], [], none⟩,
          ⟨[(32, some (0, false))], [0], some (1, 0, false)⟩,
          ⟨[(13, none)], [], none⟩,
          ⟨[(34, some (2, false))], [2], none⟩,
          ⟨[(35, some (3, false))], [2, 3], none⟩,
          ⟨[(33, some (1, false)), (36, some (4, false))], [0, 1, 2, 3, 4], some (0, 0, true)⟩,
          ⟨[(10, none)], [0, 1, 2, 3, 4, 5], none⟩,
          ⟨[(38, some (6, false)), (37, some (5, false))], [0, 1, 2, 3, 4, 5, 6], some (1, 0, true)⟩] [_, _, _] _ rfl rfl ?_
      refine dq_pure rfl (fun s => .g rfl (.nil)) (fun s hs _ => loc_fieldAddrOwn rfl) (by first | exact .inl fun _ _ => rfl | exact .inr rfl) ?_
      refine dq_read rfl (fun s => .op rfl (.nil)) rfl rfl (fun s hs _ hm => loc_loadOwn1 rfl hm (by rfl)) (by first | exact .inl fun _ _ => rfl | exact .inr rfl) ?_
      refine dq_pure rfl (fun s => .g rfl (.nil)) (fun s hs _ => loc_move rfl) (by first | exact .inl fun _ _ => rfl | exact .inr rfl) ?_
      refine dq_pure rfl (fun s => .op rfl (.nil)) (fun s hs _ => loc_call (clone_spec _) rfl) (by first | exact .inl fun _ _ => rfl | exact .inr rfl) ?_
      refine dq_pure rfl (fun s => .op rfl (.nil)) (fun s hs _ => loc_buildSlice rfl rfl (.one rfl (.nil)) rfl rfl) (by first | exact .inl fun _ _ => rfl | exact .inr rfl) ?_
      refine dq_choose rfl (fun s => .op rfl (.op rfl (.nil))) rfl rfl (fun s => loc_append1V _ rfl rfl rfl rfl (by first | omega | (unfold lenMax; omega) | assumption | (simp; omega) | (simp [lenMax]; omega)) (by first | omega | (unfold lenMax; omega) | assumption | (simp; omega) | (simp [lenMax]; omega))) ?_
      refine dq_pure rfl (fun s => .g rfl (.nil)) (fun s hs _ => loc_fieldAddrOwn rfl) (by first | exact .inl fun _ _ => rfl | exact .inr rfl) ?_
      refine dq_write0 rfl (fun s => .op rfl (.op rfl (.nil))) rfl rfl (fun s hs => loc_store1 rfl rfl rfl) (by first | exact .inl fun _ _ => rfl | exact .inr rfl) ?_
      refine dq_end (rs := [_, _, _]) (.bool true) rfl (fun _ => rfl) (fun h => absurd h (by decide)) rfl (fun v6 _ => ?_)
      dsimp only [outG, outM, List.map, List.set]
      refine run_inBlock ?_
      refine run_region ?_
      first | refine run_op (loc_add rfl rfl (by first | omega | assumption)) rfl ?_ | refine run_op (loc_addW rfl rfl) rfl ?_
      refine run_op (loc_move rfl) rfl ?_
      refine run_nil ?_
      exact run_again ih4 ((v6, s.2 + 1)) (by show s.2 + 1 ≤ _; omega) (by show _ - (s.2 + 1) < _; omega) (.cons rfl (by first | exact fun _ _ h => h | exact d_int (by omega) | exact d_int (by simp) | exact d_intN (by omega) | exact d_any) (.cons rfl (by first | exact fun _ _ h => h | exact d_int (by omega) | exact d_int (by simp) | exact d_intN (by omega) | exact d_any) (.cons rfl (by first | exact fun _ _ h => h | exact d_int (by omega) | exact d_int (by simp) | exact d_intN (by omega) | exact d_any) (.cons rfl (by first | exact fun _ _ h => h | exact d_int (by omega) | exact d_int (by simp) | exact d_intN (by omega) | exact d_any) (.cons rfl (by first | exact fun _ _ h => h | exact d_int (by omega) | exact d_int (by simp) | exact d_intN (by omega) | exact d_any) .nil))))) (by show rRow _ 22 1 _ (rows.take s.2 ++ [rows[s.2]?.getD default]) :: _ = rRow _ 22 1 _ (rows.take (s.2 + 1)) :: _; rw [take_snoc (by omega)])
    ·
      refine run_exit rfl ?_
      refine run_seq ?_
      refine run_freezeUp (kk := 3) (dSlV s.1) (dRows rows) .here .here rfl (fun J u h1 h2 => by rw [h1.1]; rwa [List.take_of_length_le (by omega)] at h2) ?_
      refine run_region ?_
      refine run_op (loc_loadOwnN rfl (by first | exact .here | exact .there .here | exact .there (.there .here) | exact .there (.there (.there .here)) | exact .there (.there (.there (.there .here))) | exact .there (.there (.there (.there (.there .here))))) (by rfl)) rfl ?_
      refine run_storeN (ho := (by show OneAll [_, _, _, _]; infer_instance)) rfl rfl (by first | exact .here | exact .there .here | exact .there (.there .here) | exact .there (.there (.there .here)) | exact .there (.there (.there (.there .here))) | exact .there (.there (.there (.there (.there .here))))) (by rfl) ?_
      refine run_op (loc_assign rfl) rfl ?_
      refine run_nil ?_
      refine run_retGP Try.func33 rfl (.cellN rfl (by first | exact .here | exact .there .here | exact .there (.there .here) | exact .there (.there (.there .here)) | exact .there (.there (.there (.there .here))) | exact .there (.there (.there (.there (.there .here))))) (by rfl) (.tmp rfl (.nil))) ?_ (fun _ _ h => inv_tail (inv_tail (h)))
      exact d_tup2 (by unfold newT; rw [if_pos c1]; exact fun _ _ h => h) (d_int c1.symm)

end Go.Q
