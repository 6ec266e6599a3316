/- Contracts of decks and of what is made of them. -/
import Derived.Test.YtipjijlfpnjjfaaQSpecE
import Derived.Test.YtipjijlfpnjjfaaQKit7
set_option linter.unusedVariables false
set_option linter.unusedSimpArgs false
namespace Go.Q
open Go.Proofs

open Classical
theorem few_spec (xs : List Int) : SpecP Try.prog 9 [dInts xs] (dB (xs.length ≤ 500)) := by
  refine specP_of_body Try.func9 rfl rfl (fun I M => ?_)
  refine run_seq ?_
  refine run_region ?_
  refine run_op (loc_assign rfl) rfl ?_
  refine run_nil ?_
  refine run_seq ?_
  refine run_region ?_
  refine run_op (loc_move rfl) rfl ?_
  refine run_op (loc_len rfl) rfl ?_
  refine run_op (loc_leq rfl rfl) rfl ?_
  refine run_op (loc_assign rfl) rfl ?_
  refine run_nil ?_
  refine run_retP Try.func9 rfl rfl ?_
  exact d_B (by omega)

theorem mmod_spec (n k : Int) (hk : 0 < k ∧ k ≤ 4611686018427387903) : SpecP Try.prog 16 [dInt .i64 n, dInt .i64 k] (dInt .i64 (n % k)) := by
  have hb := tmod_bd n k hk.1
  refine specP_of_body Try.func16 rfl rfl (fun I M => ?_)
  refine run_seq ?_
  refine run_region ?_
  refine run_op (loc_assign rfl) rfl ?_
  refine run_nil ?_
  refine run_seq ?_
  refine run_region ?_
  refine run_op (loc_move rfl) rfl ?_
  refine run_op (loc_move rfl) rfl ?_
  first | refine run_op (loc_rem rfl rfl (by first | omega | assumption)) rfl ?_ | refine run_op (loc_remW rfl rfl (by first | omega | assumption)) rfl ?_
  refine run_op (loc_move rfl) rfl ?_
  first | refine run_op (loc_add rfl rfl (by first | omega | assumption)) rfl ?_ | refine run_op (loc_addW rfl rfl) rfl ?_
  refine run_op (loc_move rfl) rfl ?_
  first | refine run_op (loc_rem rfl rfl (by first | omega | assumption)) rfl ?_ | refine run_op (loc_remW rfl rfl (by first | omega | assumption)) rfl ?_
  refine run_op (loc_assign rfl) rfl ?_
  refine run_nil ?_
  refine run_retP Try.func16 rfl rfl ?_
  exact d_int (mod_twice n k hk.1)

theorem deck_spec (xs : List Int) : Spec Try.prog 10 [dInts xs] [] (σ := Nat) (fun _ => True) (fun b => dVal (ptr b 0)) (fun b => [rDk 66 b ⟨xs, 0⟩]) := by
  refine spec_of_body Try.func10 rfl rfl (fun I F => ?_)
  refine run_seq ?_
  refine run_region ?_
  refine run_op (loc_assign rfl) rfl ?_
  refine run_nil ?_
  refine run_seq ?_
  refine run_region ?_
  refine run_op (loc_move rfl) rfl ?_
  refine run_op (loc_build (.one rfl rfl rfl (.nil))) rfl ?_
  refine run_new (loc_boxOwnN rfl) rfl (fun b1 _ => ?_)
  refine run_op (loc_assign rfl) rfl ?_
  refine run_nil ?_
  refine run_ret (b1) Try.func10 rfl rfl ?_ (trivial) (fun _ _ h => h)
  exact fun _ _ h => h

theorem next_spec (b : Nat) (d : Dk) (n : Int) (hn : n ≤ 4611686018427387903) : Spec Try.prog 14 [dVal (ptr b 0), dInt .i64 n] [rDk 66 b d] (σ := Unit) (fun _ => True) (fun _ => dInt .i64 (d.val n)) (fun _ => [rDk 66 b (d.next n)]) := by
  refine spec_of_body Try.func14 rfl rfl (fun I F => ?_)
  refine run_seq ?_
  refine run_region ?_
  refine run_op (loc_assign rfl) rfl ?_
  refine run_nil ?_
  refine run_seq ?_
  refine run_seq ?_
  unfold rDk
  refine dr_start (Unit) (fun _ => True) 14 [⟨[(1, none)], [], none⟩,
      ⟨[(6, some (0, false))], [0], none⟩,
      ⟨[(7, some (1, false))], [0, 1], none⟩,
      ⟨[(0, none)], [0, 1, 2], none⟩,
      ⟨[(9, some (3, true))], [0, 1, 2, 3], none⟩,
      ⟨[(10, some (4, true))], [0, 1, 2, 3, 4], none⟩,
      ⟨[(11, some (5, true))], [0, 1, 2, 3, 4, 5], some (0, 0, false)⟩,
      ⟨[(0, none)], [0, 1, 2], none⟩,
      ⟨[(13, some (7, true))], [0, 1, 2, 7], none⟩,
      ⟨[(14, some (8, true))], [0, 1, 2, 7, 8], none⟩,
      ⟨[(15, some (9, true))], [0, 1, 2, 7, 8, 9], some (0, 0, false)⟩,
      ⟨[(16, some (10, true))], [0, 1, 2, 7, 8, 9, 10], none⟩,
      ⟨[(12, some (6, true)), (17, some (11, true))], [0, 1, 2, 3, 4, 5, 6, 7, 8, 9, 10, 11], none⟩,
      ⟨[(8, some (2, false)), (18, some (12, false))], [0, 1, 2, 3, 4, 5, 6, 7, 8, 9, 10, 11, 12], none⟩] [_] _ rfl rfl ?_
  refine dq_pure rfl (fun s => .g rfl (.nil)) (fun s hs _ => loc_move rfl) (by first | exact .inl fun _ _ => rfl | exact .inr rfl) ?_
  refine dq_pure rfl (fun s => .op rfl (.nil)) (fun s hs _ => loc_lss rfl rfl) (by first | exact .inl fun _ _ => rfl | exact .inr rfl) ?_
  refine dq_pure rfl (fun s => .op rfl (.nil)) (fun s hs _ => loc_move rfl) (by first | exact .inl fun _ _ => rfl | exact .inr rfl) ?_
  refine dq_gpure rfl (fun s => .g rfl (.nil)) rfl (fun _ => by first | exact guard_true _ | exact guard_false _ | exact guard_if (guard_true _) | exact guard_if (guard_false _)) (fun s hs hg _ => loc_move rfl) (by first | exact .inl fun _ _ => rfl | exact .inr rfl) ?_
  refine dq_gpure rfl (fun s => .opU rfl (.nil)) rfl (fun _ => by first | exact guard_true _ | exact guard_false _ | exact guard_if (guard_true _) | exact guard_if (guard_false _)) (fun s hs hg _ => loc_nilCheckOwn rfl) (by first | exact .inl fun _ _ => rfl | exact .inr rfl) ?_
  refine dq_gpure rfl (fun s => .opU rfl (.nil)) rfl (fun _ => by first | exact guard_true _ | exact guard_false _ | exact guard_if (guard_true _) | exact guard_if (guard_false _)) (fun s hs hg _ => loc_fieldAddrOwn rfl) (by first | exact .inl fun _ _ => rfl | exact .inr rfl) ?_
  refine dq_gread rfl (fun s => .opU rfl (.nil)) rfl rfl rfl (fun _ => by first | exact guard_true _ | exact guard_false _ | exact guard_if (guard_true _) | exact guard_if (guard_false _)) (fun s hs hg _ hm => loc_loadOwn1 rfl hm (by rfl)) (by first | exact .inl fun _ _ => rfl | exact .inr rfl) ?_
  refine dq_gpure rfl (fun s => .g rfl (.nil)) rfl (fun _ => by first | exact guard_true _ | exact guard_false _ | exact guard_if (guard_true _) | exact guard_if (guard_false _)) (fun s hs hg _ => loc_move rfl) (by first | exact .inl fun _ _ => rfl | exact .inr rfl) ?_
  refine dq_gpure rfl (fun s => .opU rfl (.nil)) rfl (fun _ => by first | exact guard_true _ | exact guard_false _ | exact guard_if (guard_true _) | exact guard_if (guard_false _)) (fun s hs hg _ => loc_nilCheckOwn rfl) (by first | exact .inl fun _ _ => rfl | exact .inr rfl) ?_
  refine dq_gpure rfl (fun s => .opU rfl (.nil)) rfl (fun _ => by first | exact guard_true _ | exact guard_false _ | exact guard_if (guard_true _) | exact guard_if (guard_false _)) (fun s hs hg _ => loc_fieldAddrOwn rfl) (by first | exact .inl fun _ _ => rfl | exact .inr rfl) ?_
  refine dq_gread rfl (fun s => .opU rfl (.nil)) rfl rfl rfl (fun _ => by first | exact guard_true _ | exact guard_false _ | exact guard_if (guard_true _) | exact guard_if (guard_false _)) (fun s hs hg _ hm => loc_loadOwn1 rfl hm (by rfl)) (by first | exact .inl fun _ _ => rfl | exact .inr rfl) ?_
  refine dq_gpure rfl (fun s => .opU rfl (.nil)) rfl (fun _ => by first | exact guard_true _ | exact guard_false _ | exact guard_if (guard_true _) | exact guard_if (guard_false _)) (fun s hs hg _ => loc_len rfl) (by first | exact .inl fun _ _ => rfl | exact .inr rfl) ?_
  refine dq_gpure rfl (fun s => .opU rfl (.opU rfl (.nil))) rfl (fun _ => by first | exact guard_true _ | exact guard_false _ | exact guard_if (guard_true _) | exact guard_if (guard_false _)) (fun s hs hg _ => loc_geq rfl rfl) (by first | exact .inl fun _ _ => rfl | exact .inr rfl) ?_
  refine dq_pure rfl (fun s => .op rfl (.op rfl (.nil))) (fun s hs _ => loc_or rfl rfl) (by first | exact .inl fun _ _ => rfl | exact .inr rfl) ?_
  refine dq_end (rs := [_]) () rfl (fun _ => rfl) (fun _ _ => trivial) rfl (fun _ _ => ?_)
  dsimp only [outG, outM, List.map, List.set]
  refine run_cond rfl (fun h1 => ?_) (fun h1 => ?_)
  ·
    have c1 := h1
    refine run_seq ?_
    refine run_region ?_
    refine run_op (loc_assign rfl) rfl ?_
    refine run_nil ?_
    refine run_ret (()) Try.func14 rfl rfl ?_ (trivial) (fun _ _ h => by unfold Dk.next; rw [if_pos (by omega)]; exact h)
    exact d_int (by unfold Dk.val; rw [if_pos (by omega)])
  ·
    have c1 := h1
    refine run_skip ?_
    refine run_seq ?_
    refine dr_start (Unit) (fun _ => True) 11 [⟨[(0, none)], [], none⟩,
        ⟨[(20, some (0, false))], [0], none⟩,
        ⟨[(21, some (1, false))], [0, 1], none⟩,
        ⟨[(22, some (2, false))], [0, 1, 2], some (0, 0, false)⟩,
        ⟨[(0, none)], [], none⟩,
        ⟨[(24, some (4, false))], [4], none⟩,
        ⟨[(25, some (5, false))], [4, 5], none⟩,
        ⟨[(26, some (6, false))], [4, 5, 6], some (0, 0, false)⟩,
        ⟨[(23, some (3, false)), (27, some (7, false))], [0, 1, 2, 3, 4, 5, 6, 7], none⟩,
        ⟨[(28, some (8, false))], [0, 1, 2, 3, 4, 5, 6, 7, 8], none⟩,
        ⟨[(29, some (9, false))], [0, 1, 2, 3, 4, 5, 6, 7, 8, 9], none⟩] [_] _ rfl rfl ?_
    refine dq_pure rfl (fun s => .g rfl (.nil)) (fun s hs _ => loc_move rfl) (by first | exact .inl fun _ _ => rfl | exact .inr rfl) ?_
    refine dq_pure rfl (fun s => .op rfl (.nil)) (fun s hs _ => loc_nilCheckOwn rfl) (by first | exact .inl fun _ _ => rfl | exact .inr rfl) ?_
    refine dq_pure rfl (fun s => .op rfl (.nil)) (fun s hs _ => loc_fieldAddrOwn rfl) (by first | exact .inl fun _ _ => rfl | exact .inr rfl) ?_
    refine dq_read rfl (fun s => .op rfl (.nil)) rfl rfl (fun s hs _ hm => loc_loadOwn1 rfl hm (by rfl)) (by first | exact .inl fun _ _ => rfl | exact .inr rfl) ?_
    refine dq_pure rfl (fun s => .g rfl (.nil)) (fun s hs _ => loc_move rfl) (by first | exact .inl fun _ _ => rfl | exact .inr rfl) ?_
    refine dq_pure rfl (fun s => .op rfl (.nil)) (fun s hs _ => loc_nilCheckOwn rfl) (by first | exact .inl fun _ _ => rfl | exact .inr rfl) ?_
    refine dq_pure rfl (fun s => .op rfl (.nil)) (fun s hs _ => loc_fieldAddrOwn rfl) (by first | exact .inl fun _ _ => rfl | exact .inr rfl) ?_
    refine dq_read rfl (fun s => .op rfl (.nil)) rfl rfl (fun s hs _ hm => loc_loadOwn1 rfl hm (by rfl)) (by first | exact .inl fun _ _ => rfl | exact .inr rfl) ?_
    first | refine dq_pure rfl (fun s => .op rfl (.op rfl (.nil))) (fun s hs _ => loc_index rfl rfl (by first | omega | assumption)) (by first | exact .inl fun _ _ => rfl | exact .inr rfl) ?_ | refine dq_pure rfl (fun s => .op rfl (.op rfl (.nil))) (fun s hs _ => loc_indexI rfl rfl (by first | omega | assumption)) (by first | exact .inl fun _ _ => rfl | exact .inr rfl) ?_
    refine dq_pure rfl (fun s => .op rfl (.nil)) (fun s hs _ => loc_load1 rfl) (by first | exact .inl fun _ _ => rfl | exact .inr rfl) ?_
    refine dq_pure rfl (fun s => .op rfl (.nil)) (fun s hs _ => loc_assign rfl) (by first | exact .inl fun _ _ => rfl | exact .inr rfl) ?_
    refine dq_end (rs := [_]) () rfl (fun _ => rfl) (fun _ _ => trivial) rfl (fun _ _ => ?_)
    dsimp only [outG, outM, List.map, List.set]
    refine run_fact (s := 23) rfl (fun _ _ h => dSl_len h) (fun hlen => ?_)
    refine run_seq ?_
    refine run_region ?_
    refine run_op (loc_move rfl) rfl ?_
    refine run_op (loc_nilCheckOwn rfl) rfl ?_
    refine run_op (loc_fieldAddrOwn rfl) rfl ?_
    refine run_op (loc_loadOwn1 rfl (by first | exact .here | exact .there .here | exact .there (.there .here) | exact .there (.there (.there .here)) | exact .there (.there (.there (.there .here))) | exact .there (.there (.there (.there (.there .here))))) (by rfl)) rfl ?_
    first | refine run_op (loc_add rfl rfl (by first | omega | assumption)) rfl ?_ | refine run_op (loc_addW rfl rfl) rfl ?_
    refine run_op (loc_nilCheckOwn rfl) rfl ?_
    refine run_op (loc_fieldAddrOwn rfl) rfl ?_
    refine run_store1 rfl rfl (by first | exact .here | exact .there .here | exact .there (.there .here) | exact .there (.there (.there .here)) | exact .there (.there (.there (.there .here))) | exact .there (.there (.there (.there (.there .here))))) (by rfl) ?_
    refine run_nil ?_
    refine run_seq ?_
    refine run_region ?_
    refine run_op (loc_move rfl) rfl ?_
    refine run_op (loc_move rfl) rfl ?_
    refine run_op (loc_call (mmod_spec _ _ (by omega)) rfl) rfl ?_
    refine run_op (loc_assign rfl) rfl ?_
    refine run_nil ?_
    refine run_ret (()) Try.func14 rfl rfl ?_ (trivial) (fun _ _ h => by unfold Dk.next; rw [if_neg (by omega)]; exact h)
    exact d_int (by unfold Dk.val; rw [if_neg (by omega)])

theorem fld_spec (b : Nat) (d : Dk) : Spec Try.prog 35 [dVal (ptr b 0)] [rDk 66 b d] (σ := Unit) (fun _ => True) (fun _ => dAgg [dInt .i64 d.fld]) (fun _ => [rDk 66 b (d.next 9)]) := by
  have h1 := d.val_nonneg 9
  have h2 := d.val_lt 9 (by omega)
  refine spec_of_body Try.func35 rfl rfl (fun I F => ?_)
  refine run_seq ?_
  refine run_region ?_
  refine run_new (loc_allocOwn (by simp)) rfl (fun b1 _ => ?_)
  refine run_nil ?_
  refine run_seq ?_
  have h3 : primes9.length = 9 := rfl
  refine run_region ?_
  refine run_op (loc_buildSlice rfl rfl (.one rfl (.one rfl (.one rfl (.one rfl (.one rfl (.one rfl (.one rfl (.one rfl (.one rfl (.nil)))))))))) rfl rfl) rfl ?_
  refine runL_recast (s := 3) rfl (d_sl (ys := primes9) (h := fI) rfl) ?_
  refine run_op (loc_move rfl) rfl ?_
  refine run_callM rfl (by first | exact .here | exact .there .here | exact .there (.there .here) | exact .there (.there (.there .here)) | exact .there (.there (.there (.there .here))) | exact .there (.there (.there (.there (.there .here))))) (next_spec b d 9 (by omega)) rfl (fun s2 hs2 => ?_)
  first | refine run_op (loc_index rfl rfl (by first | omega | assumption)) rfl ?_ | refine run_op (loc_indexI rfl rfl (by first | omega | assumption)) rfl ?_
  refine run_op (loc_load1 rfl) rfl ?_
  refine run_op (loc_build (.one rfl rfl rfl (.nil))) rfl ?_
  refine run_storeN (ho := (by show OneAll [_]; infer_instance)) rfl rfl (by first | exact .here | exact .there .here | exact .there (.there .here) | exact .there (.there (.there .here)) | exact .there (.there (.there (.there .here))) | exact .there (.there (.there (.there (.there .here))))) (by rfl) ?_
  refine run_nil ?_
  refine run_retG (()) Try.func35 rfl (.cellN rfl (by first | exact .here | exact .there .here | exact .there (.there .here) | exact .there (.there (.there .here)) | exact .there (.there (.there (.there .here))) | exact .there (.there (.there (.there (.there .here))))) (by rfl) (.nil)) ?_ (trivial) (fun _ _ h => inv_tail h)
  exact fun _ _ h => h

theorem elemsM_spec (b : Nat) (d : Dk) (p n : Int) (hp : p ≤ 4611686018427387903) (hn : n ≤ 1000) : Spec Try.prog 15 [dVal (ptr b 0), dAgg [dInt .i64 p], dInt .i64 n] [rDk 66 b d] (σ := Value) (fun _ => True) (fun v => dVal v) (fun v => [rRow v 3 1 fI (d.elems p n.toNat), rDk 66 b (d.it p n.toNat)]) := by
  refine spec_of_body Try.func15 rfl rfl (fun I F => ?_)
  refine run_seq ?_
  refine run_region ?_
  refine run_op (loc_boxN rfl) rfl ?_
  refine run_op (loc_assign rfl) rfl ?_
  refine run_nil ?_
  refine run_seq ?_
  refine run_region ?_
  refine run_op (loc_assign rfl) rfl ?_
  refine run_nil ?_
  refine run_seq ?_
  refine run_seq ?_
  refine run_region ?_
  refine run_op (loc_move rfl) rfl ?_
  refine run_op (loc_move rfl) rfl ?_
  refine run_nil ?_
  refine run_block ?_
  refine run_rowNil 3 1 fI ?_
  refine run_loop' (σ := Value × Nat) (fun s => [(0, dVal (ptr b 0)), (4, dBox [dInt .i64 p]), (7, dVal s.1), (8, dInt .i64 n), (9, dInt .i64 (s.2 : Nat))]) (fun s => rRow s.1 3 1 fI (d.elems p s.2) :: rDk 66 b (d.it p s.2) :: F) (fun s => s.2 ≤ n.toNat) (fun s => n.toNat - s.2) ((.slice none 0 0, 0)) (Nat.zero_le _) (.cons rfl (by first | exact fun _ _ h => h | exact d_int (by omega) | exact d_int (by simp) | exact d_intN (by omega) | exact d_any) (.cons rfl (by first | exact fun _ _ h => h | exact d_int (by omega) | exact d_int (by simp) | exact d_intN (by omega) | exact d_any) (.cons rfl (by first | exact fun _ _ h => h | exact d_int (by omega) | exact d_int (by simp) | exact d_intN (by omega) | exact d_any) (.cons rfl (by first | exact fun _ _ h => h | exact d_int (by omega) | exact d_int (by simp) | exact d_intN (by omega) | exact d_any) (.cons rfl (by first | exact fun _ _ h => h | exact d_int (by omega) | exact d_int (by simp) | exact d_intN (by omega) | exact d_any) .nil))))) rfl ?_
  intro s hk ih1
  refine run_seq ?_
  refine run_region ?_
  refine run_op (loc_lss rfl rfl) rfl ?_
  refine run_nil ?_
  refine run_seq ?_
  refine run_cond rfl (fun h2 => ?_) (fun h2 => ?_)
  ·
    refine run_skip ?_
    refine run_seq ?_
    refine run_block ?_
    have hel := Dk.elems_length d p s.2
    refine run_region ?_
    refine run_op (loc_move rfl) rfl ?_
    refine run_op (loc_move rfl) rfl ?_
    refine run_op (loc_fieldAddr rfl) rfl ?_
    refine run_op (loc_load1 rfl) rfl ?_
    refine run_callM rfl (by first | exact .here | exact .there .here | exact .there (.there .here) | exact .there (.there (.there .here)) | exact .there (.there (.there (.there .here))) | exact .there (.there (.there (.there (.there .here))))) (next_spec b (d.it p s.2) p (by omega)) rfl (fun s3 hs3 => ?_)
    refine run_op (loc_buildSlice rfl rfl (.one rfl (.nil)) rfl rfl) rfl ?_
    refine run_append1 rfl (by first | exact .here | exact .there .here | exact .there (.there .here) | exact .there (.there (.there .here)) | exact .there (.there (.there (.there .here))) | exact .there (.there (.there (.there (.there .here))))) rfl (by rfl) (by rfl) (by first | omega | (unfold lenMax; omega) | assumption | (simp; omega) | (simp [lenMax]; omega)) (by first | omega | (unfold lenMax; omega) | assumption | (simp; omega) | (simp [lenMax]; omega)) rfl (fun v4 => ?_)
    refine run_op (loc_assign rfl) rfl ?_
    refine run_nil ?_
    refine run_inBlock ?_
    refine run_region ?_
    first | refine run_op (loc_add rfl rfl (by first | omega | assumption)) rfl ?_ | refine run_op (loc_addW rfl rfl) rfl ?_
    refine run_op (loc_move rfl) rfl ?_
    refine run_nil ?_
    exact run_again ih1 ((v4, s.2 + 1)) (by show s.2 + 1 ≤ _; omega) (by show _ - (s.2 + 1) < _; omega) (.cons rfl (by first | exact fun _ _ h => h | exact d_int (by omega) | exact d_int (by simp) | exact d_intN (by omega) | exact d_any) (.cons rfl (by first | exact fun _ _ h => h | exact d_int (by omega) | exact d_int (by simp) | exact d_intN (by omega) | exact d_any) (.cons rfl (by first | exact fun _ _ h => h | exact d_int (by omega) | exact d_int (by simp) | exact d_intN (by omega) | exact d_any) (.cons rfl (by first | exact fun _ _ h => h | exact d_int (by omega) | exact d_int (by simp) | exact d_intN (by omega) | exact d_any) (.cons rfl (by first | exact fun _ _ h => h | exact d_int (by omega) | exact d_int (by simp) | exact d_intN (by omega) | exact d_any) .nil))))) (rfl)
  ·
    refine run_exit rfl ?_
    refine run_seq ?_
    refine run_region ?_
    refine run_op (loc_move rfl) rfl ?_
    refine run_op (loc_assign rfl) rfl ?_
    refine run_nil ?_
    refine run_ret (s.1) Try.func15 rfl rfl ?_ (trivial) (fun _ _ h => by rw [show n.toNat = s.2 by omega]; exact h)
    exact fun _ _ h => h

theorem elems_spec (b : Nat) (d : Dk) (p n : Int) (hp : p ≤ 4611686018427387903) (hn : n ≤ 1000) : Spec Try.prog 15 [dVal (ptr b 0), dAgg [dInt .i64 p], dInt .i64 n] [rDk 66 b d] (fun _ : Unit => True) (fun _ => dInts (d.elems p n.toNat)) (fun _ => [rDk 66 b (d.it p n.toNat)]) := spec_freezeK (elemsM_spec b d p n hp hn)

theorem mrowsM_spec (b : Nat) (d : Dk) (p n w : Int) (hp : p ≤ 4611686018427387903) (hn : n ≤ 1000) (hw : w ≤ 1000) : Spec Try.prog 36 [dVal (ptr b 0), dAgg [dInt .i64 p], dInt .i64 n, dInt .i64 w] [rDk 66 b d] (σ := Value) (fun _ => True) (fun v => dVal v) (fun v => [rRow v 22 1 fR (d.rowsR p w.toNat n.toNat), rDk 66 b (d.itR p w.toNat n.toNat)]) := by
  refine spec_of_body Try.func36 rfl rfl (fun I F => ?_)
  refine run_seq ?_
  refine run_region ?_
  refine run_op (loc_boxN rfl) rfl ?_
  refine run_op (loc_assign rfl) rfl ?_
  refine run_nil ?_
  refine run_seq ?_
  refine run_region ?_
  refine run_op (loc_assign rfl) rfl ?_
  refine run_nil ?_
  refine run_seq ?_
  refine run_seq ?_
  refine run_region ?_
  refine run_op (loc_move rfl) rfl ?_
  refine run_op (loc_move rfl) rfl ?_
  refine run_nil ?_
  refine run_block ?_
  refine run_rowNil 22 1 fR ?_
  refine run_loop' (σ := Value × Nat) (fun s => [(0, dVal (ptr b 0)), (5, dBox [dInt .i64 p]), (3, dInt .i64 w), (9, dVal s.1), (10, dInt .i64 n), (11, dInt .i64 (s.2 : Nat))]) (fun s => rRow s.1 22 1 fR (d.rowsR p w.toNat s.2) :: rDk 66 b (d.itR p w.toNat s.2) :: F) (fun s => s.2 ≤ n.toNat) (fun s => n.toNat - s.2) ((.slice none 0 0, 0)) (Nat.zero_le _) (.cons rfl (by first | exact fun _ _ h => h | exact d_int (by omega) | exact d_int (by simp) | exact d_intN (by omega) | exact d_any) (.cons rfl (by first | exact fun _ _ h => h | exact d_int (by omega) | exact d_int (by simp) | exact d_intN (by omega) | exact d_any) (.cons rfl (by first | exact fun _ _ h => h | exact d_int (by omega) | exact d_int (by simp) | exact d_intN (by omega) | exact d_any) (.cons rfl (by first | exact fun _ _ h => h | exact d_int (by omega) | exact d_int (by simp) | exact d_intN (by omega) | exact d_any) (.cons rfl (by first | exact fun _ _ h => h | exact d_int (by omega) | exact d_int (by simp) | exact d_intN (by omega) | exact d_any) (.cons rfl (by first | exact fun _ _ h => h | exact d_int (by omega) | exact d_int (by simp) | exact d_intN (by omega) | exact d_any) .nil)))))) rfl ?_
  intro s hk ih1
  refine run_seq ?_
  refine run_region ?_
  refine run_op (loc_lss rfl rfl) rfl ?_
  refine run_nil ?_
  refine run_seq ?_
  refine run_cond rfl (fun h2 => ?_) (fun h2 => ?_)
  ·
    refine run_skip ?_
    refine run_seq ?_
    refine run_block ?_
    have hel := Dk.rowsR_length d p w.toNat s.2
    refine run_region ?_
    refine run_op (loc_move rfl) rfl ?_
    refine run_op (loc_move rfl) rfl ?_
    refine run_op (loc_loadN rfl rfl) rfl ?_
    refine run_op (loc_move rfl) rfl ?_
    refine run_callM rfl (by first | exact .here | exact .there .here | exact .there (.there .here) | exact .there (.there (.there .here)) | exact .there (.there (.there (.there .here))) | exact .there (.there (.there (.there (.there .here))))) (elems_spec b (d.itR p w.toNat s.2) p w (by omega) (by omega)) rfl (fun s3 hs3 => ?_)
    refine run_op (loc_buildSlice rfl rfl (.one rfl (.nil)) rfl rfl) rfl ?_
    refine run_append1 rfl (by first | exact .here | exact .there .here | exact .there (.there .here) | exact .there (.there (.there .here)) | exact .there (.there (.there (.there .here))) | exact .there (.there (.there (.there (.there .here))))) rfl (by rfl) (by rfl) (by first | omega | (unfold lenMax; omega) | assumption | (simp; omega) | (simp [lenMax]; omega)) (by first | omega | (unfold lenMax; omega) | assumption | (simp; omega) | (simp [lenMax]; omega)) rfl (fun v4 => ?_)
    refine run_op (loc_assign rfl) rfl ?_
    refine run_nil ?_
    refine run_inBlock ?_
    refine run_region ?_
    first | refine run_op (loc_add rfl rfl (by first | omega | assumption)) rfl ?_ | refine run_op (loc_addW rfl rfl) rfl ?_
    refine run_op (loc_move rfl) rfl ?_
    refine run_nil ?_
    exact run_again ih1 ((v4, s.2 + 1)) (by show s.2 + 1 ≤ _; omega) (by show _ - (s.2 + 1) < _; omega) (.cons rfl (by first | exact fun _ _ h => h | exact d_int (by omega) | exact d_int (by simp) | exact d_intN (by omega) | exact d_any) (.cons rfl (by first | exact fun _ _ h => h | exact d_int (by omega) | exact d_int (by simp) | exact d_intN (by omega) | exact d_any) (.cons rfl (by first | exact fun _ _ h => h | exact d_int (by omega) | exact d_int (by simp) | exact d_intN (by omega) | exact d_any) (.cons rfl (by first | exact fun _ _ h => h | exact d_int (by omega) | exact d_int (by simp) | exact d_intN (by omega) | exact d_any) (.cons rfl (by first | exact fun _ _ h => h | exact d_int (by omega) | exact d_int (by simp) | exact d_intN (by omega) | exact d_any) (.cons rfl (by first | exact fun _ _ h => h | exact d_int (by omega) | exact d_int (by simp) | exact d_intN (by omega) | exact d_any) .nil)))))) (rfl)
  ·
    refine run_exit rfl ?_
    refine run_seq ?_
    refine run_region ?_
    refine run_op (loc_move rfl) rfl ?_
    refine run_op (loc_assign rfl) rfl ?_
    refine run_nil ?_
    refine run_ret (s.1) Try.func36 rfl rfl ?_ (trivial) (fun _ _ h => by rw [show n.toNat = s.2 by omega]; exact h)
    exact fun _ _ h => h

theorem mrows_spec (b : Nat) (d : Dk) (p n w : Int) (hp : p ≤ 4611686018427387903) (hn : n ≤ 1000) (hw : w ≤ 1000) : Spec Try.prog 36 [dVal (ptr b 0), dAgg [dInt .i64 p], dInt .i64 n, dInt .i64 w] [rDk 66 b d] (fun _ : Unit => True) (fun _ => dRows (d.rowsR p w.toNat n.toNat)) (fun _ => [rDk 66 b (d.itR p w.toNat n.toNat)]) := spec_freezeK (mrowsM_spec b d p n w hp hn hw)

theorem mtab_spec (b : Nat) (d : Dk) : Spec Try.prog 11 [dVal (ptr b 0)] [rDk 66 b d] (σ := Unit) (fun _ => True) (fun _ => dTab d.tab) (fun _ => [rDk 66 b d.tab4]) := by
  have hW := d.tabW_bd
  have hR := d.tabR_bd
  have hN := d.tabN_bd
  have hF : d.fld ≤ 65521 := d.fld_ok.2.1
  have hv1 := (d.next 9).val_nonneg 4
  have hv2 := (d.next 9).val_lt 4 (by omega)
  have hv3 := d.tab1.val_nonneg 9
  have hv4 := d.tab1.val_lt 9 (by omega)
  refine spec_of_body Try.func11 rfl rfl (fun I F => ?_)
  refine run_seq ?_
  refine run_region ?_
  refine run_new (loc_allocOwn (by simp)) rfl (fun b1 _ => ?_)
  refine run_nil ?_
  refine run_seq ?_
  refine run_region ?_
  refine run_op (loc_move rfl) rfl ?_
  refine run_callM rfl (by first | exact .here | exact .there .here | exact .there (.there .here) | exact .there (.there (.there .here)) | exact .there (.there (.there (.there .here))) | exact .there (.there (.there (.there (.there .here))))) (fld_spec b d) rfl (fun s2 hs2 => ?_)
  refine run_new (loc_allocOwn (by simp)) rfl (fun b3 _ => ?_)
  refine run_storeN (ho := (by show OneAll [_]; infer_instance)) rfl rfl (by first | exact .here | exact .there .here | exact .there (.there .here) | exact .there (.there (.there .here)) | exact .there (.there (.there (.there .here))) | exact .there (.there (.there (.there (.there .here))))) (by rfl) ?_
  refine run_nil ?_
  refine run_seq ?_
  refine run_region ?_
  refine run_op (loc_move rfl) rfl ?_
  refine run_callM rfl (by first | exact .here | exact .there .here | exact .there (.there .here) | exact .there (.there (.there .here)) | exact .there (.there (.there (.there .here))) | exact .there (.there (.there (.there (.there .here))))) (next_spec b (d.next 9) 4 (by omega)) rfl (fun s4 hs4 => ?_)
  first | refine run_op (loc_add rfl rfl (by first | omega | assumption)) rfl ?_ | refine run_op (loc_addW rfl rfl) rfl ?_
  refine run_op (loc_assign rfl) rfl ?_
  refine run_nil ?_
  refine run_seq ?_
  refine run_addNone ?_
  refine dr_start (Nat) (fun _ => True) 15 [⟨[(0, none)], [], none⟩,
      ⟨[(13, some (0, false))], [0], some (3, 0, true)⟩,
      ⟨[(14, some (1, false))], [0, 1], none⟩,
      ⟨[(3, none)], [], some (1, 0, false)⟩,
      ⟨[(4, none)], [], none⟩,
      ⟨[(0, none)], [], none⟩,
      ⟨[(3, none)], [], some (1, 0, false)⟩,
      ⟨[(0, none)], [], none⟩,
      ⟨[(20, some (7, false))], [0, 1, 7], some (3, 1, true)⟩,
      ⟨[(4, none)], [], none⟩,
      ⟨[(18, some (5, false)), (19, some (6, false)), (21, some (8, false)), (22, some (9, false))], [0, 1, 5, 6, 7, 8, 9], some (3, 2, true)⟩,
      ⟨[(15, some (2, false)), (16, some (3, false)), (17, some (4, false)), (23, some (10, false))], [0, 1, 2, 3, 4, 5, 6, 7, 8, 9, 10], none⟩,
      ⟨[(24, some (11, false))], [0, 1, 2, 3, 4, 5, 6, 7, 8, 9, 10, 11], none⟩,
      ⟨[(12, some (12, false))], [0, 1, 2, 3, 4, 5, 6, 7, 8, 9, 10, 11, 12], none⟩,
      ⟨[(12, some (12, false))], [0, 1, 2, 3, 4, 5, 6, 7, 8, 9, 10, 11, 12], none⟩,
      ⟨[], [], some (0, 0, true)⟩,
      ⟨[(5, some (15, false)), (25, some (13, false))], [0, 1, 2, 3, 4, 5, 6, 7, 8, 9, 10, 11, 12, 13, 15], some (0, 1, true)⟩,
      ⟨[(26, some (14, false))], [0, 1, 2, 3, 4, 5, 6, 7, 8, 9, 10, 11, 12, 13, 14, 15, 16], none⟩] [_, _, _, _] _ rfl rfl ?_
  refine dq_pure rfl (fun s => .g rfl (.nil)) (fun s hs _ => loc_move rfl) (by first | exact .inl fun _ _ => rfl | exact .inr rfl) ?_
  refine dq_write rfl (fun s => .op rfl (.nil)) rfl rfl (fun s hs => loc_callM (next_spec b d.tab1 9 (by omega)) rfl) (by first | exact .inl fun _ _ => ⟨rfl, rfl⟩ | exact .inr rfl) ?_
  first | refine dq_pure rfl (fun s => .op rfl (.nil)) (fun s hs _ => loc_add rfl rfl (by first | omega | assumption)) (by first | exact .inl fun _ _ => rfl | exact .inr rfl) ?_ | refine dq_pure rfl (fun s => .op rfl (.nil)) (fun s hs _ => loc_addW rfl rfl) (by first | exact .inl fun _ _ => rfl | exact .inr rfl) ?_
  refine dq_read rfl (fun s => .g rfl (.nil)) rfl rfl (fun s hs _ hm => loc_loadOwnN rfl hm (by rfl)) (by first | exact .inl fun _ _ => rfl | exact .inr rfl) ?_
  refine dq_pure rfl (fun s => .g rfl (.nil)) (fun s hs _ => loc_move rfl) (by first | exact .inl fun _ _ => rfl | exact .inr rfl) ?_
  refine dq_pure rfl (fun s => .g rfl (.nil)) (fun s hs _ => loc_move rfl) (by first | exact .inl fun _ _ => rfl | exact .inr rfl) ?_
  refine dq_read rfl (fun s => .g rfl (.nil)) rfl rfl (fun s hs _ hm => loc_loadOwnN rfl hm (by rfl)) (by first | exact .inl fun _ _ => rfl | exact .inr rfl) ?_
  refine dq_pure rfl (fun s => .g rfl (.nil)) (fun s hs _ => loc_move rfl) (by first | exact .inl fun _ _ => rfl | exact .inr rfl) ?_
  refine dq_write rfl (fun s => .op rfl (.nil)) rfl rfl (fun s hs => loc_callM (next_spec b d.tab2 7 (by omega)) rfl) (by first | exact .inl fun _ _ => ⟨rfl, rfl⟩ | exact .inr rfl) ?_
  refine dq_pure rfl (fun s => .g rfl (.nil)) (fun s hs _ => loc_move rfl) (by first | exact .inl fun _ _ => rfl | exact .inr rfl) ?_
  refine dq_write rfl (fun s => .op rfl (.op rfl (.op rfl (.op rfl (.nil))))) rfl rfl (fun s hs => loc_callM (mrows_spec b d.tab3 d.fld d.tabR d.tabW (by omega) (by omega) (by omega)) rfl) (by first | exact .inl fun _ _ => ⟨rfl, rfl⟩ | exact .inr rfl) ?_
  refine dq_pure rfl (fun s => .op rfl (.op rfl (.op rfl (.op rfl (.nil))))) (fun s hs _ => loc_call (rnewT_spec d.tabN d.fld d.tabW (d.tab3.rowsR d.fld d.tabW.toNat d.tabR.toNat)) rfl) (by first | exact .inl fun _ _ => rfl | exact .inr rfl) ?_
  refine dq_pure rfl (fun s => .op rfl (.nil)) (fun s hs _ => loc_move rfl) (by first | exact .inl fun _ _ => rfl | exact .inr rfl) ?_
  refine dq_pure rfl (fun s => .op rfl (.nil)) (fun s hs _ => loc_extract rfl rfl) (by first | exact .inl fun _ _ => rfl | exact .inr rfl) ?_
  refine dq_pure rfl (fun s => .op rfl (.nil)) (fun s hs _ => loc_extract rfl rfl) (by first | exact .inl fun _ _ => rfl | exact .inr rfl) ?_
  refine dq_choose rfl (fun s => .nil) rfl rfl (fun s => locM_new (loc_allocOwn (by simp))) ?_
  refine dq_write0 rfl (fun s => .op rfl (.op rfl (.nil))) rfl rfl (fun s hs => loc_storeN rfl rfl rfl) (by first | exact .inl fun _ _ => rfl | exact .inr rfl) ?_
  refine dq_pure rfl (fun s => .op rfl (.nil)) (fun s hs _ => loc_assign rfl) (by first | exact .inl fun _ _ => rfl | exact .inr rfl) ?_
  refine dq_end (rs := [_, _, _, _]) 0 rfl (fun _ => rfl) (fun h => absurd h (by decide)) rfl (fun b5 _ => ?_)
  dsimp only [outG, outM, List.map, List.set]
  refine run_seq ?_
  refine run_region ?_
  refine run_op (loc_loadOwnN rfl (by first | exact .here | exact .there .here | exact .there (.there .here) | exact .there (.there (.there .here)) | exact .there (.there (.there (.there .here))) | exact .there (.there (.there (.there (.there .here))))) (by rfl)) rfl ?_
  refine run_storeN (ho := (by show OneAll [_, _, _, _]; infer_instance)) rfl rfl (by first | exact .here | exact .there .here | exact .there (.there .here) | exact .there (.there (.there .here)) | exact .there (.there (.there (.there .here))) | exact .there (.there (.there (.there (.there .here))))) (by rfl) ?_
  refine run_nil ?_
  refine run_retG (()) Try.func11 rfl (.cellN rfl (by first | exact .here | exact .there .here | exact .there (.there .here) | exact .there (.there (.there .here)) | exact .there (.there (.there (.there .here))) | exact .there (.there (.there (.there (.there .here))))) (by rfl) (.nil)) ?_ (trivial) (fun _ _ h => inv_tail (inv_tail (inv_tail h)))
  rw [← d.newT_tab]; exact fun _ _ h => h

end Go.Q
