/- Contracts of draws. -/
import Derived.Test.YtmihhjchmnmaiaaQRes
import Derived.Test.YtmihhjchmnmaiaaQPlainE
set_option linter.unusedVariables false
set_option linter.unusedSimpArgs false
namespace Go.Q
open Go.Proofs

open Classical
theorem take_snoc2 {xs : List Int} {k : Nat} (h : k < xs.length) : xs.take (k + 1) = xs.take k ++ [xs[k]?.getD default] := by
  rw [List.take_add_one, List.getElem?_eq_getElem h]; rfl
theorem tvalid_spec (t : Tape) : SpecP Try.prog 121 [dTape t] (dB (okTape t)) := by
  refine specP_of_body Try.func121 rfl rfl (fun I M => ?_)
  refine run_seq ?_
  refine run_region ?_
  refine run_op (loc_boxN rfl) rfl ?_
  refine run_op (loc_assign rfl) rfl ?_
  refine run_nil ?_
  refine run_seq ?_
  refine run_region ?_
  refine run_op (loc_fieldAddr rfl) rfl ?_
  refine run_op (loc_load1 rfl) rfl ?_
  first | refine runL_fact (s := 4) rfl (fun _ _ h => dSl_len h) (fun hlen1 => ?_) | skip
  refine run_op (loc_len rfl) rfl ?_
  refine run_op (loc_leq rfl rfl) rfl ?_
  refine run_op (loc_move rfl) rfl ?_
  refine run_gfirst rfl rfl (by first | exact guard_true _ | exact guard_false _ | exact guard_if (guard_true _) | exact guard_if (guard_false _)) (fun hg => loc_fieldAddr rfl) rfl ?_
  refine run_gop rfl rfl (by first | exact guard_true _ | exact guard_false _ | exact guard_if (guard_true _) | exact guard_if (guard_false _)) (fun hg => loc_load1 rfl) rfl ?_
  refine run_gop rfl rfl (by first | exact guard_true _ | exact guard_false _ | exact guard_if (guard_true _) | exact guard_if (guard_false _)) (fun hg => loc_geq rfl rfl) rfl ?_
  refine run_gleave ?_
  refine run_op (loc_and rfl rfl) rfl ?_
  refine run_op (loc_move rfl) rfl ?_
  refine run_gfirst rfl rfl (by first | exact guard_true _ | exact guard_false _ | exact guard_if (guard_true _) | exact guard_if (guard_false _)) (fun hg => loc_fieldAddr rfl) rfl ?_
  refine run_gop rfl rfl (by first | exact guard_true _ | exact guard_false _ | exact guard_if (guard_true _) | exact guard_if (guard_false _)) (fun hg => loc_load1 rfl) rfl ?_
  refine run_gop rfl rfl (by first | exact guard_true _ | exact guard_false _ | exact guard_if (guard_true _) | exact guard_if (guard_false _)) (fun hg => loc_fieldAddr rfl) rfl ?_
  refine run_gop rfl rfl (by first | exact guard_true _ | exact guard_false _ | exact guard_if (guard_true _) | exact guard_if (guard_false _)) (fun hg => loc_load1 rfl) rfl ?_
  refine run_gop rfl rfl (by first | exact guard_true _ | exact guard_false _ | exact guard_if (guard_true _) | exact guard_if (guard_false _)) (fun hg => loc_len rfl) rfl ?_
  refine run_gop rfl rfl (by first | exact guard_true _ | exact guard_false _ | exact guard_if (guard_true _) | exact guard_if (guard_false _)) (fun hg => loc_leq rfl rfl) rfl ?_
  refine run_gleave ?_
  refine run_op (loc_and rfl rfl) rfl ?_
  refine run_op (loc_assign rfl) rfl ?_
  refine run_nil ?_
  refine run_retP Try.func121 rfl rfl ?_
  exact d_B (by unfold okTape; constructor <;> (intro h; omega))

theorem tlimit_spec (n : Int) : SpecP Try.prog 122 [dInt .i64 n] (dB (1 ≤ n ∧ n ≤ 2147483647)) := by
  refine specP_of_body Try.func122 rfl rfl (fun I M => ?_)
  refine run_seq ?_
  refine run_region ?_
  refine run_op (loc_assign rfl) rfl ?_
  refine run_nil ?_
  refine run_seq ?_
  refine run_region ?_
  refine run_op (loc_move rfl) rfl ?_
  refine run_op (loc_geq rfl rfl) rfl ?_
  refine run_op (loc_move rfl) rfl ?_
  refine run_gfirst rfl rfl (by first | exact guard_true _ | exact guard_false _ | exact guard_if (guard_true _) | exact guard_if (guard_false _)) (fun hg => loc_move rfl) rfl ?_
  refine run_gop rfl rfl (by first | exact guard_true _ | exact guard_false _ | exact guard_if (guard_true _) | exact guard_if (guard_false _)) (fun hg => loc_leq rfl rfl) rfl ?_
  refine run_gleave ?_
  refine run_op (loc_and rfl rfl) rfl ?_
  refine run_op (loc_assign rfl) rfl ?_
  refine run_nil ?_
  refine run_retP Try.func122 rfl rfl ?_
  exact fun _ _ h => h

theorem next_spec (b : Nat) (xs : List Int) (k : Nat) (n : Int) (d3 : D) (hk : k ≤ xs.length) (hx : xs.length ≤ 16384) : Spec Try.prog 125 [dVal (ptr b 0), dInt .i64 n] [rCells b 173 [dInts xs, dInt .i64 (k : Nat), d3]] (σ := Unit) (fun _ => True) (fun _ => dTup [dInt .i64 (if k < xs.length ∧ hasP n (xs[k]?.getD default) then xs[k]?.getD default else 0), dInt .i64 (if k < xs.length then if hasP n (xs[k]?.getD default) then 0 else 8 else 3)]) (fun _ => [rCells b 173 [dInts xs, dInt .i64 (if k < xs.length ∧ hasP n (xs[k]?.getD default) then ((k + 1 : Nat) : Int) else (k : Nat)), d3]]) := by
  refine spec_of_body Try.func125 rfl rfl (fun I F => ?_)
  refine run_seq ?_
  refine run_region ?_
  refine run_op (loc_assign rfl) rfl ?_
  refine run_op (loc_assign rfl) rfl ?_
  refine run_nil ?_
  refine run_seq ?_
  refine run_seq ?_
  refine dr_start _ (.none) [⟨[(0, none)], [], none⟩,
      ⟨[(7, some (0, false))], [0], none⟩,
      ⟨[(8, some (1, false))], [0, 1], none⟩,
      ⟨[(9, some (2, false))], [0, 1, 2], some (0, 0, false)⟩,
      ⟨[(0, none)], [], none⟩,
      ⟨[(11, some (4, false))], [4], none⟩,
      ⟨[(12, some (5, false))], [4, 5], none⟩,
      ⟨[(13, some (6, false))], [4, 5, 6], some (0, 0, false)⟩,
      ⟨[(14, some (7, false))], [4, 5, 6, 7], none⟩,
      ⟨[(10, some (3, false)), (15, some (8, false))], [0, 1, 2, 3, 4, 5, 6, 7, 8], none⟩] [_] _ rfl rfl ?_
  refine dq_pure rfl (fun s => .g rfl (.nil)) (fun s hs _ => loc_move rfl) (by exact .nil) ?_
  refine dq_pure rfl (fun s => .op rfl (.nil)) (fun s hs _ => loc_nilCheckOwn rfl) (by exact .nil) ?_
  refine dq_pure rfl (fun s => .op rfl (.nil)) (fun s hs _ => loc_fieldAddrOwn rfl) (by exact .nil) ?_
  refine dq_read rfl (fun s => .op rfl (.nil)) rfl rfl (fun s hs _ hm => loc_loadOwn1 rfl hm (by rfl)) (by exact .nil) ?_
  refine dq_pure rfl (fun s => .g rfl (.nil)) (fun s hs _ => loc_move rfl) (by exact .nil) ?_
  refine dq_pure rfl (fun s => .op rfl (.nil)) (fun s hs _ => loc_nilCheckOwn rfl) (by exact .nil) ?_
  refine dq_pure rfl (fun s => .op rfl (.nil)) (fun s hs _ => loc_fieldAddrOwn rfl) (by exact .nil) ?_
  refine dq_read rfl (fun s => .op rfl (.nil)) rfl rfl (fun s hs _ hm => loc_loadOwn1 rfl hm (by rfl)) (by exact .nil) ?_
  refine dq_pure rfl (fun s => .op rfl (.nil)) (fun s hs _ => loc_len rfl) (by exact .nil) ?_
  refine dq_pure rfl (fun s => .op rfl (.op rfl (.nil))) (fun s hs _ => loc_eql rfl rfl) (by exact .nil) ?_
  refine dq_end (rs := [_]) () rfl (fun _ => rfl) (.nil) rfl (fun _ _ => ?_)
  dsimp only [outG, outM, List.map, List.set, id]
  refine run_cond rfl (fun h1 => ?_) (fun h1 => ?_)
  ·
    refine run_seq ?_
    refine run_region ?_
    refine run_op (loc_assign rfl) rfl ?_
    refine run_op (loc_assign rfl) rfl ?_
    refine run_nil ?_
    refine run_ret2 (()) Try.func125 rfl rfl rfl ?_ (trivial) (fun _ _ h => by rw [if_neg (by omega)]; exact h)
    exact d_tup2 (d_int (by rw [if_neg (by omega)])) (d_int (by rw [if_neg (by omega)]))
  ·
    refine run_skip ?_
    refine run_seq ?_
    refine dr_start _ (.none) [⟨[(0, none)], [], none⟩,
        ⟨[(17, some (0, false))], [0], none⟩,
        ⟨[(18, some (1, false))], [0, 1], none⟩,
        ⟨[(19, some (2, false))], [0, 1, 2], some (0, 0, false)⟩,
        ⟨[(0, none)], [], none⟩,
        ⟨[(21, some (4, false))], [4], none⟩,
        ⟨[(22, some (5, false))], [4, 5], none⟩,
        ⟨[(23, some (6, false))], [4, 5, 6], some (0, 0, false)⟩,
        ⟨[(20, some (3, false)), (24, some (7, false))], [0, 1, 2, 3, 4, 5, 6, 7], none⟩,
        ⟨[(25, some (8, false))], [0, 1, 2, 3, 4, 5, 6, 7, 8], none⟩,
        ⟨[(26, some (9, false))], [0, 1, 2, 3, 4, 5, 6, 7, 8, 9], none⟩] [_] _ rfl rfl ?_
    refine dq_pure rfl (fun s => .g rfl (.nil)) (fun s hs _ => loc_move rfl) (by exact .nil) ?_
    refine dq_pure rfl (fun s => .op rfl (.nil)) (fun s hs _ => loc_nilCheckOwn rfl) (by exact .nil) ?_
    refine dq_pure rfl (fun s => .op rfl (.nil)) (fun s hs _ => loc_fieldAddrOwn rfl) (by exact .nil) ?_
    refine dq_read rfl (fun s => .op rfl (.nil)) rfl rfl (fun s hs _ hm => loc_loadOwn1 rfl hm (by rfl)) (by exact .nil) ?_
    refine dq_pure rfl (fun s => .g rfl (.nil)) (fun s hs _ => loc_move rfl) (by exact .nil) ?_
    refine dq_pure rfl (fun s => .op rfl (.nil)) (fun s hs _ => loc_nilCheckOwn rfl) (by exact .nil) ?_
    refine dq_pure rfl (fun s => .op rfl (.nil)) (fun s hs _ => loc_fieldAddrOwn rfl) (by exact .nil) ?_
    refine dq_read rfl (fun s => .op rfl (.nil)) rfl rfl (fun s hs _ hm => loc_loadOwn1 rfl hm (by rfl)) (by exact .nil) ?_
    first | refine dq_pure rfl (fun s => .op rfl (.op rfl (.nil))) (fun s hs _ => loc_index rfl rfl (by first | omega | assumption)) (by exact .nil) ?_ | refine dq_pure rfl (fun s => .op rfl (.op rfl (.nil))) (fun s hs _ => loc_indexI rfl rfl (by first | omega | assumption)) (by exact .nil) ?_
    refine dq_pure rfl (fun s => .op rfl (.nil)) (fun s hs _ => loc_load1 rfl) (by exact .nil) ?_
    refine dq_pure rfl (fun s => .op rfl (.nil)) (fun s hs _ => loc_assign rfl) (by exact .nil) ?_
    refine dq_end (rs := [_]) () rfl (fun _ => rfl) (.nil) rfl (fun _ _ => ?_)
    dsimp only [outG, outM, List.map, List.set, id]
    refine run_seq ?_
    refine run_seq ?_
    refine run_region ?_
    refine run_op (loc_move rfl) rfl ?_
    refine run_op (loc_lss rfl rfl) rfl ?_
    refine run_op (loc_move rfl) rfl ?_
    refine run_gfirst rfl rfl (by first | exact guard_true _ | exact guard_false _ | exact guard_if (guard_true _) | exact guard_if (guard_false _)) (fun hg => loc_move rfl) rfl ?_
    refine run_gop rfl rfl (by first | exact guard_true _ | exact guard_false _ | exact guard_if (guard_true _) | exact guard_if (guard_false _)) (fun hg => loc_move rfl) rfl ?_
    refine run_gop rfl rfl (by first | exact guard_true _ | exact guard_false _ | exact guard_if (guard_true _) | exact guard_if (guard_false _)) (fun hg => loc_geq rfl rfl) rfl ?_
    refine run_gleave ?_
    refine run_op (loc_or rfl rfl) rfl ?_
    refine run_nil ?_
    refine run_cond rfl (fun h2 => ?_) (fun h2 => ?_)
    ·
      refine run_seq ?_
      refine run_region ?_
      refine run_op (loc_assign rfl) rfl ?_
      refine run_op (loc_assign rfl) rfl ?_
      refine run_nil ?_
      refine run_ret2 (()) Try.func125 rfl rfl rfl ?_ (trivial) (fun _ _ h => by rw [if_neg (by unfold hasP; omega)]; exact h)
      exact d_tup2 (d_int (by rw [if_neg (by unfold hasP; omega)])) (d_int (by rw [if_pos (by omega), if_neg (by unfold hasP; omega)]))
    ·
      refine run_skip ?_
      refine run_seq ?_
      refine run_region ?_
      refine run_op (loc_move rfl) rfl ?_
      refine run_op (loc_nilCheckOwn rfl) rfl ?_
      refine run_op (loc_fieldAddrOwn rfl) rfl ?_
      refine run_op (loc_loadOwn1 rfl (.here) (by rfl)) rfl ?_
      first | refine run_op (loc_add rfl rfl (by first | omega | assumption)) rfl ?_ | refine run_op (loc_addW rfl rfl) rfl ?_
      refine run_op (loc_nilCheckOwn rfl) rfl ?_
      refine run_op (loc_fieldAddrOwn rfl) rfl ?_
      refine run_store1 rfl rfl (.here) (by rfl) ?_
      refine run_nil ?_
      refine run_seq ?_
      refine run_region ?_
      refine run_op (loc_move rfl) rfl ?_
      refine run_op (loc_assign rfl) rfl ?_
      refine run_op (loc_assign rfl) rfl ?_
      refine run_nil ?_
      have hgo : k < xs.length ∧ hasP n (xs[k]?.getD default) := ⟨by omega, by unfold hasP; omega⟩
      refine run_ret2 (()) Try.func125 rfl rfl rfl ?_ (trivial) (fun _ _ h => by rw [if_pos hgo]; exact h)
      exact d_tup2 (d_int (by rw [if_pos hgo])) (d_int (by rw [if_pos (by omega), if_pos hgo.2]))

theorem draw_spec (b : Nat) (xs : List Int) (k0 : Nat) (n c : Int) (hk : k0 ≤ xs.length) (hx : xs.length ≤ 16384) (hn : 1 ≤ n ∧ n ≤ 2147483647) (hc : 0 ≤ c) : Spec Try.prog 123 [dVal (ptr b 0), dInt .i64 n, dInt .i64 c] [rCells b 173 [dInts xs, dInt .i64 (k0 : Nat), dVal (.slice none 0 0)]] (σ := Nat) (fun m => stepE n (xs.drop k0) c.toNat = 0 → m = c.toNat) (fun _ => dInt .i64 (stepE n (xs.drop k0) c.toNat)) (fun m => [rCells b 173 [dInts xs, dInt .i64 ((k0 + m : Nat) : Int), dInts ((xs.drop k0).take m)]]) := by
  refine spec_of_body Try.func123 rfl rfl (fun I F => ?_)
  refine run_seq ?_
  refine run_region ?_
  refine run_op (loc_assign rfl) rfl ?_
  refine run_nil ?_
  refine run_seq ?_
  refine run_seq ?_
  refine run_region ?_
  refine run_op (loc_assign rfl) rfl ?_
  refine run_nil ?_
  refine run_block ?_
  refine run_rowNil 3 1 fI ?_
  refine run_cellsUp (kk := 2) (b := b) (dVal (.slice none 0 0)) (dSlV (.slice none 0 0)) (.there (.here)) rfl (fun J u h => ⟨h, _, _, _, h⟩) ?_
  refine run_front (.here) ?_
  refine run_front (.there (.here)) ?_
  refine run_loopF (σ := Value × Nat) (ks := [0, 1, 2]) (.cons rfl (.cons rfl (.cons rfl (.nil)))) (fun s => [(7, dInt .i64 (s.2 : Nat))]) (fun s => [rCells b 173 [dInts xs, dInt .i64 ((k0 + s.2 : Nat) : Int), dSlV s.1], rRow s.1 3 1 fI ((xs.drop k0).take s.2)]) (fun s => s.2 ≤ c.toNat ∧ k0 + s.2 ≤ xs.length ∧ ∀ j, j < s.2 → hasP n (xs[k0 + j]?.getD default)) (fun s => c.toNat - s.2) ((.slice none 0 0, 0)) (⟨Nat.zero_le _, hk, fun j hj => by simp only at hj; omega⟩) (.cons rfl (by first | exact fun _ _ h => h | exact d_int (by omega) | exact d_int (by simp) | exact d_intN (by omega) | exact d_any) .nil) (rfl) ?_
  rintro s ⟨hA, hB, hC⟩ ih1
  have htl : ((xs.drop k0).take s.2).length = s.2 := by rw [List.length_take, List.length_drop]; omega
  have hg : ∀ j, (xs.drop k0)[j]? = xs[k0 + j]? := fun j => List.getElem?_drop
  refine run_seq ?_
  refine run_seq ?_
  refine run_region ?_
  refine run_op (loc_move rfl) rfl ?_
  refine run_op (loc_move rfl) rfl ?_
  refine run_op (loc_lss rfl rfl) rfl ?_
  refine run_nil ?_
  refine run_cond rfl (fun h2 => ?_) (fun h2 => ?_)
  ·
    have hc1 := h2
    refine run_skip ?_
    refine run_seq ?_
    refine run_block ?_
    refine run_seq ?_
    refine run_region ?_
    refine run_op (loc_move rfl) rfl ?_
    refine run_op (loc_nilCheckOwn rfl) rfl ?_
    refine run_op (loc_fieldAddrOwn rfl) rfl ?_
    refine run_op (loc_move rfl) rfl ?_
    refine run_callM rfl (.here) (next_spec _ _ (k0 + s.2) _ _ (by omega) hx) rfl (fun s3 hs3 => ?_)
    refine run_op (loc_move rfl) rfl ?_
    refine run_op (loc_extract rfl rfl) rfl ?_
    refine run_op (loc_extract rfl rfl) rfl ?_
    refine run_op (loc_assign rfl) rfl ?_
    refine run_op (loc_assign rfl) rfl ?_
    refine run_nil ?_
    refine run_seq ?_
    refine run_seq ?_
    refine run_region ?_
    refine run_op (loc_move rfl) rfl ?_
    refine run_op (loc_neq rfl rfl) rfl ?_
    refine run_nil ?_
    refine run_cond rfl (fun h4 => ?_) (fun h4 => ?_)
    ·
      have hg1 := h4
      refine run_seq ?_
      refine run_region ?_
      refine run_op (loc_move rfl) rfl ?_
      refine run_op (loc_assign rfl) rfl ?_
      refine run_nil ?_
      have hE : (if k0 + s.2 < xs.length then if hasP n (xs[k0 + s.2]?.getD default) then (0 : Int) else 8 else 3) = stepE n (xs.drop k0) c.toNat := by
        by_cases h1 : k0 + s.2 < xs.length
        · rw [if_pos h1] at hg1 ⊢
          by_cases h2 : hasP n (xs[k0 + s.2]?.getD default)
          · rw [if_pos h2] at hg1; omega
          · rw [if_neg h2, stepE_bad (i := s.2) (by rw [List.length_drop]; omega) (by omega) (fun j hj => by rw [hg]; exact hC j hj) (by rw [hg]; exact h2)]
        · rw [if_neg h1, stepE_short (fun x hx => by obtain ⟨j, hj⟩ := List.getElem?_of_mem hx; have h5 := (List.getElem?_eq_some_iff.1 hj).1; rw [List.length_drop] at h5; have := hC j (by omega); rw [← hg, hj] at this; exact this) (by rw [List.length_drop]; omega)]
      have hne : (if k0 + s.2 < xs.length ∧ hasP n (xs[k0 + s.2]?.getD default) then ((k0 + s.2 + 1 : Nat) : Int) else ((k0 + s.2 : Nat) : Int)) = ((k0 + s.2 : Nat) : Int) := if_neg (fun h => hg1 (by rw [if_pos h.1, if_pos h.2]))
      rw [hne]
      first | refine run_freezeRowCellV (kk := 2) (.there (.here)) (.here) rfl ?_ | refine run_freezeRowCell (kk := 2) (.there (.here)) (.here) rfl ?_
      refine run_ret (s.2) Try.func123 rfl rfl ?_ (fun h0 => by rw [hE] at hg1; exact absurd h0 hg1) (fun _ _ h => h)
      exact d_int (by rw [hE])
    ·
      have hg1 : k0 + s.2 < xs.length ∧ hasP n (xs[k0 + s.2]?.getD default) := by by_cases h1 : k0 + s.2 < xs.length; (· rw [if_pos h1] at h4; by_cases h2 : hasP n (xs[k0 + s.2]?.getD default); (· exact ⟨h1, h2⟩); (· rw [if_neg h2] at h4; omega)); (· rw [if_neg h1] at h4; omega)
      refine run_skip ?_
      refine run_region ?_
      refine run_op (loc_move rfl) rfl ?_
      refine run_op (loc_move rfl) rfl ?_
      refine run_op (loc_nilCheckOwn rfl) rfl ?_
      refine run_op (loc_fieldAddrOwn rfl) rfl ?_
      first | refine run_op (LocP.upV (loc_loadOwn1 rfl (.here) (by rfl))) rfl ?_ | refine run_op (loc_loadOwn1 rfl (.here) (by rfl)) rfl ?_
      refine run_op (loc_move rfl) rfl ?_
      refine run_op (loc_buildSlice rfl rfl (.one rfl (.nil)) rfl rfl) rfl ?_
      refine run_append1 rfl (.there (.here)) rfl (by rfl) (by rfl) (by first | omega | (unfold lenMax; omega) | assumption | (simp; omega) | (simp [lenMax]; omega)) (by first | omega | (unfold lenMax; omega) | assumption | (simp; omega) | (simp [lenMax]; omega)) rfl (fun v5 => ?_)
      refine runL_rowV (s := 33) rfl (.there (.here)) ?_
      refine run_op (loc_nilCheckOwn rfl) rfl ?_
      refine run_op (loc_fieldAddrOwn rfl) rfl ?_
      refine run_store1 rfl rfl (.here) (by rfl) ?_
      refine run_nil ?_
      refine run_inBlock ?_
      refine run_region ?_
      refine run_op (loc_move rfl) rfl ?_
      first | refine run_op (loc_add rfl rfl (by first | omega | assumption)) rfl ?_ | refine run_op (loc_addW rfl rfl) rfl ?_
      refine run_op (loc_assign rfl) rfl ?_
      refine run_nil ?_
      rw [if_pos hg1]
      exact run_againF ih1 ((v5, s.2 + 1)) (⟨by simp only; omega, by simp only; omega, fun j hj => by simp only at hj; by_cases e : j = s.2; (· subst e; exact hg1.2); (· exact hC j (by omega))⟩) (by simp only; omega) (.cons rfl (by first | exact fun _ _ h => h | exact d_int (by omega) | exact d_int (by simp) | exact d_intN (by omega) | exact d_any) .nil) (.cons rfl (fun _ _ x => x) (.cons rfl (fun _ _ x => x) (.cons rfl (fun _ _ x => x) (.nil)))) (by simp only [appR]; rw [if_pos hg1, take_snoc2 (xs := xs.drop k0) (by rw [List.length_drop]; omega), hg]; rfl)
  ·
    refine run_exit rfl ?_
    refine run_seq ?_
    refine run_region ?_
    refine run_op (loc_assign rfl) rfl ?_
    refine run_nil ?_
    have hE : stepE n (xs.drop k0) c.toNat = 0 := by rw [show c.toNat = s.2 by omega]; exact stepE_ok (by rw [List.length_drop]; omega) (fun j hj => by rw [hg]; exact hC j hj)
    first | refine run_freezeRowCellV (kk := 2) (.there (.here)) (.here) rfl ?_ | refine run_freezeRowCell (kk := 2) (.there (.here)) (.here) rfl ?_
    refine run_ret (s.2) Try.func123 rfl rfl ?_ (fun _ => by omega) (fun _ _ h => h)
    exact d_int (by rw [hE])

theorem draws_spec (t : Tape) (n c : Int) : SpecP Try.prog 119 [dTape t, dInt .i64 n, dInt .i64 c] (dTup [dTape (drawT t n c), dInts (drawL t n c), dInt .i64 (drawE t n c)]) := by
  refine specP_of_body Try.func119 rfl rfl (fun I M => ?_)
  refine run_seq ?_
  refine run_region ?_
  refine run_op (loc_boxN rfl) rfl ?_
  refine run_new (loc_allocOwn (by simp)) rfl (fun b1 _ => ?_)
  refine run_op (loc_assign rfl) rfl ?_
  refine run_op (loc_assign rfl) rfl ?_
  refine run_nil ?_
  refine run_seq ?_
  refine run_seq ?_
  refine run_region ?_
  refine run_op (loc_loadN rfl rfl) rfl ?_
  refine run_op (loc_call (tvalid_spec _) rfl) rfl ?_
  refine run_op (loc_not rfl) rfl ?_
  refine run_nil ?_
  refine run_cond rfl (fun h2 => ?_) (fun h2 => ?_)
  ·
    have c1 := h2
    refine run_seq ?_
    refine run_region ?_
    refine run_op (loc_build (.nil)) rfl ?_
    refine run_storeN (ho := (by show OneAll [_, _]; infer_instance)) rfl rfl (.here) (by rfl) ?_
    refine run_op (loc_assign rfl) rfl ?_
    refine run_op (loc_assign rfl) rfl ?_
    refine run_nil ?_
    have hE : drawE t n c = 2 := by unfold drawE; rw [if_pos c1]
    refine run_retGP Try.func119 rfl (.cellN rfl (by first | exact .here | exact .there .here | exact .there (.there .here) | exact .there (.there (.there .here)) | exact .there (.there (.there (.there .here))) | exact .there (.there (.there (.there (.there .here))))) (by rfl) (.tmp rfl (.tmp rfl (.nil)))) ?_ (fun _ _ h => inv_tail (h))
    exact d_tup3 (d_toTape (by unfold drawT; rw [if_neg (by rw [hE]; omega)]) (d_aggU (.cons d_nil (.cons (d_int rfl) .nil)))) (d_toInts (by unfold drawL; rw [if_neg (by rw [hE]; omega)]) d_nil) (d_int hE.symm)
  ·
    have c1 : okTape t := Classical.not_not.1 h2
    refine run_skip ?_
    refine run_seq ?_
    refine run_seq ?_
    refine run_region ?_
    refine run_op (loc_move rfl) rfl ?_
    refine run_op (loc_call (tlimit_spec _) rfl) rfl ?_
    refine run_op (loc_not rfl) rfl ?_
    refine run_op (loc_move rfl) rfl ?_
    refine run_gfirst rfl rfl (by first | exact guard_true _ | exact guard_false _ | exact guard_if (guard_true _) | exact guard_if (guard_false _)) (fun hg => loc_move rfl) rfl ?_
    refine run_gop rfl rfl (by first | exact guard_true _ | exact guard_false _ | exact guard_if (guard_true _) | exact guard_if (guard_false _)) (fun hg => loc_lss rfl rfl) rfl ?_
    refine run_gleave ?_
    refine run_op (loc_or rfl rfl) rfl ?_
    refine run_nil ?_
    refine run_cond rfl (fun h3 => ?_) (fun h3 => ?_)
    ·
      have c2 := h3
      refine run_seq ?_
      refine run_region ?_
      refine run_op (loc_build (.nil)) rfl ?_
      refine run_storeN (ho := (by show OneAll [_, _]; infer_instance)) rfl rfl (.here) (by rfl) ?_
      refine run_op (loc_assign rfl) rfl ?_
      refine run_op (loc_assign rfl) rfl ?_
      refine run_nil ?_
      have hE : drawE t n c = 1 := by unfold drawE; rw [if_neg (Classical.not_not.2 c1), if_pos c2]
      refine run_retGP Try.func119 rfl (.cellN rfl (by first | exact .here | exact .there .here | exact .there (.there .here) | exact .there (.there (.there .here)) | exact .there (.there (.there (.there .here))) | exact .there (.there (.there (.there (.there .here))))) (by rfl) (.tmp rfl (.tmp rfl (.nil)))) ?_ (fun _ _ h => inv_tail (h))
      exact d_tup3 (d_toTape (by unfold drawT; rw [if_neg (by rw [hE]; omega)]) (d_aggU (.cons d_nil (.cons (d_int rfl) .nil)))) (d_toInts (by unfold drawL; rw [if_neg (by rw [hE]; omega)]) d_nil) (d_int hE.symm)
    ·
      have c2 : ¬ (¬ (1 ≤ n ∧ n ≤ 2147483647) ∨ c < 0) := h3
      refine run_skip ?_
      refine run_seq ?_
      have hok := c1
      unfold okTape at hok
      refine run_region ?_
      refine run_op (loc_fieldAddr rfl) rfl ?_
      refine run_op (loc_load1 rfl) rfl ?_
      refine run_op (loc_fieldAddr rfl) rfl ?_
      refine run_op (loc_load1 rfl) rfl ?_
      refine run_op (loc_build (.one rfl rfl rfl (.one rfl rfl rfl (.nil)))) rfl ?_
      refine run_op (loc_build (.agg rfl rfl rfl rfl (.nil))) rfl ?_
      refine run_new (loc_boxOwnN rfl) rfl (fun b29 _ => ?_)
      refine run_op (loc_assign rfl) rfl ?_
      refine run_nil ?_
      have hE : drawE t n c = stepE n (t.numbers.drop t.at'.toNat) c.toNat := by unfold drawE; rw [if_neg (Classical.not_not.2 c1), if_neg c2]
      refine run_cellsUp (kk := 1) (b := b29) (dInt .i64 t.at') (dInt .i64 (t.at'.toNat : Nat)) (.here) rfl (d_int (by omega)) ?_
      refine run_seq ?_
      refine run_seq ?_
      refine run_region ?_
      refine run_op (loc_move rfl) rfl ?_
      refine run_op (loc_move rfl) rfl ?_
      refine run_op (loc_move rfl) rfl ?_
      refine run_callM rfl (.here) (draw_spec _ _ t.at'.toNat _ _ (by omega) (by omega) ⟨by omega, by omega⟩ (by omega)) rfl (fun m hm => ?_)
      refine run_op (loc_assign rfl) rfl ?_
      refine run_nil ?_
      have m1 := hm
      refine run_seq ?_
      refine run_region ?_
      refine run_op (loc_move rfl) rfl ?_
      refine run_op (loc_neq rfl rfl) rfl ?_
      refine run_nil ?_
      refine run_cond rfl (fun h4 => ?_) (fun h4 => ?_)
      ·
        have c3 := h4
        refine run_seq ?_
        refine run_region ?_
        refine run_op (loc_build (.nil)) rfl ?_
        refine run_op (loc_move rfl) rfl ?_
        refine run_storeN (ho := (by show OneAll [_, _]; infer_instance)) rfl rfl (.there (.here)) (by rfl) ?_
        refine run_op (loc_assign rfl) rfl ?_
        refine run_op (loc_assign rfl) rfl ?_
        refine run_nil ?_
        refine run_retGP Try.func119 rfl (.cellN rfl (by first | exact .here | exact .there .here | exact .there (.there .here) | exact .there (.there (.there .here)) | exact .there (.there (.there (.there .here))) | exact .there (.there (.there (.there (.there .here))))) (by rfl) (.tmp rfl (.tmp rfl (.nil)))) ?_ (fun _ _ h => inv_tail (inv_tail (h)))
        exact d_tup3 (d_toTape (by unfold drawT; rw [if_neg (by rw [hE]; exact c3)]) (d_aggU (.cons d_nil (.cons (d_int rfl) .nil)))) (d_toInts (by unfold drawL; rw [if_neg (by rw [hE]; exact c3)]) d_nil) (d_int hE.symm)
      ·
        have c3 := Classical.not_not.1 h4
        refine run_skip ?_
        refine run_seq ?_
        refine dr_start _ (.none) [⟨[(3, none)], [], none⟩,
            ⟨[(38, some (0, false))], [0], none⟩,
            ⟨[(39, some (1, false))], [0, 1], none⟩,
            ⟨[(9, none)], [], none⟩,
            ⟨[(41, some (3, false))], [3], none⟩,
            ⟨[(42, some (4, false))], [3, 4], none⟩,
            ⟨[(43, some (5, false))], [3, 4, 5], none⟩,
            ⟨[(44, some (6, false))], [3, 4, 5, 6], some (0, 0, false)⟩,
            ⟨[(40, some (2, false)), (45, some (7, false))], [0, 1, 2, 3, 4, 5, 6, 7], none⟩,
            ⟨[(9, none)], [], none⟩,
            ⟨[(47, some (9, false))], [9], none⟩,
            ⟨[(48, some (10, false))], [9, 10], none⟩,
            ⟨[(49, some (11, false))], [9, 10, 11], some (0, 0, false)⟩,
            ⟨[(6, none), (46, some (8, false))], [0, 1, 2, 3, 4, 5, 6, 7, 8], some (1, 0, true)⟩,
            ⟨[(50, some (12, false))], [0, 1, 2, 3, 4, 5, 6, 7, 8, 9, 10, 11, 12, 13], none⟩,
            ⟨[], [0, 1, 2, 3, 4, 5, 6, 7, 8, 9, 10, 11, 12, 13, 14], none⟩] [_, _] _ rfl rfl ?_
        refine dq_pure rfl (fun s => .g rfl (.nil)) (fun s hs _ => loc_fieldAddr rfl) (by exact .nil) ?_
        refine dq_pure rfl (fun s => .op rfl (.nil)) (fun s hs _ => loc_load1 rfl) (by exact .nil) ?_
        refine dq_pure rfl (fun s => .op rfl (.nil)) (fun s hs _ => loc_call (cloneI_spec _ (by omega)) rfl) (by exact .nil) ?_
        refine dq_pure rfl (fun s => .g rfl (.nil)) (fun s hs _ => loc_move rfl) (by exact .nil) ?_
        refine dq_pure rfl (fun s => .op rfl (.nil)) (fun s hs _ => loc_nilCheckOwn rfl) (by exact .nil) ?_
        refine dq_pure rfl (fun s => .op rfl (.nil)) (fun s hs _ => loc_fieldAddrOwn rfl) (by exact .nil) ?_
        refine dq_pure rfl (fun s => .op rfl (.nil)) (fun s hs _ => loc_fieldAddrOwn rfl) (by exact .nil) ?_
        refine dq_read rfl (fun s => .op rfl (.nil)) rfl rfl (fun s hs _ hm => loc_loadOwn1 rfl hm (by rfl)) (by exact .nil) ?_
        refine dq_pure rfl (fun s => .op rfl (.op rfl (.nil))) (fun s hs _ => loc_build (.one rfl rfl rfl (.one rfl rfl rfl (.nil)))) (by exact .nil) ?_
        refine dq_pure rfl (fun s => .g rfl (.nil)) (fun s hs _ => loc_move rfl) (by exact .nil) ?_
        refine dq_pure rfl (fun s => .op rfl (.nil)) (fun s hs _ => loc_nilCheckOwn rfl) (by exact .nil) ?_
        refine dq_pure rfl (fun s => .op rfl (.nil)) (fun s hs _ => loc_fieldAddrOwn rfl) (by exact .nil) ?_
        refine dq_read rfl (fun s => .op rfl (.nil)) rfl rfl (fun s hs _ hm => loc_loadOwn1 rfl hm (by rfl)) (by exact .nil) ?_
        refine dq_write0 rfl (fun s => .g rfl (.op rfl (.nil))) rfl rfl (fun s hs => loc_storeN (ho := (by show OneAll [_, _]; infer_instance)) rfl rfl rfl) (by exact .nil) ?_
        refine dq_pure rfl (fun s => .op rfl (.nil)) (fun s hs _ => loc_assign rfl) (by exact .nil) ?_
        refine dq_pure rfl (fun s => .nil) (fun s hs _ => loc_assign rfl) (by exact .nil) ?_
        refine dq_end (rs := [_, _]) () rfl (fun _ => rfl) (.nil) rfl (fun _ _ => ?_)
        dsimp only [outG, outM, List.map, List.set, id]
        refine run_retGP Try.func119 rfl (.cellN rfl (by first | exact .here | exact .there .here | exact .there (.there .here) | exact .there (.there (.there .here)) | exact .there (.there (.there (.there .here))) | exact .there (.there (.there (.there (.there .here))))) (by rfl) (.tmp rfl (.tmp rfl (.nil)))) ?_ (fun _ _ h => inv_tail (inv_tail (h)))
        exact d_tup3 (d_toTape (t' := ⟨t.numbers, t.at' + c⟩) (by unfold drawT; rw [if_pos (hE.trans c3)]) (d_aggU (.cons (fun _ _ h => h) (.cons (d_int (by have := m1 c3; simp only; omega)) .nil)))) (d_eq (by unfold drawL; rw [if_pos (hE.trans c3), m1 c3])) (d_int (c3.symm.trans hE.symm))

end Go.Q

namespace Go.Q
open Classical

abbrev cSh (q : Int × Int) : List D := [dInt .i64 q.1, dInt .i64 q.2]
def sharesL (p : Int) (cs pts : List Int) : List (Int × Int) := pts.map fun x => (x, valP p cs x)
def ptsL (k : Nat) : List Int := (List.range k).map fun x : Nat => (x : Int) + 1
theorem ptsL_len (k : Nat) : (ptsL k).length = k := by simp [ptsL]
theorem ptsL_snoc (k : Nat) : ptsL (k + 1) = ptsL k ++ [(k : Int) + 1] := by simp [ptsL, List.range_succ]
theorem ptsL_mem {k : Nat} {x : Int} (h : x ∈ ptsL k) : 1 ≤ x ∧ x ≤ k := by
  obtain ⟨j, hj, rfl⟩ := List.mem_map.1 h
  have := List.mem_range.1 hj
  omega
theorem ofP_pos {p : Int} (h : okP p) : ofP p = p := if_pos h
theorem ofP_neg {p : Int} (h : ¬ okP p) : ofP p = 0 := if_neg h
theorem ofP_and {p x : Int} (h : ¬ (¬ okP p ∨ ¬ hasP (ofP p) x)) : okP p ∧ hasP p x := by
  by_cases hp : okP p
  · rw [ofP_pos hp] at h; exact ⟨hp, Classical.not_not.1 fun hx => h (.inr hx)⟩
  · exact absurd (.inl hp) h
theorem ofP_or {p x : Int} (h : ¬ okP p ∨ ¬ hasP (ofP p) x) : ¬ okP p ∨ ¬ hasP p x := by
  by_cases hp : okP p
  · rw [ofP_pos hp] at h; exact h
  · exact .inl hp
theorem ofP_nor {p x : Int} (h : ¬ (¬ okP p ∨ ¬ hasP (ofP p) x)) : ¬ (¬ okP p ∨ ¬ hasP p x) := by
  have := ofP_and h
  rintro (h1 | h1)
  · exact h1 this.1
  · exact h1 this.2
noncomputable def splitE (p secret most count : Int) (t : Tape) : Int := if ¬ okP p ∨ ¬ hasP p secret then 9 else if ¬ (0 ≤ most ∧ most ≤ 9) ∨ count < 1 ∨ count ≥ p ∨ count > 512 then 1 else drawE t p most
noncomputable def splitL (p secret most count : Int) (t : Tape) : List (Int × Int) := if splitE p secret most count t = 0 then sharesL p ([secret] ++ drawL t p most) (ptsL count.toNat) else []
noncomputable def splitT (p secret most count : Int) (t : Tape) : Tape := if splitE p secret most count t = 0 then drawT t p most else ⟨[], 0⟩
theorem d_toShares {d : D} {t t' : List (Int × Int)} (e : t = t') (h : ∀ I v, d.rel I v → (dSl 2 cSh t').rel I v) : ∀ I v, d.rel I v → (dSl 2 cSh t).rel I v := e ▸ h

/-! ### Queries on polynomials -/

noncomputable def planE (p s d : Int) : Int := if ¬ okP p then 9 else if ¬ ((2 ≤ s ∧ s ≤ 10) ∧ 1 ≤ d ∧ d < s) ∨ s ≥ p then 1 else 0
noncomputable def planRE (p s d rows : Int) : Int := if planE p s d = 0 ∧ (rows < 1 ∨ rows > 1024) then 1 else planE p s d
theorem planRE_zero {p s d rows : Int} (h : planRE p s d rows = 0) : okP p ∧ (2 ≤ s ∧ s ≤ 10) ∧ (1 ≤ d ∧ d < s) ∧ s < p ∧ (1 ≤ rows ∧ rows ≤ 1024) := by
  unfold planRE at h
  split at h
  · cases h
  · rename_i h1
    have h2 := h
    unfold planE at h
    split at h
    · cases h
    · split at h
      · cases h
      · rename_i h3 h4
        have h5 : ¬ (rows < 1 ∨ rows > 1024) := fun hr => h1 ⟨h2, hr⟩
        exact ⟨Classical.not_not.1 h3, by omega, by omega, by omega, by omega⟩
theorem planRE_ok {p s d rows : Int} (hp : okP p) (h1 : 2 ≤ s ∧ s ≤ 10) (h2 : 1 ≤ d ∧ d < s) (h3 : s < p) (h4 : 1 ≤ rows ∧ rows ≤ 1024) : planRE p s d rows = 0 := by
  have e : planE p s d = 0 := by unfold planE; rw [if_neg (Classical.not_not.2 hp), if_neg (by omega)]
  unfold planRE
  rw [if_neg (by omega), e]
noncomputable def limsC (p s d rows : Int) : List Int := if planRE p s d rows = 0 then List.replicate (rows * d).toNat p else []
theorem rep_snoc {α : Type} (n : Nat) (x : α) : List.replicate (n + 1) x = List.replicate n x ++ [x] := List.replicate_succ'

/-- The element of a query: of the row r, for the server k + 1. -/
noncomputable def cV (p d index : Int) (dr : List Int) (k r : Nat) : Int := valP p ([if (r : Int) = index then 1 else 0] ++ ((dr.take (((r : Int) + 1) * d).toNat).drop ((r : Int) * d).toNat)) ((k : Int) + 1)
noncomputable def cqE (p s d rows index : Int) (t : Tape) : Int := if planRE p s d rows ≠ 0 then planRE p s d rows else if index < 0 ∨ index ≥ rows then 6 else drawE t p (rows * d)
noncomputable def cqQ (p s d rows index : Int) (dr : List Int) : List (List Int) := (List.range s.toNat).map fun k => (List.range rows.toNat).map fun r => cV p d index dr k r
noncomputable def cqL (p s d rows index : Int) (t : Tape) : List (List Int) := if cqE p s d rows index t = 0 then cqQ p s d rows index (drawL t p (rows * d)) else []
noncomputable def cqT (p s d rows index : Int) (t : Tape) : Tape := if cqE p s d rows index t = 0 then drawT t p (rows * d) else ⟨[], 0⟩
/-- The lists in the making: those before k have a row more. -/
noncomputable def cqP (p d index : Int) (dr : List Int) (s : Nat) (k i : Nat) : List (List Int) := (List.range s).map fun j => (List.range (if j < k then i + 1 else i)).map fun r => cV p d index dr j r
theorem cqP_0 (p d index : Int) (dr : List Int) (s : Nat) : cqP p d index dr s 0 0 = List.replicate s [] := by
  unfold cqP
  apply List.ext_getElem (by simp)
  intro i h1 h2
  simp
theorem cqP_next (p d index : Int) (dr : List Int) (s i : Nat) : cqP p d index dr s s i = cqP p d index dr s 0 (i + 1) := by
  unfold cqP
  apply List.ext_getElem (by simp)
  intro j h1 h2
  have : j < s := by simpa using h1
  simp [this]
theorem cqP_get {p d index : Int} {dr : List Int} {s k i : Nat} (h : k < s) : (cqP p d index dr s k i)[k]?.getD default = (List.range i).map fun r => cV p d index dr k r := by
  unfold cqP
  simp [h]
theorem cqP_set {p d index : Int} {dr : List Int} {s k i : Nat} (h : k < s) : (cqP p d index dr s k i).set k ((List.range i).map (fun r => cV p d index dr k r) ++ [cV p d index dr k i]) = cqP p d index dr s (k + 1) i := by
  unfold cqP
  apply List.ext_getElem (by simp)
  intro j h1 h2
  rw [List.getElem_set]
  split
  · rename_i e; subst e; simp [List.range_succ]
  · rename_i e
    have : (j < k + 1) ↔ (j < k) := by omega
    simp [this]
theorem cqP_end (p d index rows : Int) (dr : List Int) (s : Int) : cqP p d index dr s.toNat 0 rows.toNat = cqQ p s d rows index dr := by
  unfold cqP cqQ
  simp

theorem split_ok {p sec most count : Int} {l : List Int} (hp : okP p) (hs : hasP p sec) (hm : 0 ≤ most ∧ most ≤ 9) (hc : 1 ≤ count ∧ count < p ∧ count ≤ 512) (hl : l.length = most.toNat) (ha : ∀ x ∈ l, hasP p x) :
    splitE p sec most count ⟨l, 0⟩ = 0 ∧ splitL p sec most count ⟨l, 0⟩ = sharesL p ([sec] ++ l) (ptsL count.toNat) := by
  have hb := hp.1
  have hb2 := hp.2.1
  have e0 : drawE ⟨l, 0⟩ p most = 0 := by
    unfold drawE
    rw [if_neg (Classical.not_not.2 ⟨by simp only; omega, by simp, by simp⟩), if_neg (by omega)]
    refine stepE_ok (by simp; omega) (fun j hj => ?_)
    simp only [Int.toNat_zero, List.drop_zero]
    exact ha _ (getD_mem (by omega))
  have e : splitE p sec most count ⟨l, 0⟩ = 0 := by
    unfold splitE
    rw [if_neg (fun h => h.elim (fun h => h hp) (fun h => h hs)), if_neg (by omega), e0]
  refine ⟨e, ?_⟩
  unfold splitL
  rw [if_pos e]
  congr 2
  unfold drawL
  rw [if_pos e0]
  simp only [Int.toNat_zero, List.drop_zero]
  exact List.take_of_length_le (by omega)
theorem shares_get {p : Int} {cs : List Int} {n k : Nat} (h : k < n) : (sharesL p cs (ptsL n))[k]?.getD default = ((k : Int) + 1, valP p cs ((k : Int) + 1)) := by
  unfold sharesL ptsL
  simp [h]
theorem shares_len (p : Int) (cs : List Int) (n : Nat) : (sharesL p cs (ptsL n)).length = n := by simp [sharesL, ptsL]
theorem sl_all {p : Int} {l : List Int} {i j : Nat} (h : ∀ x ∈ l, hasP p x) : ∀ x ∈ (l.take j).drop i, hasP p x := fun x hx => h x (List.mem_of_mem_take (List.mem_of_mem_drop hx))

end Go.Q

namespace Go.Q
open Go.Proofs

open Classical
theorem thr_spec (n : Int) : SpecP Try.prog 145 [dInt .i64 n] (dB (0 ≤ n ∧ n ≤ 9)) := by
  refine specP_of_body Try.func145 rfl rfl (fun I M => ?_)
  refine run_seq ?_
  refine run_region ?_
  refine run_op (loc_assign rfl) rfl ?_
  refine run_nil ?_
  refine run_seq ?_
  refine run_region ?_
  refine run_op (loc_move rfl) rfl ?_
  refine run_op (loc_geq rfl rfl) rfl ?_
  refine run_op (loc_move rfl) rfl ?_
  refine run_gfirst rfl rfl (by first | exact guard_true _ | exact guard_false _ | exact guard_if (guard_true _) | exact guard_if (guard_false _)) (fun hg => loc_move rfl) rfl ?_
  refine run_gop rfl rfl (by first | exact guard_true _ | exact guard_false _ | exact guard_if (guard_true _) | exact guard_if (guard_false _)) (fun hg => loc_leq rfl rfl) rfl ?_
  refine run_gleave ?_
  refine run_op (loc_and rfl rfl) rfl ?_
  refine run_op (loc_assign rfl) rfl ?_
  refine run_nil ?_
  refine run_retP Try.func145 rfl rfl ?_
  exact fun _ _ h => h

theorem sharesM_spec (p : Int) (cs pts : List Int) (h : 2 ≤ p ∧ p ≤ 65521) (hc : ∀ c ∈ cs, hasP p c) (hp : ∀ x ∈ pts, 0 ≤ x ∧ x ≤ 65521) (hl : pts.length ≤ 1000) : Spec Try.prog 146 [dInt .i64 p, dInts cs, dInts pts] [] (σ := Value) (fun _ => True) (fun v => dVal v) (fun v => [rRow v 194 2 cSh (sharesL p cs pts)]) := by
  refine spec_of_body Try.func146 rfl rfl (fun I F => ?_)
  refine run_seq ?_
  refine run_region ?_
  refine run_op (loc_assign rfl) rfl ?_
  refine run_nil ?_
  refine run_seq ?_
  refine run_region ?_
  refine run_op (loc_assign rfl) rfl ?_
  refine run_nil ?_
  refine run_seq ?_
  refine run_seq ?_
  refine run_region ?_
  refine run_op (loc_move rfl) rfl ?_
  first | refine runL_fact (s := 10) rfl (fun _ _ h => dSl_len h) (fun hlen1 => ?_) | skip
  refine run_op (loc_len rfl) rfl ?_
  refine run_op (loc_move rfl) rfl ?_
  refine run_nil ?_
  refine run_block ?_
  refine run_rowNil 194 2 cSh ?_
  refine run_loopF (σ := Value × Nat) (ks := [0, 1, 10, 11]) (.cons rfl (.cons rfl (.cons rfl (.cons rfl (.nil))))) (fun s => [(7, dVal s.1), (12, dInt .i64 (s.2 : Nat))]) (fun s => [rRow s.1 194 2 cSh (sharesL p cs (pts.take s.2))]) (fun s => s.2 ≤ pts.length) (fun s => pts.length - s.2) ((.slice none 0 0, 0)) (Nat.zero_le _) (.cons rfl (by first | exact fun _ _ h => h | exact d_int (by omega) | exact d_int (by simp) | exact d_intN (by omega) | exact d_any) (.cons rfl (by first | exact fun _ _ h => h | exact d_int (by omega) | exact d_int (by simp) | exact d_intN (by omega) | exact d_any) .nil)) (rfl) ?_
  intro s hs ih2
  have hsl : (sharesL p cs (pts.take s.2)).length = s.2 := by unfold sharesL; rw [List.length_map, List.length_take]; omega
  refine run_seq ?_
  refine run_region ?_
  refine run_op (loc_lss rfl rfl) rfl ?_
  refine run_nil ?_
  refine run_seq ?_
  refine run_cond rfl (fun h3 => ?_) (fun h3 => ?_)
  ·
    refine run_skip ?_
    refine run_seq ?_
    refine run_block ?_
    refine run_seq ?_
    refine run_region ?_
    first | refine run_op (loc_index rfl rfl (by first | omega | assumption)) rfl ?_ | refine run_op (loc_indexI rfl rfl (by first | omega | assumption)) rfl ?_
    refine run_op (loc_load1 rfl) rfl ?_
    refine run_op (loc_assign rfl) rfl ?_
    refine run_nil ?_
    refine run_region ?_
    refine run_op (loc_move rfl) rfl ?_
    refine run_op (loc_move rfl) rfl ?_
    refine run_op (loc_move rfl) rfl ?_
    refine run_op (loc_move rfl) rfl ?_
    refine run_op (loc_move rfl) rfl ?_
    refine run_op (loc_call (value_spec _ _ _ h (hp _ (getD_mem (by omega))) hc) rfl) rfl ?_
    refine run_op (loc_build (.one rfl rfl rfl (.one rfl rfl rfl (.nil)))) rfl ?_
    refine run_op (loc_buildSlice rfl rfl (.agg rfl (.nil)) rfl rfl) rfl ?_
    refine run_append1 (e0 := (pts[s.2]?.getD default, valP p cs (pts[s.2]?.getD default))) rfl (.here) rfl (by rfl) (by rfl) (by first | omega | (unfold lenMax; omega) | assumption | (simp; omega) | (simp [lenMax]; omega)) (by first | omega | (unfold lenMax; omega) | assumption | (simp; omega) | (simp [lenMax]; omega)) rfl (fun v4 => ?_)
    refine run_op (loc_assign rfl) rfl ?_
    refine run_nil ?_
    refine run_inBlock ?_
    refine run_region ?_
    first | refine run_op (loc_add rfl rfl (by first | omega | assumption)) rfl ?_ | refine run_op (loc_addW rfl rfl) rfl ?_
    refine run_op (loc_move rfl) rfl ?_
    refine run_nil ?_
    exact run_againF ih2 ((v4, s.2 + 1)) (by simp only; omega) (by simp only; omega) (.cons rfl (by first | exact fun _ _ h => h | exact d_int (by omega) | exact d_int (by simp) | exact d_intN (by omega) | exact d_any) (.cons rfl (by first | exact fun _ _ h => h | exact d_int (by omega) | exact d_int (by simp) | exact d_intN (by omega) | exact d_any) .nil)) (.cons rfl (fun _ _ x => x) (.cons rfl (fun _ _ x => x) (.cons rfl (fun _ _ x => x) (.cons rfl (fun _ _ x => x) (.nil))))) (by simp only [appR]; unfold sharesL; rw [take_snoc2 (by omega), List.map_append]; rfl)
  ·
    refine run_exit rfl ?_
    refine run_seq ?_
    refine run_region ?_
    refine run_op (loc_move rfl) rfl ?_
    refine run_op (loc_assign rfl) rfl ?_
    refine run_nil ?_
    refine run_ret (s.1) Try.func146 rfl rfl ?_ (trivial) (fun _ _ h => by rw [List.take_of_length_le (by omega)] at h; exact h)
    exact fun _ _ h => h

theorem shares_spec (p : Int) (cs pts : List Int) (h : 2 ≤ p ∧ p ≤ 65521) (hc : ∀ c ∈ cs, hasP p c) (hp : ∀ x ∈ pts, 0 ≤ x ∧ x ≤ 65521) (hl : pts.length ≤ 1000) : SpecP Try.prog 146 [dInt .i64 p, dInts cs, dInts pts] (dSl 2 cSh (sharesL p cs pts)) := spec_freeze (sharesM_spec p cs pts h hc hp hl)
theorem split_spec (p secret most count : Int) (t : Tape) : SpecP Try.prog 143 [dAgg [dInt .i64 p], dInt .i64 secret, dInt .i64 most, dInt .i64 count, dTape t] (dTup [dSl 2 cSh (splitL p secret most count t), dTape (splitT p secret most count t), dInt .i64 (splitE p secret most count t)]) := by
  refine specP_of_body Try.func143 rfl rfl (fun I M => ?_)
  refine run_seq ?_
  refine run_region ?_
  refine run_op (loc_boxN rfl) rfl ?_
  refine run_new (loc_boxOwnN rfl) rfl (fun b1 _ => ?_)
  refine run_op (loc_assign rfl) rfl ?_
  refine run_new (loc_allocOwn (by simp)) rfl (fun b2 _ => ?_)
  refine run_op (loc_assign rfl) rfl ?_
  refine run_nil ?_
  refine run_seq ?_
  refine run_region ?_
  refine run_op (loc_loadN rfl rfl) rfl ?_
  refine run_op (loc_call (of_spec _) rfl) rfl ?_
  refine run_op (loc_move rfl) rfl ?_
  refine run_op (loc_extract rfl rfl) rfl ?_
  refine run_op (loc_extract rfl rfl) rfl ?_
  refine run_op (loc_assign rfl) rfl ?_
  refine run_op (loc_assign rfl) rfl ?_
  refine run_nil ?_
  refine run_seq ?_
  refine run_block ?_
  refine run_seq ?_
  refine run_region ?_
  refine run_op (loc_move rfl) rfl ?_
  refine run_op (loc_not rfl) rfl ?_
  refine run_op (loc_move rfl) rfl ?_
  refine run_gfirst rfl rfl (by first | exact guard_true _ | exact guard_false _ | exact guard_if (guard_true _) | exact guard_if (guard_false _)) (fun hg => loc_move rfl) rfl ?_
  refine run_gop rfl rfl (by first | exact guard_true _ | exact guard_false _ | exact guard_if (guard_true _) | exact guard_if (guard_false _)) (fun hg => loc_move rfl) rfl ?_
  refine run_gop rfl rfl (by first | exact guard_true _ | exact guard_false _ | exact guard_if (guard_true _) | exact guard_if (guard_false _)) (fun hg => loc_call (has_spec _ _) rfl) rfl ?_
  refine run_gop rfl rfl (by first | exact guard_true _ | exact guard_false _ | exact guard_if (guard_true _) | exact guard_if (guard_false _)) (fun hg => loc_not rfl) rfl ?_
  refine run_gleave ?_
  refine run_op (loc_or rfl rfl) rfl ?_
  refine run_op (loc_assign rfl) rfl ?_
  refine run_nil ?_
  refine run_cond rfl (fun h3 => ?_) (fun h3 => ?_)
  ·
    have c1 := h3
    refine run_seq ?_
    refine run_region ?_
    refine run_op (loc_build (.nil)) rfl ?_
    refine run_op (loc_assign rfl) rfl ?_
    refine run_storeN (ho := (by show OneAll [_, _]; infer_instance)) rfl rfl (.here) (by rfl) ?_
    refine run_op (loc_assign rfl) rfl ?_
    refine run_nil ?_
    have hE : splitE p secret most count t = 9 := by unfold splitE; rw [if_pos (ofP_or c1)]
    refine run_retGP Try.func143 rfl (.tmp rfl (.cellN rfl (by first | exact .here | exact .there .here | exact .there (.there .here) | exact .there (.there (.there .here)) | exact .there (.there (.there (.there .here))) | exact .there (.there (.there (.there (.there .here))))) (by rfl) (.tmp rfl (.nil)))) ?_ (fun _ _ h => inv_tail (inv_tail (h)))
    exact d_tup3 (d_toShares (by unfold splitL; rw [if_neg (by rw [hE]; omega)]) d_nil) (d_toTape (by unfold splitT; rw [if_neg (by rw [hE]; omega)]) (d_aggU (.cons d_nil (.cons (d_int rfl) .nil)))) (d_int hE.symm)
  ·
    have c1 := h3
    refine run_seq ?_
    refine run_region ?_
    refine run_op (loc_move rfl) rfl ?_
    refine run_op (loc_call (thr_spec _) rfl) rfl ?_
    refine run_op (loc_not rfl) rfl ?_
    refine run_op (loc_move rfl) rfl ?_
    refine run_gfirst rfl rfl (by first | exact guard_true _ | exact guard_false _ | exact guard_if (guard_true _) | exact guard_if (guard_false _)) (fun hg => loc_move rfl) rfl ?_
    refine run_gop rfl rfl (by first | exact guard_true _ | exact guard_false _ | exact guard_if (guard_true _) | exact guard_if (guard_false _)) (fun hg => loc_lss rfl rfl) rfl ?_
    refine run_gleave ?_
    refine run_op (loc_or rfl rfl) rfl ?_
    refine run_op (loc_move rfl) rfl ?_
    refine run_gfirst rfl rfl (by first | exact guard_true _ | exact guard_false _ | exact guard_if (guard_true _) | exact guard_if (guard_false _)) (fun hg => loc_move rfl) rfl ?_
    refine run_gop rfl rfl (by first | exact guard_true _ | exact guard_false _ | exact guard_if (guard_true _) | exact guard_if (guard_false _)) (fun hg => loc_fieldAddr rfl) rfl ?_
    refine run_gop rfl rfl (by first | exact guard_true _ | exact guard_false _ | exact guard_if (guard_true _) | exact guard_if (guard_false _)) (fun hg => loc_load1 rfl) rfl ?_
    refine run_gop rfl rfl (by first | exact guard_true _ | exact guard_false _ | exact guard_if (guard_true _) | exact guard_if (guard_false _)) (fun hg => loc_geq rfl rfl) rfl ?_
    refine run_gleave ?_
    refine run_op (loc_or rfl rfl) rfl ?_
    refine run_op (loc_move rfl) rfl ?_
    refine run_gfirst rfl rfl (by first | exact guard_true _ | exact guard_false _ | exact guard_if (guard_true _) | exact guard_if (guard_false _)) (fun hg => loc_move rfl) rfl ?_
    refine run_gop rfl rfl (by first | exact guard_true _ | exact guard_false _ | exact guard_if (guard_true _) | exact guard_if (guard_false _)) (fun hg => loc_gtr rfl rfl) rfl ?_
    refine run_gleave ?_
    refine run_op (loc_or rfl rfl) rfl ?_
    refine run_op (loc_assign rfl) rfl ?_
    refine run_nil ?_
    refine run_cond rfl (fun h4 => ?_) (fun h4 => ?_)
    ·
      have c2 := h4
      refine run_seq ?_
      refine run_region ?_
      refine run_op (loc_build (.nil)) rfl ?_
      refine run_op (loc_assign rfl) rfl ?_
      refine run_storeN (ho := (by show OneAll [_, _]; infer_instance)) rfl rfl (.here) (by rfl) ?_
      refine run_op (loc_assign rfl) rfl ?_
      refine run_nil ?_
      have hE : splitE p secret most count t = 1 := by unfold splitE; rw [if_neg (ofP_nor c1), if_pos (by omega)]
      refine run_retGP Try.func143 rfl (.tmp rfl (.cellN rfl (by first | exact .here | exact .there .here | exact .there (.there .here) | exact .there (.there (.there .here)) | exact .there (.there (.there (.there .here))) | exact .there (.there (.there (.there (.there .here))))) (by rfl) (.tmp rfl (.nil)))) ?_ (fun _ _ h => inv_tail (inv_tail (h)))
      exact d_tup3 (d_toShares (by unfold splitL; rw [if_neg (by rw [hE]; omega)]) d_nil) (d_toTape (by unfold splitT; rw [if_neg (by rw [hE]; omega)]) (d_aggU (.cons d_nil (.cons (d_int rfl) .nil)))) (d_int hE.symm)
    ·
      have c2 := h4
      refine run_skip ?_
      refine run_inBlock ?_
      refine run_seq ?_
      refine run_region ?_
      refine run_op (loc_loadOwnN rfl (.there (.here)) (by rfl)) rfl ?_
      refine run_op (loc_fieldAddr rfl) rfl ?_
      refine run_op (loc_load1 rfl) rfl ?_
      refine run_op (loc_move rfl) rfl ?_
      refine run_op (loc_call (draws_spec _ _ _) rfl) rfl ?_
      refine run_op (loc_move rfl) rfl ?_
      refine run_op (loc_extract rfl rfl) rfl ?_
      refine run_op (loc_extract rfl rfl) rfl ?_
      refine run_op (loc_extract rfl rfl) rfl ?_
      refine run_storeN (ho := (by show OneAll [_, _]; infer_instance)) rfl rfl (.there (.here)) (by rfl) ?_
      refine run_op (loc_assign rfl) rfl ?_
      refine run_op (loc_assign rfl) rfl ?_
      refine run_nil ?_
      have hp := (ofP_and c1).1
      have hsec := (ofP_and c1).2
      have hpb := hp.1
      have hpb2 := hp.2.1
      have hE : splitE p secret most count t = drawE t p most := by unfold splitE; rw [if_neg (ofP_nor c1), if_neg (by omega)]
      refine run_seq ?_
      refine run_seq ?_
      refine run_region ?_
      refine run_op (loc_move rfl) rfl ?_
      refine run_op (loc_neq rfl rfl) rfl ?_
      refine run_nil ?_
      refine run_cond rfl (fun h5 => ?_) (fun h5 => ?_)
      ·
        have c3 := h5
        refine run_seq ?_
        refine run_region ?_
        refine run_op (loc_build (.nil)) rfl ?_
        refine run_op (loc_move rfl) rfl ?_
        refine run_op (loc_assign rfl) rfl ?_
        refine run_storeN (ho := (by show OneAll [_, _]; infer_instance)) rfl rfl (.here) (by rfl) ?_
        refine run_op (loc_assign rfl) rfl ?_
        refine run_nil ?_
        refine run_retGP Try.func143 rfl (.tmp rfl (.cellN rfl (by first | exact .here | exact .there .here | exact .there (.there .here) | exact .there (.there (.there .here)) | exact .there (.there (.there (.there .here))) | exact .there (.there (.there (.there (.there .here))))) (by rfl) (.tmp rfl (.nil)))) ?_ (fun _ _ h => inv_tail (inv_tail (h)))
        exact d_tup3 (d_toShares (by unfold splitL; rw [if_neg (by rw [hE]; exact c3)]) d_nil) (d_toTape (by unfold splitT; rw [if_neg (by rw [hE]; exact c3)]) (d_aggU (.cons d_nil (.cons (d_int rfl) .nil)))) (d_int hE.symm)
      ·
        have c3 := Classical.not_not.1 h5
        refine run_skip ?_
        refine run_seq ?_
        refine run_region ?_
        refine run_op (loc_assign rfl) rfl ?_
        refine run_nil ?_
        refine run_seq ?_
        refine run_seq ?_
        refine run_region ?_
        refine run_op (loc_move rfl) rfl ?_
        refine run_op (loc_move rfl) rfl ?_
        refine run_nil ?_
        refine run_block ?_
        refine run_rowNil 3 1 fI ?_
        refine run_loopF (σ := Value × Nat) (ks := [1, 9, 11, 13, 15, 66]) (.cons rfl (.cons rfl (.cons rfl (.cons rfl (.cons rfl (.cons rfl (.nil))))))) (fun s => [(17, dVal s.1), (67, dInt .i64 (s.2 : Nat))]) (fun s => [rRow s.1 3 1 fI (ptsL s.2)]) (fun s => s.2 ≤ count.toNat) (fun s => count.toNat - s.2) ((.slice none 0 0, 0)) (Nat.zero_le _) (.cons rfl (by first | exact fun _ _ h => h | exact d_int (by omega) | exact d_int (by simp) | exact d_intN (by omega) | exact d_any) (.cons rfl (by first | exact fun _ _ h => h | exact d_int (by omega) | exact d_int (by simp) | exact d_intN (by omega) | exact d_any) .nil)) (rfl) ?_
        intro s hs ih6
        have hpl := ptsL_len s.2
        refine run_seq ?_
        refine run_region ?_
        refine run_op (loc_lss rfl rfl) rfl ?_
        refine run_nil ?_
        refine run_seq ?_
        refine run_cond rfl (fun h7 => ?_) (fun h7 => ?_)
        ·
          refine run_skip ?_
          refine run_seq ?_
          refine run_block ?_
          refine run_seq ?_
          refine run_region ?_
          refine run_op (loc_move rfl) rfl ?_
          refine run_op (loc_assign rfl) rfl ?_
          refine run_nil ?_
          refine run_region ?_
          refine run_op (loc_move rfl) rfl ?_
          refine run_op (loc_move rfl) rfl ?_
          first | refine run_op (loc_add rfl rfl (by first | omega | assumption)) rfl ?_ | refine run_op (loc_addW rfl rfl) rfl ?_
          refine run_op (loc_buildSlice rfl rfl (.one rfl (.nil)) rfl rfl) rfl ?_
          refine run_append1 rfl (.here) rfl (by rfl) (by rfl) (by first | omega | (unfold lenMax; omega) | assumption | (simp; omega) | (simp [lenMax]; omega)) (by first | omega | (unfold lenMax; omega) | assumption | (simp; omega) | (simp [lenMax]; omega)) rfl (fun v8 => ?_)
          refine run_op (loc_assign rfl) rfl ?_
          refine run_nil ?_
          refine run_inBlock ?_
          refine run_region ?_
          first | refine run_op (loc_add rfl rfl (by first | omega | assumption)) rfl ?_ | refine run_op (loc_addW rfl rfl) rfl ?_
          refine run_op (loc_move rfl) rfl ?_
          refine run_nil ?_
          exact run_againF ih6 ((v8, s.2 + 1)) (by simp only; omega) (by simp only; omega) (.cons rfl (by first | exact fun _ _ h => h | exact d_int (by omega) | exact d_int (by simp) | exact d_intN (by omega) | exact d_any) (.cons rfl (by first | exact fun _ _ h => h | exact d_int (by omega) | exact d_int (by simp) | exact d_intN (by omega) | exact d_any) .nil)) (.cons rfl (fun _ _ x => x) (.cons rfl (fun _ _ x => x) (.cons rfl (fun _ _ x => x) (.cons rfl (fun _ _ x => x) (.cons rfl (fun _ _ x => x) (.cons rfl (fun _ _ x => x) (.nil))))))) (by simp only [appR]; rw [ptsL_snoc])
        ·
          refine run_exit rfl ?_
          refine run_seq ?_
          refine run_freezeRow (s := 17) rfl (.here) ?_
          have hdz := drawE_zero c3
          rw [show s.2 = count.toNat by omega]
          rw [ofP_pos hp]
          have hdl := hdz.2.2.2.2.1
          have hcs : ∀ c ∈ [secret] ++ drawL t p most, hasP p c := by intro c hc; rcases List.mem_append.1 hc with hc | hc; (· rw [List.mem_singleton.1 hc]; exact hsec); (· exact hdz.2.2.2.2.2 c hc)
          have hpt : ∀ x ∈ ptsL count.toNat, 0 ≤ x ∧ x ≤ 65521 := fun x hx => by have := ptsL_mem hx; omega
          refine run_addNone ?_
          refine dr_start _ (.one (σ := Nat) 2 (fun _ => True)) [⟨[(13, none)], [], none⟩,
              ⟨[(1, none)], [], none⟩,
              ⟨[(77, some (1, false))], [1], some (0, 0, true)⟩,
              ⟨[(15, none)], [], none⟩,
              ⟨[(78, some (2, false)), (79, some (3, false))], [1, 2, 3], some (0, 1, true)⟩,
              ⟨[(17, none)], [], none⟩,
              ⟨[(76, some (0, false)), (80, some (4, false)), (81, some (5, false))], [0, 1, 2, 3, 4, 5], none⟩,
              ⟨[(9, none)], [], some (2, 0, false)⟩,
              ⟨[(82, some (6, false))], [0, 1, 2, 3, 4, 5, 6], none⟩,
              ⟨[(11, none), (83, some (7, false))], [0, 1, 2, 3, 4, 5, 6, 7, 8], some (1, 0, true)⟩,
              ⟨[], [0, 1, 2, 3, 4, 5, 6, 7, 8, 9], none⟩] [_, _, _] _ rfl rfl ?_
          refine dq_pure rfl (fun s => .g rfl (.nil)) (fun s hs _ => loc_move rfl) (by exact .cons (.inr fun _ _ _ => rfl) (.nil)) ?_
          refine dq_pure rfl (fun s => .g rfl (.nil)) (fun s hs _ => loc_move rfl) (by exact .cons (.inr fun _ _ _ => rfl) (.nil)) ?_
          refine dq_choose id (fun _ t => t) rfl (fun _ _ => ⟨rfl, id, trivial⟩) (fun s => .op rfl (.nil)) rfl rfl (fun s hs => locM_new (loc_buildOwn (f' := fI) (xs := [secret]) rfl rfl (.one rfl (.nil)) rfl rfl rfl)) (by exact .cons (.inl rfl) (.nil)) ?_
          refine dq_pure rfl (fun s => .g rfl (.nil)) (fun s hs _ => loc_move rfl) (by exact .cons (.inr fun _ _ _ => rfl) (.nil)) ?_
          refine dq_write rfl (fun s => .op rfl (.op rfl (.nil))) rfl rfl (fun s hs => LocM.frz (loc_append rfl rfl rfl (by first | omega | (unfold lenMax; omega) | assumption | (simp; omega) | (simp [lenMax]; omega)) (by first | omega | (unfold lenMax; omega) | assumption | (simp; omega) | (simp [lenMax]; omega))) rfl) (by exact .cons (.inl rfl) (.nil)) ?_
          refine dq_pure rfl (fun s => .g rfl (.nil)) (fun s hs _ => loc_move rfl) (by exact .cons (.inr fun _ _ _ => rfl) (.nil)) ?_
          refine dq_pure rfl (fun s => .op rfl (.op rfl (.op rfl (.nil)))) (fun s hs _ => loc_call (shares_spec _ _ _ ⟨by omega, by omega⟩ hcs hpt (by rw [ptsL_len]; omega)) rfl) (by exact .cons (.inl rfl) (.nil)) ?_
          refine dq_read rfl (fun s => .g rfl (.nil)) rfl rfl (fun s hs _ hm => loc_loadOwnN rfl hm (by rfl)) (by exact .cons (.inr fun _ _ _ => rfl) (.nil)) ?_
          refine dq_pure rfl (fun s => .op rfl (.nil)) (fun s hs _ => loc_assign rfl) (by exact .cons (.inl rfl) (.nil)) ?_
          refine dq_write0 rfl (fun s => .g rfl (.op rfl (.nil))) rfl rfl (fun s hs => loc_storeN (ho := (by show OneAll [_, _]; infer_instance)) rfl rfl rfl) (by exact .cons (.inl rfl) (.nil)) ?_
          refine dq_pure rfl (fun s => .nil) (fun s hs _ => loc_assign rfl) (by exact .cons (.inl rfl) (.nil)) ?_
          refine dq_end (rs := [_, _, _]) 0 rfl (fun _ => rfl) (.cons rfl (.nil)) rfl (fun b9 _ => ?_)
          dsimp only [outG, outM, List.map, List.set, id]
          refine run_retGP Try.func143 rfl (.tmp rfl (.cellN rfl (by first | exact .here | exact .there .here | exact .there (.there .here) | exact .there (.there (.there .here)) | exact .there (.there (.there (.there .here))) | exact .there (.there (.there (.there (.there .here))))) (by rfl) (.tmp rfl (.nil)))) ?_ (fun _ _ h => inv_tail (inv_tail (inv_tail (h))))
          exact d_tup3 (d_eq (by unfold splitL; rw [if_pos (hE.trans c3)])) (d_toTape (by unfold splitT; rw [if_pos (hE.trans c3)]) (fun _ _ h => h)) (d_int (c3.symm.trans hE.symm))

end Go.Q

namespace Go.Q
variable {P : Program} {f : FuncId} {N : Nat} {I0 : Imm} {R : Goal} {g : G} {k : List Item} {F : List Res}

/-- The rows of a row of own rows. -/
def fam {α : Type} (T n : Nat) (c : α → List D) (hs : List (Value × List α)) : List Res := hs.map fun p => rRow p.1 T n c p.2

theorem fam_perm {α : Type} {T n : Nat} {c : α → List D} {hs : List (Value × List α)} {i : Nat} {p : Value × List α} (h : hs[i]? = some p) : (fam T n c hs ++ F).Perm (rRow p.1 T n c p.2 :: (fam T n c (hs.eraseIdx i) ++ F)) := by
  obtain ⟨hi, rfl⟩ := List.getElem?_eq_some_iff.1 h
  have h1 : hs.Perm (hs[i] :: hs.eraseIdx i) := by
    rw [List.eraseIdx_eq_take_drop_succ]
    conv => lhs; rw [← List.take_append_drop i hs, List.drop_eq_getElem_cons hi]
    exact List.perm_middle
  have h2 := h1.map fun p => rRow p.1 T n c p.2
  exact h2.append_right F
theorem fam_back {α : Type} {T n : Nat} {c : α → List D} {hs : List (Value × List α)} {i : Nat} {p : Value × List α} (hi : i < hs.length) : (rRow p.1 T n c p.2 :: (fam T n c (hs.eraseIdx i) ++ F)).Perm (fam T n c (hs.set i p) ++ F) := by
  have h1 : (hs.set i p)[i]? = some p := List.getElem?_set_self hi
  have h2 := fam_perm (T := T) (n := n) (c := c) (F := F) h1
  rw [List.eraseIdx_set_eq] at h2
  exact h2.symm

/-- Rows that are nil cost nothing. -/
theorem fam_nils {α : Type} {T n : Nat} {c : α → List D} (A : List Res) (m : Nat) {I : Imm} {w : World} (h : Inv I (A ++ F) w) : Inv I (A ++ (fam T n c (List.replicate m (.slice none 0 0, [])) ++ F)) w := by
  induction m with
  | zero => exact h
  | succ m ih =>
    have h1 : Inv I (rRow (.slice none 0 0) T n c [] :: (A ++ (fam T n c (List.replicate m (.slice none 0 0, [])) ++ F))) w := nil_ok ih
    exact h1.perm (List.perm_middle.symm)
theorem fam_out {α : Type} {T n : Nat} {c : α → List D} {hs : List (Value × List α)} (A : List Res) (i : Nat) {p : Value × List α} (h : hs[i]? = some p) {I : Imm} {w : World} (hi : Inv I (A ++ (fam T n c hs ++ F)) w) : Inv I (rRow p.1 T n c p.2 :: (A ++ (fam T n c (hs.eraseIdx i) ++ F))) w :=
  hi.perm (((fam_perm h).append_left A).trans List.perm_middle)
theorem fam_in {α : Type} {T n : Nat} {c : α → List D} {hs : List (Value × List α)} (A : List Res) (i : Nat) {p : Value × List α} (h : i < hs.length) {I : Imm} {w : World} (hi : Inv I (rRow p.1 T n c p.2 :: (A ++ (fam T n c (hs.eraseIdx i) ++ F))) w) : Inv I (A ++ (fam T n c (hs.set i p) ++ F)) w :=
  hi.perm ((List.perm_middle.symm).trans ((fam_back h).append_left A))

/-- What is owned, told otherwise. -/
theorem run_inv {M M' : List Res} (hw : ∀ I w, Inv I M w → Inv I M' w) (h : Run P f N I0 R g M' k) : Run P f N I0 R g M k :=
  run_weaken (fun I _ w hs hi => ⟨hs, hw I w hi⟩) h
theorem runL_inv {M M' : List Res} {ops : Array Oper} {l : List Oper} (hw : ∀ I w, Inv I M w → Inv I M' w) (h : RunL P f N I0 R g M' ops l k) : RunL P f N I0 R g M ops l k :=
  ⟨fun I a w b cs hb hk hl hs hi => h.go I a w b cs hb hk hl hs (hw I w hi)⟩

/-- The handle of a row, told by name. -/
theorem run_rowV {M : List Res} {s : Nat} {C : Res → List Res} {F' : List Res} {α : Type} {T n : Nat} {f' : α → List D} {xs : List α} {v : Value} (hs : look g s = some (dVal v)) (hm : Sel (rRow v T n f' xs) M C F')
    (h : Run P f N I0 R ((s, dSlV v) :: g) M k) : Run P f N I0 R g M k := by
  constructor
  intro I a w b cs hb hk hl hsl hi
  refine h.go I a w b cs hb hk hl (slots_cast hsl I.le_refl hs (fun u hu => ⟨hu, ?_⟩)) hi
  rw [show u = v from hu]
  rcases row_cases (hi.perm hm.perm.1) with ⟨e, _⟩ | ⟨b, cap, cs, e, _⟩
  · exact ⟨_, _, _, e⟩
  · exact ⟨_, _, _, e⟩

theorem spec_freezeS {Ds : List D} {T n : Nat} {α : Type} {f' : α → List D} {xs : List α} {Min Mo : List Res} (h : Spec P f Ds Min (fun _ : Value => True) (fun v => dVal v) (fun v => rRow v T n f' xs :: Mo)) : Spec P f Ds Min (fun _ : Unit => True) (fun _ => dSl n f' xs) (fun _ => Mo) := by
  intro I M w vs hv hi
  refine (h I M w vs hv hi).mono ?_
  rintro e w' ⟨v, rfl, s, _, J, h1, h2, h3⟩
  obtain ⟨J', h4, h5, h6⟩ := row_freeze h3
  have hvs : v = s := h2
  subst hvs
  exact ⟨v, rfl, (), trivial, J', h1.trans h4, h5, h6⟩
theorem spec_freeze3 {Ds : List D} {T n : Nat} {α : Type} {f' : α → List D} {xs : List α} {d2 d3 : D} (h : Spec P f Ds [] (fun _ : Value => True) (fun v => dTup [dVal v, d2, d3]) (fun v => [rRow v T n f' xs])) : SpecP P f Ds (dTup [dSl n f' xs, d2, d3]) := by
  intro I M w vs hv hi
  refine (h I M w vs hv hi).mono ?_
  rintro e w' ⟨v, rfl, s, _, J, h1, ⟨cs, rfl, h2⟩, h3⟩
  obtain ⟨J', h4, h5, h6⟩ := row_freeze h3
  refine ⟨_, rfl, J', h1.trans h4, ⟨cs, rfl, ?_⟩, h6⟩
  match hc : cs.toList, h2 with
  | [v, v2, v3], ⟨e1, e2, e3, _⟩ =>
    have hvs : v = s := e1
    subst hvs
    exact ⟨h5, D.mono _ h4 e2, D.mono _ h4 e3, trivial⟩

/-- A row of handles that are nil. -/
theorem row_nilV {v : Value} {T m : Nat} {F : List Res} {I : Imm} {w : World} (h : Inv I (rRow v T 1 (fun u => [dVal u]) (List.replicate m (.slice none 0 0)) :: F) w) : Inv I (rRow v T 1 (fun u => [dSlV u]) (List.replicate m (.slice none 0 0)) :: F) w := by
  have hup : ∀ (J : Imm) (m : Nat) (cs : List Value), relL ((List.replicate m (Value.slice none 0 0)).flatMap fun u => [dVal u]) J cs → relL ((List.replicate m (Value.slice none 0 0)).flatMap fun u => [dSlV u]) J cs := by
    intro J m
    induction m with
    | zero => intro cs h; exact h
    | succ m ih =>
      intro cs h
      cases cs with
      | nil => exact h.elim
      | cons c cs => exact ⟨⟨h.1, _, _, _, h.1⟩, ih cs h.2⟩
  have hi := h
  refine ⟨h.os, h.tape, h.output, h.imm, fun r hr => ?_, h.apart⟩
  rcases List.mem_cons.1 hr with rfl | hr
  · rcases row_cases h with ⟨e, e2⟩ | ⟨b, cap, cs, e, h2, h3, h4, h5, h6, h7, h8⟩
    · subst e
      rw [e2]
      exact (nil_ok (inv_tail h)).own _ (List.mem_cons_self ..)
    · have h1 := h.own _ (List.mem_cons_self ..)
      subst e
      obtain ⟨g1, o, g2, g3⟩ := h1
      rw [h2] at g2
      injection g2 with g2
      subst g2
      exact ⟨g1, _, h2, b, cap, cs, rfl, rfl, h3, h4, h5, h6, fun x _ => rfl, hup _ _ _ h8⟩
  · exact h.own r (List.mem_cons_of_mem _ hr)

/-- A row of rows that the call owns, with all of its rows, becomes immutable; further results stay. -/
theorem spec_freezeRows3 {Ds : List D} {T T' : Nat} {xs : List (List Int)} {d2 d3 : D}
    (h : Spec P f Ds [] (fun s : Value × List (Value × List Int) => s.2.map (·.2) = xs) (fun s => dTup [dVal s.1, d2, d3]) (fun s => rRow s.1 T 1 (fun u => [dSlV u]) (s.2.map (·.1)) :: fam T' 1 (fun x => [dInt .i64 x]) s.2)) : SpecP P f Ds (dTup [dRows xs, d2, d3]) := by
  intro I M w vs hv hi
  refine (h I M w vs hv hi).mono ?_
  rintro e w' ⟨v, rfl, s, hs, J, h1, ⟨cs, rfl, h2⟩, h3⟩
  obtain ⟨J', h4, h5, h6⟩ := row_freeze h3
  obtain ⟨K, h7, h8, h9⟩ := rows_freeze s.2 h6
  refine ⟨_, rfl, K, (h1.trans h4).trans h7, ⟨cs, rfl, ?_⟩, h9⟩
  match hc : cs.toList, h2 with
  | [v, v2, v3], ⟨e1, e2, e3, _⟩ =>
    have hvs : v = s.1 := e1
    subst hvs
    refine ⟨?_, D.mono _ (h4.trans h7) e2, D.mono _ (h4.trans h7) e3, trivial⟩
    refine sl_up (by rw [← hs]; simp) (fun i x y hx hy => ⟨rfl, fun cs hr => ?_⟩) (D.mono _ h7 h5)
    rw [← hs] at hy
    rw [List.getElem?_map] at hx hy
    match hp : s.2[i]?, cs, hr with
    | some p, [u], hr =>
      rw [hp] at hx hy
      simp only [Option.map_some, Option.some.injEq] at hx hy
      subst hx; subst hy
      have := h8 p (List.mem_of_getElem? hp)
      rw [← show u = p.1 from hr.1.1] at this
      exact ⟨this, trivial⟩
    | none, _, _ => rw [hp] at hx; cases hx
end Go.Q
