/- Contracts of the library of slices. -/
import Derived.Test.YtmapjpdgjefnoaaQTypes
import Derived.Test.YtmapjpdgjefnoaaQOwn3
set_option linter.unusedVariables false
set_option linter.unusedSimpArgs false
namespace Go.Q
open Go.Proofs

open Classical
noncomputable abbrev bsF {α : Type} [Inhabited α] (cm : α → Int) (xs : List α) : Nat := bsGo (fun h => cm (xs[h]?.getD default) < 0) 0 xs.length
theorem mul64_spec (x y : Int) (hx : 0 ≤ x ∧ x < 4294967296) (hy : 0 ≤ y ∧ y < 4294967296) : SpecP Try.prog 100 [dInt .u64 x, dInt .u64 y] (dTup [dInt .u64 0, dInt .u64 (x * y)]) := by
  have hm := mul_bd hx.1 (show x ≤ 4294967295 by omega) hy.1 (show y ≤ 4294967295 by omega)
  refine specP_of_body Try.func100 rfl rfl (fun I M => ?_)
  refine run_seq ?_
  refine run_region ?_
  refine run_op (loc_assign rfl) rfl ?_
  refine run_op (loc_assign rfl) rfl ?_
  refine run_nil ?_
  refine run_seq ?_
  refine run_region ?_
  refine run_op (loc_move rfl) rfl ?_
  refine run_op (loc_mask32 rfl rfl (by first | omega | assumption)) rfl ?_
  refine runL_recast (s := 15) rfl (d_int (n := x) (by omega)) ?_
  refine run_op (loc_assign rfl) rfl ?_
  refine run_nil ?_
  refine run_seq ?_
  refine run_region ?_
  refine run_op (loc_move rfl) rfl ?_
  refine run_op (loc_shrN (c := 32) (q := 4294967296) rfl rfl rfl (by decide) (by first | omega | assumption) (by decide)) rfl ?_
  refine runL_recast (s := 17) rfl (d_int (n := 0) (by omega)) ?_
  refine run_op (loc_assign rfl) rfl ?_
  refine run_nil ?_
  refine run_seq ?_
  refine run_region ?_
  refine run_op (loc_move rfl) rfl ?_
  refine run_op (loc_mask32 rfl rfl (by first | omega | assumption)) rfl ?_
  refine runL_recast (s := 19) rfl (d_int (n := y) (by omega)) ?_
  refine run_op (loc_assign rfl) rfl ?_
  refine run_nil ?_
  refine run_seq ?_
  refine run_region ?_
  refine run_op (loc_move rfl) rfl ?_
  refine run_op (loc_shrN (c := 32) (q := 4294967296) rfl rfl rfl (by decide) (by first | omega | assumption) (by decide)) rfl ?_
  refine runL_recast (s := 21) rfl (d_int (n := 0) (by omega)) ?_
  refine run_op (loc_assign rfl) rfl ?_
  refine run_nil ?_
  refine run_seq ?_
  refine run_region ?_
  refine run_op (loc_move rfl) rfl ?_
  refine run_op (loc_move rfl) rfl ?_
  first | refine run_op (loc_mulU rfl rfl (by first | omega | assumption)) rfl ?_ | refine run_op (loc_mulW rfl rfl) rfl ?_
  refine run_op (loc_assign rfl) rfl ?_
  refine run_nil ?_
  refine run_seq ?_
  refine run_region ?_
  refine run_op (loc_move rfl) rfl ?_
  refine run_op (loc_move rfl) rfl ?_
  first | refine run_op (loc_mulU rfl rfl (by first | omega | assumption)) rfl ?_ | refine run_op (loc_mulW rfl rfl) rfl ?_
  refine run_op (loc_move rfl) rfl ?_
  refine run_op (loc_shrN (c := 32) (q := 4294967296) rfl rfl rfl (by decide) (by first | omega | assumption) (by decide)) rfl ?_
  first | refine run_op (loc_addU rfl rfl (by first | omega | assumption)) rfl ?_ | refine run_op (loc_addW rfl rfl) rfl ?_
  refine run_op (loc_assign rfl) rfl ?_
  refine run_nil ?_
  refine run_seq ?_
  refine run_region ?_
  refine run_op (loc_move rfl) rfl ?_
  refine run_op (loc_mask32 rfl rfl (by first | omega | assumption)) rfl ?_
  refine run_op (loc_assign rfl) rfl ?_
  refine run_nil ?_
  refine run_seq ?_
  refine run_region ?_
  refine run_op (loc_move rfl) rfl ?_
  refine run_op (loc_shrN (c := 32) (q := 4294967296) rfl rfl rfl (by decide) (by first | omega | assumption) (by decide)) rfl ?_
  refine run_op (loc_assign rfl) rfl ?_
  refine run_nil ?_
  refine run_seq ?_
  refine run_region ?_
  refine run_op (loc_move rfl) rfl ?_
  refine run_op (loc_move rfl) rfl ?_
  refine run_op (loc_move rfl) rfl ?_
  first | refine run_op (loc_mulU rfl rfl (by first | omega | assumption)) rfl ?_ | refine run_op (loc_mulW rfl rfl) rfl ?_
  first | refine run_op (loc_addU rfl rfl (by first | omega | assumption)) rfl ?_ | refine run_op (loc_addW rfl rfl) rfl ?_
  refine run_op (loc_assign rfl) rfl ?_
  refine run_nil ?_
  refine run_seq ?_
  refine run_region ?_
  refine run_op (loc_move rfl) rfl ?_
  refine run_op (loc_move rfl) rfl ?_
  first | refine run_op (loc_mulU rfl rfl (by first | omega | assumption)) rfl ?_ | refine run_op (loc_mulW rfl rfl) rfl ?_
  refine run_op (loc_move rfl) rfl ?_
  first | refine run_op (loc_addU rfl rfl (by first | omega | assumption)) rfl ?_ | refine run_op (loc_addW rfl rfl) rfl ?_
  refine run_op (loc_move rfl) rfl ?_
  refine run_op (loc_shrN (c := 32) (q := 4294967296) rfl rfl rfl (by decide) (by first | omega | assumption) (by decide)) rfl ?_
  first | refine run_op (loc_addU rfl rfl (by first | omega | assumption)) rfl ?_ | refine run_op (loc_addW rfl rfl) rfl ?_
  refine run_op (loc_assign rfl) rfl ?_
  refine run_nil ?_
  refine run_seq ?_
  refine run_region ?_
  refine run_op (loc_move rfl) rfl ?_
  refine run_op (loc_move rfl) rfl ?_
  first | refine run_op (loc_mulU rfl rfl (by first | omega | assumption)) rfl ?_ | refine run_op (loc_mulW rfl rfl) rfl ?_
  refine run_op (loc_assign rfl) rfl ?_
  refine run_nil ?_
  refine run_ret2P Try.func100 rfl rfl rfl ?_
  exact d_tup2 (d_int (by omega)) (fun _ _ h => h)

theorem mul_spec (x y : Int) (hx : 0 ≤ x ∧ x < 4294967296) (hy : 0 ≤ y ∧ y < 4294967296) : SpecP Try.prog 95 [dInt .u64 x, dInt .u64 y] (dTup [dInt .u64 0, dInt .u64 (x * y)]) := by
  refine specP_of_body Try.func95 rfl rfl (fun I M => ?_)
  refine run_seq ?_
  refine run_region ?_
  refine run_op (loc_assign rfl) rfl ?_
  refine run_op (loc_assign rfl) rfl ?_
  refine run_nil ?_
  refine run_seq ?_
  refine run_cond rfl (fun h1 => ?_) (fun h1 => ?_)
  · exfalso; exact h1
  ·
    refine run_skip ?_
    refine run_seq ?_
    refine run_region ?_
    refine run_op (loc_move rfl) rfl ?_
    refine run_op (loc_move rfl) rfl ?_
    refine run_op (loc_call (mul64_spec _ _ hx hy) rfl) rfl ?_
    refine run_op (loc_move rfl) rfl ?_
    refine run_op (loc_extract rfl rfl) rfl ?_
    refine run_op (loc_extract rfl rfl) rfl ?_
    refine run_op (loc_assign rfl) rfl ?_
    refine run_op (loc_assign rfl) rfl ?_
    refine run_nil ?_
    refine run_seq ?_
    refine run_region ?_
    refine run_op (loc_move rfl) rfl ?_
    refine run_op (loc_move rfl) rfl ?_
    refine run_op (loc_assign rfl) rfl ?_
    refine run_op (loc_assign rfl) rfl ?_
    refine run_nil ?_
    refine run_ret2P Try.func95 rfl rfl rfl ?_
    exact fun _ _ h => h

theorem clonePnM_spec (xs : List (Pn)) (hb : xs.length * 16 ≤ 140737488355328) : Spec Try.prog 75 [dSl 2 cPn xs] [] (σ := Value) (fun _ => True) (fun v => dVal v) (fun v => [rRow v 46 2 cPn xs]) := by
  refine spec_of_body Try.func75 rfl rfl (fun I F => ?_)
  refine run_seq ?_
  refine run_fact (s := 0) rfl (fun _ _ h => dSl_len h) (fun hlen => ?_)
  refine run_region ?_
  refine run_op (loc_assign rfl) rfl ?_
  refine run_nil ?_
  refine run_seq ?_
  refine run_seq ?_
  refine run_region ?_
  refine run_op (loc_move rfl) rfl ?_
  refine run_ex (loc_eqlNil rfl) rfl (fun e1 he1 => ?_)
  refine run_nil ?_
  refine run_cond rfl (fun h2 => ?_) (fun h2 => ?_)
  ·
    refine run_seq ?_
    refine run_region ?_
    refine run_op (loc_assign rfl) rfl ?_
    refine run_nil ?_
    refine run_ret (.slice none 0 0) Try.func75 rfl rfl ?_ (trivial) (fun _ _ h => by rw [he1 (by assumption)]; exact nil_ok h)
    exact fun _ _ h => h
  ·
    refine run_skip ?_
    refine run_seq ?_
    refine run_region ?_
    refine run_new (loc_build0 cPn) rfl (fun b3 _ => ?_)
    refine run_op (loc_move rfl) rfl ?_
    refine run_append rfl (by first | exact .here | exact .there .here | exact .there (.there .here) | exact .there (.there (.there .here)) | exact .there (.there (.there (.there .here))) | exact .there (.there (.there (.there (.there .here))))) rfl (by rfl) (by first | omega | (unfold lenMax; omega) | assumption | (simp; omega) | (simp [lenMax]; omega)) (by first | omega | (unfold lenMax; omega) | assumption | (simp; omega) | (simp [lenMax]; omega)) rfl (fun v4 => ?_)
    refine run_op (loc_assign rfl) rfl ?_
    refine run_nil ?_
    refine run_ret (v4) Try.func75 rfl rfl ?_ (trivial) (fun _ _ h => h)
    exact fun _ _ h => h

theorem clonePn_spec (xs : List (Pn)) (hb : xs.length * 16 ≤ 140737488355328) : SpecP Try.prog 75 [dSl 2 cPn xs] (dSl 2 cPn xs) := spec_freeze (clonePnM_spec xs hb)
theorem cloneIM_spec (xs : List (Int)) (hb : xs.length * 8 ≤ 140737488355328) : Spec Try.prog 76 [dSl 1 fI xs] [] (σ := Value) (fun _ => True) (fun v => dVal v) (fun v => [rRow v 3 1 fI xs]) := by
  refine spec_of_body Try.func76 rfl rfl (fun I F => ?_)
  refine run_seq ?_
  refine run_fact (s := 0) rfl (fun _ _ h => dSl_len h) (fun hlen => ?_)
  refine run_region ?_
  refine run_op (loc_assign rfl) rfl ?_
  refine run_nil ?_
  refine run_seq ?_
  refine run_seq ?_
  refine run_region ?_
  refine run_op (loc_move rfl) rfl ?_
  refine run_ex (loc_eqlNil rfl) rfl (fun e1 he1 => ?_)
  refine run_nil ?_
  refine run_cond rfl (fun h2 => ?_) (fun h2 => ?_)
  ·
    refine run_seq ?_
    refine run_region ?_
    refine run_op (loc_assign rfl) rfl ?_
    refine run_nil ?_
    refine run_ret (.slice none 0 0) Try.func76 rfl rfl ?_ (trivial) (fun _ _ h => by rw [he1 (by assumption)]; exact nil_ok h)
    exact fun _ _ h => h
  ·
    refine run_skip ?_
    refine run_seq ?_
    refine run_region ?_
    refine run_new (loc_build0 fI) rfl (fun b3 _ => ?_)
    refine run_op (loc_move rfl) rfl ?_
    refine run_append rfl (by first | exact .here | exact .there .here | exact .there (.there .here) | exact .there (.there (.there .here)) | exact .there (.there (.there (.there .here))) | exact .there (.there (.there (.there (.there .here))))) rfl (by rfl) (by first | omega | (unfold lenMax; omega) | assumption | (simp; omega) | (simp [lenMax]; omega)) (by first | omega | (unfold lenMax; omega) | assumption | (simp; omega) | (simp [lenMax]; omega)) rfl (fun v4 => ?_)
    refine run_op (loc_assign rfl) rfl ?_
    refine run_nil ?_
    refine run_ret (v4) Try.func76 rfl rfl ?_ (trivial) (fun _ _ h => h)
    exact fun _ _ h => h

theorem cloneI_spec (xs : List (Int)) (hb : xs.length * 8 ≤ 140737488355328) : SpecP Try.prog 76 [dSl 1 fI xs] (dSl 1 fI xs) := spec_freeze (cloneIM_spec xs hb)
theorem cloneStM_spec (xs : List (Strt)) (hb : xs.length * 40 ≤ 140737488355328) : Spec Try.prog 84 [dSl 5 cStrt xs] [] (σ := Value) (fun _ => True) (fun v => dVal v) (fun v => [rRow v 68 5 cStrt xs]) := by
  refine spec_of_body Try.func84 rfl rfl (fun I F => ?_)
  refine run_seq ?_
  refine run_fact (s := 0) rfl (fun _ _ h => dSl_len h) (fun hlen => ?_)
  refine run_region ?_
  refine run_op (loc_assign rfl) rfl ?_
  refine run_nil ?_
  refine run_seq ?_
  refine run_seq ?_
  refine run_region ?_
  refine run_op (loc_move rfl) rfl ?_
  refine run_ex (loc_eqlNil rfl) rfl (fun e1 he1 => ?_)
  refine run_nil ?_
  refine run_cond rfl (fun h2 => ?_) (fun h2 => ?_)
  ·
    refine run_seq ?_
    refine run_region ?_
    refine run_op (loc_assign rfl) rfl ?_
    refine run_nil ?_
    refine run_ret (.slice none 0 0) Try.func84 rfl rfl ?_ (trivial) (fun _ _ h => by rw [he1 (by assumption)]; exact nil_ok h)
    exact fun _ _ h => h
  ·
    refine run_skip ?_
    refine run_seq ?_
    refine run_region ?_
    refine run_new (loc_build0 cStrt) rfl (fun b3 _ => ?_)
    refine run_op (loc_move rfl) rfl ?_
    refine run_append rfl (by first | exact .here | exact .there .here | exact .there (.there .here) | exact .there (.there (.there .here)) | exact .there (.there (.there (.there .here))) | exact .there (.there (.there (.there (.there .here))))) rfl (by rfl) (by first | omega | (unfold lenMax; omega) | assumption | (simp; omega) | (simp [lenMax]; omega)) (by first | omega | (unfold lenMax; omega) | assumption | (simp; omega) | (simp [lenMax]; omega)) rfl (fun v4 => ?_)
    refine run_op (loc_assign rfl) rfl ?_
    refine run_nil ?_
    refine run_ret (v4) Try.func84 rfl rfl ?_ (trivial) (fun _ _ h => h)
    exact fun _ _ h => h

theorem cloneSt_spec (xs : List (Strt)) (hb : xs.length * 40 ≤ 140737488355328) : SpecP Try.prog 84 [dSl 5 cStrt xs] (dSl 5 cStrt xs) := spec_freeze (cloneStM_spec xs hb)
theorem equalPn_spec (xs ys : List (Pn)) : SpecP Try.prog 66 [dSl 2 cPn xs, dSl 2 cPn ys] (dB (xs = ys)) := by
  refine specP_of_body Try.func66 rfl rfl (fun I M => ?_)
  refine run_seq ?_
  refine run_region ?_
  refine run_op (loc_assign rfl) rfl ?_
  refine run_nil ?_
  refine run_seq ?_
  refine run_seq ?_
  refine run_region ?_
  refine run_op (loc_move rfl) rfl ?_
  first | refine runL_fact (s := 6) rfl (fun _ _ h => dSl_len h) (fun hlen1 => ?_) | skip
  refine run_op (loc_len rfl) rfl ?_
  refine run_op (loc_move rfl) rfl ?_
  first | refine runL_fact (s := 8) rfl (fun _ _ h => dSl_len h) (fun hlen2 => ?_) | skip
  refine run_op (loc_len rfl) rfl ?_
  refine run_op (loc_neq rfl rfl) rfl ?_
  refine run_nil ?_
  refine run_cond rfl (fun h3 => ?_) (fun h3 => ?_)
  ·
    refine run_seq ?_
    refine run_region ?_
    refine run_op (loc_assign rfl) rfl ?_
    refine run_nil ?_
    refine run_retP Try.func66 rfl rfl ?_
    exact d_B ⟨False.elim, fun h => by subst h; omega⟩
  ·
    refine run_skip ?_
    refine run_seq ?_
    refine run_seq ?_
    refine run_region ?_
    refine run_op (loc_move rfl) rfl ?_
    first | refine runL_fact (s := 11) rfl (fun _ _ h => dSl_len h) (fun hlen4 => ?_) | skip
    refine run_op (loc_len rfl) rfl ?_
    refine run_op (loc_move rfl) rfl ?_
    refine run_nil ?_
    refine run_block ?_
    refine run_loopC (σ := Nat) (ks := [0, 1, 12]) (.cons rfl (.cons rfl (.cons rfl (.nil)))) (fun k => [(13, dInt .i64 (k : Nat))]) (fun k => k ≤ xs.length ∧ (∀ j, j < k → xs[j]?.getD default = ys[j]?.getD default)) (fun k => xs.length - k) (0) (⟨by omega, fun j hj => by omega⟩) (.cons rfl (by first | exact fun _ _ h => h | exact d_int (by omega) | exact d_int (by simp) | exact d_intN (by omega) | exact d_any) .nil) ?_
    rintro k ⟨hk, hbk⟩ ih5
    refine run_seq ?_
    refine run_region ?_
    refine run_op (loc_lss rfl rfl) rfl ?_
    refine run_nil ?_
    refine run_seq ?_
    refine run_cond rfl (fun h6 => ?_) (fun h6 => ?_)
    ·
      refine run_skip ?_
      refine run_seq ?_
      refine run_block ?_
      refine run_seq ?_
      refine run_region ?_
      refine run_op (loc_move rfl) rfl ?_
      refine run_op (loc_assign rfl) rfl ?_
      refine run_nil ?_
      refine run_seq ?_
      refine dr_start _ (.none) [⟨[(0, none)], [], none⟩,
          ⟨[(5, none)], [], none⟩,
          ⟨[(16, some (0, false)), (17, some (1, false))], [0, 1], none⟩,
          ⟨[(18, some (2, false))], [0, 1, 2], none⟩,
          ⟨[(1, none)], [], none⟩,
          ⟨[(5, none)], [], none⟩,
          ⟨[(20, some (4, false)), (21, some (5, false))], [4, 5], none⟩,
          ⟨[(22, some (6, false))], [4, 5, 6], none⟩,
          ⟨[(19, some (3, false)), (23, some (7, false))], [0, 1, 2, 3, 4, 5, 6, 7], none⟩] [] _ rfl rfl ?_
      refine dq_pure rfl (fun s => .g rfl (.nil)) (fun s hs _ => loc_move rfl) (by exact .nil) ?_
      refine dq_pure rfl (fun s => .g rfl (.nil)) (fun s hs _ => loc_move rfl) (by exact .nil) ?_
      first | refine dq_pure rfl (fun s => .op rfl (.op rfl (.nil))) (fun s hs _ => loc_index rfl rfl (by first | omega | assumption)) (by exact .nil) ?_ | refine dq_pure rfl (fun s => .op rfl (.op rfl (.nil))) (fun s hs _ => loc_indexI rfl rfl (by first | omega | assumption)) (by exact .nil) ?_
      refine dq_pure rfl (fun s => .op rfl (.nil)) (fun s hs _ => loc_loadN rfl rfl) (by exact .nil) ?_
      refine dq_pure rfl (fun s => .g rfl (.nil)) (fun s hs _ => loc_move rfl) (by exact .nil) ?_
      refine dq_pure rfl (fun s => .g rfl (.nil)) (fun s hs _ => loc_move rfl) (by exact .nil) ?_
      first | refine dq_pure rfl (fun s => .op rfl (.op rfl (.nil))) (fun s hs _ => loc_index rfl rfl (by first | omega | assumption)) (by exact .nil) ?_ | refine dq_pure rfl (fun s => .op rfl (.op rfl (.nil))) (fun s hs _ => loc_indexI rfl rfl (by first | omega | assumption)) (by exact .nil) ?_
      refine dq_pure rfl (fun s => .op rfl (.nil)) (fun s hs _ => loc_loadN rfl rfl) (by exact .nil) ?_
      refine dq_pure rfl (fun s => .op rfl (.op rfl (.nil))) (fun s hs _ => loc_neqI rfl rfl (.cons (.cons (.nil))) rfl) (by exact .nil) ?_
      refine dq_end (rs := []) () rfl (fun _ => rfl) (.nil) rfl (fun _ _ => ?_)
      dsimp only [outG, outM, List.map, List.set, id]
      refine run_cond rfl (fun h7 => ?_) (fun h7 => ?_)
      ·
        have hne : ¬ xs[k]?.getD default = ys[k]?.getD default := fun e => by rw [e] at h7; simp at h7
        refine run_seq ?_
        refine run_region ?_
        refine run_op (loc_assign rfl) rfl ?_
        refine run_nil ?_
        refine run_retP Try.func66 rfl rfl ?_
        exact d_B ⟨False.elim, fun h => by subst h; contradiction⟩
      ·
        have heq : xs[k]?.getD default = ys[k]?.getD default := Pn.ext' (by simp_all) (by simp_all)
        refine run_skip ?_
        refine run_inBlock ?_
        refine run_region ?_
        first | refine run_op (loc_add rfl rfl (by first | omega | assumption)) rfl ?_ | refine run_op (loc_addW rfl rfl) rfl ?_
        refine run_op (loc_move rfl) rfl ?_
        refine run_nil ?_
        exact run_againC ih5 (k + 1) (⟨by omega, fun j hj => by by_cases e : j = k; (· subst e; exact heq); (· exact hbk j (by omega))⟩) (by omega) (.cons rfl (by first | exact fun _ _ h => h | exact d_int (by omega) | exact d_int (by simp) | exact d_intN (by omega) | exact d_any) .nil) (.cons rfl (fun _ _ x => x) (.cons rfl (fun _ _ x => x) (.cons rfl (fun _ _ x => x) (.nil))))
    ·
      refine run_exit rfl ?_
      refine run_seq ?_
      refine run_region ?_
      refine run_op (loc_assign rfl) rfl ?_
      refine run_nil ?_
      refine run_retP Try.func66 rfl rfl ?_
      exact d_B ⟨fun _ => list_extD (by omega) (fun j hj => hbk j (by omega)), fun _ => trivial⟩

theorem equalI_spec (xs ys : List (Int)) : SpecP Try.prog 67 [dSl 1 fI xs, dSl 1 fI ys] (dB (xs = ys)) := by
  refine specP_of_body Try.func67 rfl rfl (fun I M => ?_)
  refine run_seq ?_
  refine run_region ?_
  refine run_op (loc_assign rfl) rfl ?_
  refine run_nil ?_
  refine run_seq ?_
  refine run_seq ?_
  refine run_region ?_
  refine run_op (loc_move rfl) rfl ?_
  first | refine runL_fact (s := 6) rfl (fun _ _ h => dSl_len h) (fun hlen1 => ?_) | skip
  refine run_op (loc_len rfl) rfl ?_
  refine run_op (loc_move rfl) rfl ?_
  first | refine runL_fact (s := 8) rfl (fun _ _ h => dSl_len h) (fun hlen2 => ?_) | skip
  refine run_op (loc_len rfl) rfl ?_
  refine run_op (loc_neq rfl rfl) rfl ?_
  refine run_nil ?_
  refine run_cond rfl (fun h3 => ?_) (fun h3 => ?_)
  ·
    refine run_seq ?_
    refine run_region ?_
    refine run_op (loc_assign rfl) rfl ?_
    refine run_nil ?_
    refine run_retP Try.func67 rfl rfl ?_
    exact d_B ⟨False.elim, fun h => by subst h; omega⟩
  ·
    refine run_skip ?_
    refine run_seq ?_
    refine run_seq ?_
    refine run_region ?_
    refine run_op (loc_move rfl) rfl ?_
    first | refine runL_fact (s := 11) rfl (fun _ _ h => dSl_len h) (fun hlen4 => ?_) | skip
    refine run_op (loc_len rfl) rfl ?_
    refine run_op (loc_move rfl) rfl ?_
    refine run_nil ?_
    refine run_block ?_
    refine run_loopC (σ := Nat) (ks := [0, 1, 12]) (.cons rfl (.cons rfl (.cons rfl (.nil)))) (fun k => [(13, dInt .i64 (k : Nat))]) (fun k => k ≤ xs.length ∧ (∀ j, j < k → xs[j]?.getD default = ys[j]?.getD default)) (fun k => xs.length - k) (0) (⟨by omega, fun j hj => by omega⟩) (.cons rfl (by first | exact fun _ _ h => h | exact d_int (by omega) | exact d_int (by simp) | exact d_intN (by omega) | exact d_any) .nil) ?_
    rintro k ⟨hk, hbk⟩ ih5
    refine run_seq ?_
    refine run_region ?_
    refine run_op (loc_lss rfl rfl) rfl ?_
    refine run_nil ?_
    refine run_seq ?_
    refine run_cond rfl (fun h6 => ?_) (fun h6 => ?_)
    ·
      refine run_skip ?_
      refine run_seq ?_
      refine run_block ?_
      refine run_seq ?_
      refine run_region ?_
      refine run_op (loc_move rfl) rfl ?_
      refine run_op (loc_assign rfl) rfl ?_
      refine run_nil ?_
      refine run_seq ?_
      refine dr_start _ (.none) [⟨[(0, none)], [], none⟩,
          ⟨[(5, none)], [], none⟩,
          ⟨[(16, some (0, false)), (17, some (1, false))], [0, 1], none⟩,
          ⟨[(18, some (2, false))], [0, 1, 2], none⟩,
          ⟨[(1, none)], [], none⟩,
          ⟨[(5, none)], [], none⟩,
          ⟨[(20, some (4, false)), (21, some (5, false))], [4, 5], none⟩,
          ⟨[(22, some (6, false))], [4, 5, 6], none⟩,
          ⟨[(19, some (3, false)), (23, some (7, false))], [0, 1, 2, 3, 4, 5, 6, 7], none⟩] [] _ rfl rfl ?_
      refine dq_pure rfl (fun s => .g rfl (.nil)) (fun s hs _ => loc_move rfl) (by exact .nil) ?_
      refine dq_pure rfl (fun s => .g rfl (.nil)) (fun s hs _ => loc_move rfl) (by exact .nil) ?_
      first | refine dq_pure rfl (fun s => .op rfl (.op rfl (.nil))) (fun s hs _ => loc_index rfl rfl (by first | omega | assumption)) (by exact .nil) ?_ | refine dq_pure rfl (fun s => .op rfl (.op rfl (.nil))) (fun s hs _ => loc_indexI rfl rfl (by first | omega | assumption)) (by exact .nil) ?_
      refine dq_pure rfl (fun s => .op rfl (.nil)) (fun s hs _ => loc_load1 rfl) (by exact .nil) ?_
      refine dq_pure rfl (fun s => .g rfl (.nil)) (fun s hs _ => loc_move rfl) (by exact .nil) ?_
      refine dq_pure rfl (fun s => .g rfl (.nil)) (fun s hs _ => loc_move rfl) (by exact .nil) ?_
      first | refine dq_pure rfl (fun s => .op rfl (.op rfl (.nil))) (fun s hs _ => loc_index rfl rfl (by first | omega | assumption)) (by exact .nil) ?_ | refine dq_pure rfl (fun s => .op rfl (.op rfl (.nil))) (fun s hs _ => loc_indexI rfl rfl (by first | omega | assumption)) (by exact .nil) ?_
      refine dq_pure rfl (fun s => .op rfl (.nil)) (fun s hs _ => loc_load1 rfl) (by exact .nil) ?_
      refine dq_pure rfl (fun s => .op rfl (.op rfl (.nil))) (fun s hs _ => loc_neq rfl rfl) (by exact .nil) ?_
      refine dq_end (rs := []) () rfl (fun _ => rfl) (.nil) rfl (fun _ _ => ?_)
      dsimp only [outG, outM, List.map, List.set, id]
      refine run_cond rfl (fun h7 => ?_) (fun h7 => ?_)
      ·
        have hne : ¬ xs[k]?.getD default = ys[k]?.getD default := fun e => by rw [e] at h7; simp at h7
        refine run_seq ?_
        refine run_region ?_
        refine run_op (loc_assign rfl) rfl ?_
        refine run_nil ?_
        refine run_retP Try.func67 rfl rfl ?_
        exact d_B ⟨False.elim, fun h => by subst h; contradiction⟩
      ·
        have heq : xs[k]?.getD default = ys[k]?.getD default := Classical.not_not.1 h7
        refine run_skip ?_
        refine run_inBlock ?_
        refine run_region ?_
        first | refine run_op (loc_add rfl rfl (by first | omega | assumption)) rfl ?_ | refine run_op (loc_addW rfl rfl) rfl ?_
        refine run_op (loc_move rfl) rfl ?_
        refine run_nil ?_
        exact run_againC ih5 (k + 1) (⟨by omega, fun j hj => by by_cases e : j = k; (· subst e; exact heq); (· exact hbk j (by omega))⟩) (by omega) (.cons rfl (by first | exact fun _ _ h => h | exact d_int (by omega) | exact d_int (by simp) | exact d_intN (by omega) | exact d_any) .nil) (.cons rfl (fun _ _ x => x) (.cons rfl (fun _ _ x => x) (.cons rfl (fun _ _ x => x) (.nil))))
    ·
      refine run_exit rfl ?_
      refine run_seq ?_
      refine run_region ?_
      refine run_op (loc_assign rfl) rfl ?_
      refine run_nil ?_
      refine run_retP Try.func67 rfl rfl ?_
      exact d_B ⟨fun _ => list_extD (by omega) (fun j hj => hbk j (by omega)), fun _ => trivial⟩

theorem equalSt_spec (xs ys : List (Strt)) : SpecP Try.prog 72 [dSl 5 cStrt xs, dSl 5 cStrt ys] (dB (xs = ys)) := by
  refine specP_of_body Try.func72 rfl rfl (fun I M => ?_)
  refine run_seq ?_
  refine run_region ?_
  refine run_op (loc_assign rfl) rfl ?_
  refine run_nil ?_
  refine run_seq ?_
  refine run_seq ?_
  refine run_region ?_
  refine run_op (loc_move rfl) rfl ?_
  first | refine runL_fact (s := 6) rfl (fun _ _ h => dSl_len h) (fun hlen1 => ?_) | skip
  refine run_op (loc_len rfl) rfl ?_
  refine run_op (loc_move rfl) rfl ?_
  first | refine runL_fact (s := 8) rfl (fun _ _ h => dSl_len h) (fun hlen2 => ?_) | skip
  refine run_op (loc_len rfl) rfl ?_
  refine run_op (loc_neq rfl rfl) rfl ?_
  refine run_nil ?_
  refine run_cond rfl (fun h3 => ?_) (fun h3 => ?_)
  ·
    refine run_seq ?_
    refine run_region ?_
    refine run_op (loc_assign rfl) rfl ?_
    refine run_nil ?_
    refine run_retP Try.func72 rfl rfl ?_
    exact d_B ⟨False.elim, fun h => by subst h; omega⟩
  ·
    refine run_skip ?_
    refine run_seq ?_
    refine run_seq ?_
    refine run_region ?_
    refine run_op (loc_move rfl) rfl ?_
    first | refine runL_fact (s := 11) rfl (fun _ _ h => dSl_len h) (fun hlen4 => ?_) | skip
    refine run_op (loc_len rfl) rfl ?_
    refine run_op (loc_move rfl) rfl ?_
    refine run_nil ?_
    refine run_block ?_
    refine run_loopC (σ := Nat) (ks := [0, 1, 12]) (.cons rfl (.cons rfl (.cons rfl (.nil)))) (fun k => [(13, dInt .i64 (k : Nat))]) (fun k => k ≤ xs.length ∧ (∀ j, j < k → xs[j]?.getD default = ys[j]?.getD default)) (fun k => xs.length - k) (0) (⟨by omega, fun j hj => by omega⟩) (.cons rfl (by first | exact fun _ _ h => h | exact d_int (by omega) | exact d_int (by simp) | exact d_intN (by omega) | exact d_any) .nil) ?_
    rintro k ⟨hk, hbk⟩ ih5
    refine run_seq ?_
    refine run_region ?_
    refine run_op (loc_lss rfl rfl) rfl ?_
    refine run_nil ?_
    refine run_seq ?_
    refine run_cond rfl (fun h6 => ?_) (fun h6 => ?_)
    ·
      refine run_skip ?_
      refine run_seq ?_
      refine run_block ?_
      refine run_seq ?_
      refine run_region ?_
      refine run_op (loc_move rfl) rfl ?_
      refine run_op (loc_assign rfl) rfl ?_
      refine run_nil ?_
      refine run_seq ?_
      refine dr_start _ (.none) [⟨[(0, none)], [], none⟩,
          ⟨[(5, none)], [], none⟩,
          ⟨[(16, some (0, false)), (17, some (1, false))], [0, 1], none⟩,
          ⟨[(18, some (2, false))], [0, 1, 2], none⟩,
          ⟨[(1, none)], [], none⟩,
          ⟨[(5, none)], [], none⟩,
          ⟨[(20, some (4, false)), (21, some (5, false))], [4, 5], none⟩,
          ⟨[(22, some (6, false))], [4, 5, 6], none⟩,
          ⟨[(19, some (3, false)), (23, some (7, false))], [0, 1, 2, 3, 4, 5, 6, 7], none⟩] [] _ rfl rfl ?_
      refine dq_pure rfl (fun s => .g rfl (.nil)) (fun s hs _ => loc_move rfl) (by exact .nil) ?_
      refine dq_pure rfl (fun s => .g rfl (.nil)) (fun s hs _ => loc_move rfl) (by exact .nil) ?_
      first | refine dq_pure rfl (fun s => .op rfl (.op rfl (.nil))) (fun s hs _ => loc_index rfl rfl (by first | omega | assumption)) (by exact .nil) ?_ | refine dq_pure rfl (fun s => .op rfl (.op rfl (.nil))) (fun s hs _ => loc_indexI rfl rfl (by first | omega | assumption)) (by exact .nil) ?_
      refine dq_pure rfl (fun s => .op rfl (.nil)) (fun s hs _ => loc_loadN rfl rfl) (by exact .nil) ?_
      refine dq_pure rfl (fun s => .g rfl (.nil)) (fun s hs _ => loc_move rfl) (by exact .nil) ?_
      refine dq_pure rfl (fun s => .g rfl (.nil)) (fun s hs _ => loc_move rfl) (by exact .nil) ?_
      first | refine dq_pure rfl (fun s => .op rfl (.op rfl (.nil))) (fun s hs _ => loc_index rfl rfl (by first | omega | assumption)) (by exact .nil) ?_ | refine dq_pure rfl (fun s => .op rfl (.op rfl (.nil))) (fun s hs _ => loc_indexI rfl rfl (by first | omega | assumption)) (by exact .nil) ?_
      refine dq_pure rfl (fun s => .op rfl (.nil)) (fun s hs _ => loc_loadN rfl rfl) (by exact .nil) ?_
      refine dq_pure rfl (fun s => .op rfl (.op rfl (.nil))) (fun s hs _ => loc_neqI rfl rfl (.cons (.cons (.cons (.cons (.cons (.nil)))))) rfl) (by exact .nil) ?_
      refine dq_end (rs := []) () rfl (fun _ => rfl) (.nil) rfl (fun _ _ => ?_)
      dsimp only [outG, outM, List.map, List.set, id]
      refine run_cond rfl (fun h7 => ?_) (fun h7 => ?_)
      ·
        have hne : ¬ xs[k]?.getD default = ys[k]?.getD default := fun e => by rw [e] at h7; simp at h7
        refine run_seq ?_
        refine run_region ?_
        refine run_op (loc_assign rfl) rfl ?_
        refine run_nil ?_
        refine run_retP Try.func72 rfl rfl ?_
        exact d_B ⟨False.elim, fun h => by subst h; contradiction⟩
      ·
        have heq : xs[k]?.getD default = ys[k]?.getD default := Strt.ext' (by simp_all) (by simp_all) (by simp_all) (by simp_all) (by simp_all)
        refine run_skip ?_
        refine run_inBlock ?_
        refine run_region ?_
        first | refine run_op (loc_add rfl rfl (by first | omega | assumption)) rfl ?_ | refine run_op (loc_addW rfl rfl) rfl ?_
        refine run_op (loc_move rfl) rfl ?_
        refine run_nil ?_
        exact run_againC ih5 (k + 1) (⟨by omega, fun j hj => by by_cases e : j = k; (· subst e; exact heq); (· exact hbk j (by omega))⟩) (by omega) (.cons rfl (by first | exact fun _ _ h => h | exact d_int (by omega) | exact d_int (by simp) | exact d_intN (by omega) | exact d_any) .nil) (.cons rfl (fun _ _ x => x) (.cons rfl (fun _ _ x => x) (.cons rfl (fun _ _ x => x) (.nil))))
    ·
      refine run_exit rfl ?_
      refine run_seq ?_
      refine run_region ?_
      refine run_op (loc_assign rfl) rfl ?_
      refine run_nil ?_
      refine run_retP Try.func72 rfl rfl ?_
      exact d_B ⟨fun _ => list_extD (by omega) (fun j hj => hbk j (by omega)), fun _ => trivial⟩

theorem indexFuncI_spec (q : Int → Prop) (xs : List (Int)) : SpecP Try.prog 82 [dSl 1 fI xs, dFun Try.prog (fun x : Int => [dInt .i64 x]) (fun x => dB (q x))] (dInt .i64 (idxP q xs)) := by
  refine specP_of_body Try.func82 rfl rfl (fun I M => ?_)
  refine run_seq ?_
  refine run_region ?_
  refine run_op (loc_assign rfl) rfl ?_
  refine run_nil ?_
  refine run_seq ?_
  refine run_seq ?_
  refine run_region ?_
  refine run_op (loc_move rfl) rfl ?_
  first | refine runL_fact (s := 6) rfl (fun _ _ h => dSl_len h) (fun hlen1 => ?_) | skip
  refine run_op (loc_len rfl) rfl ?_
  refine run_op (loc_move rfl) rfl ?_
  refine run_nil ?_
  refine run_block ?_
  refine run_loopC (σ := Nat) (ks := [0, 1, 7]) (.cons rfl (.cons rfl (.cons rfl (.nil)))) (fun k => [(8, dInt .i64 (k : Nat))]) (fun k => k ≤ xs.length ∧ (∀ j, j < k → ¬ q (xs[j]?.getD default))) (fun k => xs.length - k) (0) (⟨by omega, fun j hj => by omega⟩) (.cons rfl (by first | exact fun _ _ h => h | exact d_int (by omega) | exact d_int (by simp) | exact d_intN (by omega) | exact d_any) .nil) ?_
  rintro k ⟨hk, hbk⟩ ih2
  refine run_seq ?_
  refine run_region ?_
  refine run_op (loc_lss rfl rfl) rfl ?_
  refine run_nil ?_
  refine run_seq ?_
  refine run_cond rfl (fun h3 => ?_) (fun h3 => ?_)
  ·
    refine run_skip ?_
    refine run_seq ?_
    refine run_block ?_
    refine run_seq ?_
    refine run_region ?_
    refine run_op (loc_move rfl) rfl ?_
    refine run_op (loc_assign rfl) rfl ?_
    refine run_nil ?_
    refine run_seq ?_
    refine run_region ?_
    refine run_op (loc_move rfl) rfl ?_
    refine run_op (loc_move rfl) rfl ?_
    refine run_op (loc_move rfl) rfl ?_
    first | refine run_op (loc_index rfl rfl (by first | omega | assumption)) rfl ?_ | refine run_op (loc_indexI rfl rfl (by first | omega | assumption)) rfl ?_
    refine run_op (loc_load1 rfl) rfl ?_
    refine run_op (loc_callFun (xs[k]?.getD default) rfl rfl) rfl ?_
    refine run_nil ?_
    refine run_cond rfl (fun h4 => ?_) (fun h4 => ?_)
    ·
      refine run_seq ?_
      refine run_region ?_
      refine run_op (loc_move rfl) rfl ?_
      refine run_op (loc_assign rfl) rfl ?_
      refine run_nil ?_
      refine run_retP Try.func82 rfl rfl ?_
      exact d_int (idxP_at (by omega) hbk (by assumption)).symm
    ·
      refine run_skip ?_
      refine run_inBlock ?_
      refine run_region ?_
      first | refine run_op (loc_add rfl rfl (by first | omega | assumption)) rfl ?_ | refine run_op (loc_addW rfl rfl) rfl ?_
      refine run_op (loc_move rfl) rfl ?_
      refine run_nil ?_
      exact run_againC ih2 (k + 1) (⟨by omega, fun j hj => by by_cases e : j = k; (· subst e; assumption); (· exact hbk j (by omega))⟩) (by omega) (.cons rfl (by first | exact fun _ _ h => h | exact d_int (by omega) | exact d_int (by simp) | exact d_intN (by omega) | exact d_any) .nil) (.cons rfl (fun _ _ x => x) (.cons rfl (fun _ _ x => x) (.cons rfl (fun _ _ x => x) (.nil))))
  ·
    refine run_exit rfl ?_
    refine run_seq ?_
    refine run_region ?_
    refine run_op (loc_assign rfl) rfl ?_
    refine run_nil ?_
    refine run_retP Try.func82 rfl rfl ?_
    exact d_int (idxP_none (forall_getD (fun j hj => hbk j (by omega)))).symm

theorem indexFuncSt_spec (q : Strt → Prop) (xs : List (Strt)) : SpecP Try.prog 91 [dSl 5 cStrt xs, dFun Try.prog (fun x : Strt => [dAgg (cStrt x)]) (fun x => dB (q x))] (dInt .i64 (idxP q xs)) := by
  refine specP_of_body Try.func91 rfl rfl (fun I M => ?_)
  refine run_seq ?_
  refine run_region ?_
  refine run_op (loc_assign rfl) rfl ?_
  refine run_nil ?_
  refine run_seq ?_
  refine run_seq ?_
  refine run_region ?_
  refine run_op (loc_move rfl) rfl ?_
  first | refine runL_fact (s := 6) rfl (fun _ _ h => dSl_len h) (fun hlen1 => ?_) | skip
  refine run_op (loc_len rfl) rfl ?_
  refine run_op (loc_move rfl) rfl ?_
  refine run_nil ?_
  refine run_block ?_
  refine run_loopC (σ := Nat) (ks := [0, 1, 7]) (.cons rfl (.cons rfl (.cons rfl (.nil)))) (fun k => [(8, dInt .i64 (k : Nat))]) (fun k => k ≤ xs.length ∧ (∀ j, j < k → ¬ q (xs[j]?.getD default))) (fun k => xs.length - k) (0) (⟨by omega, fun j hj => by omega⟩) (.cons rfl (by first | exact fun _ _ h => h | exact d_int (by omega) | exact d_int (by simp) | exact d_intN (by omega) | exact d_any) .nil) ?_
  rintro k ⟨hk, hbk⟩ ih2
  refine run_seq ?_
  refine run_region ?_
  refine run_op (loc_lss rfl rfl) rfl ?_
  refine run_nil ?_
  refine run_seq ?_
  refine run_cond rfl (fun h3 => ?_) (fun h3 => ?_)
  ·
    refine run_skip ?_
    refine run_seq ?_
    refine run_block ?_
    refine run_seq ?_
    refine run_region ?_
    refine run_op (loc_move rfl) rfl ?_
    refine run_op (loc_assign rfl) rfl ?_
    refine run_nil ?_
    refine run_seq ?_
    refine run_region ?_
    refine run_op (loc_move rfl) rfl ?_
    refine run_op (loc_move rfl) rfl ?_
    refine run_op (loc_move rfl) rfl ?_
    first | refine run_op (loc_index rfl rfl (by first | omega | assumption)) rfl ?_ | refine run_op (loc_indexI rfl rfl (by first | omega | assumption)) rfl ?_
    refine run_op (loc_loadN rfl rfl) rfl ?_
    refine run_op (loc_callFun (xs[k]?.getD default) rfl rfl) rfl ?_
    refine run_nil ?_
    refine run_cond rfl (fun h4 => ?_) (fun h4 => ?_)
    ·
      refine run_seq ?_
      refine run_region ?_
      refine run_op (loc_move rfl) rfl ?_
      refine run_op (loc_assign rfl) rfl ?_
      refine run_nil ?_
      refine run_retP Try.func91 rfl rfl ?_
      exact d_int (idxP_at (by omega) hbk (by assumption)).symm
    ·
      refine run_skip ?_
      refine run_inBlock ?_
      refine run_region ?_
      first | refine run_op (loc_add rfl rfl (by first | omega | assumption)) rfl ?_ | refine run_op (loc_addW rfl rfl) rfl ?_
      refine run_op (loc_move rfl) rfl ?_
      refine run_nil ?_
      exact run_againC ih2 (k + 1) (⟨by omega, fun j hj => by by_cases e : j = k; (· subst e; assumption); (· exact hbk j (by omega))⟩) (by omega) (.cons rfl (by first | exact fun _ _ h => h | exact d_int (by omega) | exact d_int (by simp) | exact d_intN (by omega) | exact d_any) .nil) (.cons rfl (fun _ _ x => x) (.cons rfl (fun _ _ x => x) (.cons rfl (fun _ _ x => x) (.nil))))
  ·
    refine run_exit rfl ?_
    refine run_seq ?_
    refine run_region ?_
    refine run_op (loc_assign rfl) rfl ?_
    refine run_nil ?_
    refine run_retP Try.func91 rfl rfl ?_
    exact d_int (idxP_none (forall_getD (fun j hj => hbk j (by omega)))).symm

theorem containsFuncSt_spec (q : Strt → Prop) (xs : List (Strt)) : SpecP Try.prog 69 [dSl 5 cStrt xs, dFun Try.prog (fun x : Strt => [dAgg (cStrt x)]) (fun x => dB (q x))] (dB (∃ x ∈ xs, q x)) := by
  refine specP_of_body Try.func69 rfl rfl (fun I M => ?_)
  refine run_seq ?_
  refine run_region ?_
  refine run_op (loc_assign rfl) rfl ?_
  refine run_nil ?_
  refine run_seq ?_
  refine run_region ?_
  refine run_op (loc_move rfl) rfl ?_
  refine run_op (loc_move rfl) rfl ?_
  refine run_op (loc_call (indexFuncSt_spec q xs) rfl) rfl ?_
  refine run_op (loc_geq rfl rfl) rfl ?_
  refine run_op (loc_assign rfl) rfl ?_
  refine run_nil ?_
  refine run_retP Try.func69 rfl rfl ?_
  exact d_B idxP_nonneg

theorem containsFuncI_spec (q : Int → Prop) (xs : List (Int)) : SpecP Try.prog 101 [dSl 1 fI xs, dFun Try.prog (fun x : Int => [dInt .i64 x]) (fun x => dB (q x))] (dB (∃ x ∈ xs, q x)) := by
  refine specP_of_body Try.func101 rfl rfl (fun I M => ?_)
  refine run_seq ?_
  refine run_region ?_
  refine run_op (loc_assign rfl) rfl ?_
  refine run_nil ?_
  refine run_seq ?_
  refine run_region ?_
  refine run_op (loc_move rfl) rfl ?_
  refine run_op (loc_move rfl) rfl ?_
  refine run_op (loc_call (indexFuncI_spec q xs) rfl) rfl ?_
  refine run_op (loc_geq rfl rfl) rfl ?_
  refine run_op (loc_assign rfl) rfl ?_
  refine run_nil ?_
  refine run_retP Try.func101 rfl rfl ?_
  exact d_B idxP_nonneg

theorem indexI_spec (xs : List (Int)) (x : Int) : SpecP Try.prog 83 [dSl 1 fI xs, dInt .i64 x] (dInt .i64 (idxP (x = ·) xs)) := by
  refine specP_of_body Try.func83 rfl rfl (fun I M => ?_)
  refine run_seq ?_
  refine run_region ?_
  refine run_op (loc_assign rfl) rfl ?_
  refine run_nil ?_
  refine run_seq ?_
  refine run_seq ?_
  refine run_region ?_
  refine run_op (loc_move rfl) rfl ?_
  first | refine runL_fact (s := 6) rfl (fun _ _ h => dSl_len h) (fun hlen1 => ?_) | skip
  refine run_op (loc_len rfl) rfl ?_
  refine run_op (loc_move rfl) rfl ?_
  refine run_nil ?_
  refine run_block ?_
  refine run_loopC (σ := Nat) (ks := [0, 1, 7]) (.cons rfl (.cons rfl (.cons rfl (.nil)))) (fun k => [(8, dInt .i64 (k : Nat))]) (fun k => k ≤ xs.length ∧ (∀ j, j < k → ¬ x = (xs[j]?.getD default))) (fun k => xs.length - k) (0) (⟨by omega, fun j hj => by omega⟩) (.cons rfl (by first | exact fun _ _ h => h | exact d_int (by omega) | exact d_int (by simp) | exact d_intN (by omega) | exact d_any) .nil) ?_
  rintro k ⟨hk, hbk⟩ ih2
  refine run_seq ?_
  refine run_region ?_
  refine run_op (loc_lss rfl rfl) rfl ?_
  refine run_nil ?_
  refine run_seq ?_
  refine run_cond rfl (fun h3 => ?_) (fun h3 => ?_)
  ·
    refine run_skip ?_
    refine run_seq ?_
    refine run_block ?_
    refine run_seq ?_
    refine run_region ?_
    refine run_op (loc_move rfl) rfl ?_
    refine run_op (loc_assign rfl) rfl ?_
    refine run_nil ?_
    refine run_seq ?_
    refine run_region ?_
    refine run_op (loc_move rfl) rfl ?_
    refine run_op (loc_move rfl) rfl ?_
    refine run_op (loc_move rfl) rfl ?_
    first | refine run_op (loc_index rfl rfl (by first | omega | assumption)) rfl ?_ | refine run_op (loc_indexI rfl rfl (by first | omega | assumption)) rfl ?_
    refine run_op (loc_load1 rfl) rfl ?_
    refine run_op (loc_eql rfl rfl) rfl ?_
    refine run_nil ?_
    refine run_cond rfl (fun h4 => ?_) (fun h4 => ?_)
    ·
      refine run_seq ?_
      refine run_region ?_
      refine run_op (loc_move rfl) rfl ?_
      refine run_op (loc_assign rfl) rfl ?_
      refine run_nil ?_
      refine run_retP Try.func83 rfl rfl ?_
      exact d_int (idxP_at (by omega) hbk (by assumption)).symm
    ·
      refine run_skip ?_
      refine run_inBlock ?_
      refine run_region ?_
      first | refine run_op (loc_add rfl rfl (by first | omega | assumption)) rfl ?_ | refine run_op (loc_addW rfl rfl) rfl ?_
      refine run_op (loc_move rfl) rfl ?_
      refine run_nil ?_
      exact run_againC ih2 (k + 1) (⟨by omega, fun j hj => by by_cases e : j = k; (· subst e; assumption); (· exact hbk j (by omega))⟩) (by omega) (.cons rfl (by first | exact fun _ _ h => h | exact d_int (by omega) | exact d_int (by simp) | exact d_intN (by omega) | exact d_any) .nil) (.cons rfl (fun _ _ x => x) (.cons rfl (fun _ _ x => x) (.cons rfl (fun _ _ x => x) (.nil))))
  ·
    refine run_exit rfl ?_
    refine run_seq ?_
    refine run_region ?_
    refine run_op (loc_assign rfl) rfl ?_
    refine run_nil ?_
    refine run_retP Try.func83 rfl rfl ?_
    exact d_int (idxP_none (forall_getD (fun j hj => hbk j (by omega)))).symm

theorem containsI_spec (xs : List (Int)) (x : Int) : SpecP Try.prog 59 [dSl 1 fI xs, dInt .i64 x] (dB (x ∈ xs)) := by
  refine specP_of_body Try.func59 rfl rfl (fun I M => ?_)
  refine run_seq ?_
  refine run_region ?_
  refine run_op (loc_assign rfl) rfl ?_
  refine run_nil ?_
  refine run_seq ?_
  refine run_region ?_
  refine run_op (loc_move rfl) rfl ?_
  refine run_op (loc_move rfl) rfl ?_
  refine run_op (loc_call (indexI_spec xs x) rfl) rfl ?_
  refine run_op (loc_geq rfl rfl) rfl ?_
  refine run_op (loc_assign rfl) rfl ?_
  refine run_nil ?_
  refine run_retP Try.func59 rfl rfl ?_
  exact d_B (idxP_nonneg.trans (by simp))

theorem binSearchPn_spec (cm : Pn → Int) (xs : List (Pn)) (t : Int) : SpecP Try.prog 77 [dSl 2 cPn xs, dInt .i64 t, dFun Try.prog (fun x : Pn => [dAgg (cPn x), dInt .i64 t]) (fun x => dInt .i64 (cm x))] (dTup [dInt .i64 (bsF cm xs : Nat), dB (bsF cm xs < xs.length ∧ cm (xs[bsF cm xs]?.getD default) = 0)]) := by
  refine specP_of_body Try.func77 rfl rfl (fun I M => ?_)
  refine run_seq ?_
  refine run_region ?_
  refine run_op (loc_assign rfl) rfl ?_
  refine run_op (loc_assign rfl) rfl ?_
  refine run_nil ?_
  refine run_seq ?_
  refine run_region ?_
  refine run_op (loc_move rfl) rfl ?_
  first | refine runL_fact (s := 12) rfl (fun _ _ h => dSl_len h) (fun hlen1 => ?_) | skip
  refine run_op (loc_len rfl) rfl ?_
  refine run_op (loc_assign rfl) rfl ?_
  refine run_nil ?_
  refine run_seq ?_
  refine run_region ?_
  refine run_op (loc_move rfl) rfl ?_
  refine run_op (loc_assign rfl) rfl ?_
  refine run_op (loc_assign rfl) rfl ?_
  refine run_nil ?_
  refine run_seq ?_
  refine run_block ?_
  refine run_loopC (σ := Nat × Nat) (ks := [0, 1, 2, 8]) (.cons rfl (.cons rfl (.cons rfl (.cons rfl (.nil))))) (fun s => [(9, dInt .i64 (s.1 : Nat)), (10, dInt .i64 (s.2 : Nat))]) (fun s => s.1 ≤ s.2 ∧ s.2 ≤ xs.length ∧ bsGo (fun h => cm (xs[h]?.getD default) < 0) s.1 s.2 = bsGo (fun h => cm (xs[h]?.getD default) < 0) 0 xs.length) (fun s => s.2 - s.1) ((0, xs.length)) (⟨by simp, by simp, rfl⟩) (.cons rfl (by first | exact fun _ _ h => h | exact d_int (by omega) | exact d_int (by simp) | exact d_intN (by omega) | exact d_any) (.cons rfl (by first | exact fun _ _ h => h | exact d_int (by omega) | exact d_int (by simp) | exact d_intN (by omega) | exact d_any) .nil)) ?_
  rintro ⟨s1, s2⟩ ⟨hs1, hs2, hs3⟩ ih2
  simp only at hs1 hs2
  refine run_seq ?_
  refine run_seq ?_
  refine run_region ?_
  refine run_op (loc_move rfl) rfl ?_
  refine run_op (loc_move rfl) rfl ?_
  refine run_op (loc_lss rfl rfl) rfl ?_
  refine run_nil ?_
  refine run_cond rfl (fun h3 => ?_) (fun h3 => ?_)
  ·
    refine run_skip ?_
    refine run_block ?_
    refine run_seq ?_
    refine run_region ?_
    refine run_op (loc_move rfl) rfl ?_
    refine run_op (loc_move rfl) rfl ?_
    first | refine run_op (loc_add rfl rfl (by first | omega | assumption)) rfl ?_ | refine run_op (loc_addW rfl rfl) rfl ?_
    first | refine run_op (loc_convU rfl (by first | omega | assumption)) rfl ?_ | refine run_op (loc_convW rfl) rfl ?_
    refine run_op (loc_shrN (c := 1) (q := 2) rfl rfl rfl (by decide) (by first | omega | assumption) (by decide)) rfl ?_
    refine runL_recast (s := 22) rfl (d_int (n := (((s1 + s2) / 2 : Nat) : Int)) (by omega)) ?_
    first | refine run_op (loc_conv rfl (by first | omega | assumption)) rfl ?_ | refine run_op (loc_convW rfl) rfl ?_
    refine run_op (loc_assign rfl) rfl ?_
    refine run_nil ?_
    refine run_seq ?_
    refine run_region ?_
    refine run_op (loc_move rfl) rfl ?_
    refine run_op (loc_move rfl) rfl ?_
    refine run_op (loc_move rfl) rfl ?_
    first | refine run_op (loc_index rfl rfl (by first | omega | assumption)) rfl ?_ | refine run_op (loc_indexI rfl rfl (by first | omega | assumption)) rfl ?_
    refine run_op (loc_loadN rfl rfl) rfl ?_
    refine run_op (loc_move rfl) rfl ?_
    refine run_op (loc_callFun (xs[(s1 + s2) / 2]?.getD default) rfl rfl) rfl ?_
    refine run_op (loc_lss rfl rfl) rfl ?_
    refine run_nil ?_
    refine run_cond rfl (fun h4 => ?_) (fun h4 => ?_)
    ·
      rw [bsGo, if_pos (by omega), if_pos h4] at hs3
      refine run_region ?_
      refine run_op (loc_move rfl) rfl ?_
      first | refine run_op (loc_add rfl rfl (by first | omega | assumption)) rfl ?_ | refine run_op (loc_addW rfl rfl) rfl ?_
      refine run_op (loc_assign rfl) rfl ?_
      refine run_nil ?_
      refine run_inBlock ?_
      exact run_againC ih2 (((s1 + s2) / 2 + 1, s2)) (⟨by simp; omega, hs2, hs3⟩) (by simp; omega) (.cons rfl (by first | exact fun _ _ h => h | exact d_int (by omega) | exact d_int (by simp) | exact d_intN (by omega) | exact d_any) (.cons rfl (by first | exact fun _ _ h => h | exact d_int (by omega) | exact d_int (by simp) | exact d_intN (by omega) | exact d_any) .nil)) (.cons rfl (fun _ _ x => x) (.cons rfl (fun _ _ x => x) (.cons rfl (fun _ _ x => x) (.cons rfl (fun _ _ x => x) (.nil)))))
    ·
      rw [bsGo, if_pos (by omega), if_neg h4] at hs3
      refine run_region ?_
      refine run_op (loc_move rfl) rfl ?_
      refine run_op (loc_assign rfl) rfl ?_
      refine run_nil ?_
      refine run_inBlock ?_
      exact run_againC ih2 ((s1, (s1 + s2) / 2)) (⟨by simp; omega, by simp; omega, hs3⟩) (by simp; omega) (.cons rfl (by first | exact fun _ _ h => h | exact d_int (by omega) | exact d_int (by simp) | exact d_intN (by omega) | exact d_any) (.cons rfl (by first | exact fun _ _ h => h | exact d_int (by omega) | exact d_int (by simp) | exact d_intN (by omega) | exact d_any) .nil)) (.cons rfl (fun _ _ x => x) (.cons rfl (fun _ _ x => x) (.cons rfl (fun _ _ x => x) (.cons rfl (fun _ _ x => x) (.nil)))))
  ·
    refine run_exit rfl ?_
    refine run_seq ?_
    refine run_region ?_
    refine run_op (loc_move rfl) rfl ?_
    refine run_op (loc_move rfl) rfl ?_
    refine run_op (loc_move rfl) rfl ?_
    refine run_op (loc_lss rfl rfl) rfl ?_
    refine run_op (loc_move rfl) rfl ?_
    refine run_gfirst rfl rfl (by first | exact guard_true _ | exact guard_false _ | exact guard_if (guard_true _) | exact guard_if (guard_false _)) (fun hg => loc_move rfl) rfl ?_
    refine run_gop rfl rfl (by first | exact guard_true _ | exact guard_false _ | exact guard_if (guard_true _) | exact guard_if (guard_false _)) (fun hg => loc_move rfl) rfl ?_
    refine run_gop rfl rfl (by first | exact guard_true _ | exact guard_false _ | exact guard_if (guard_true _) | exact guard_if (guard_false _)) (fun hg => loc_move rfl) rfl ?_
    first | refine run_gop rfl rfl (by first | exact guard_true _ | exact guard_false _ | exact guard_if (guard_true _) | exact guard_if (guard_false _)) (fun hg => loc_index rfl rfl (by first | omega | assumption)) rfl ?_ | refine run_gop rfl rfl (by first | exact guard_true _ | exact guard_false _ | exact guard_if (guard_true _) | exact guard_if (guard_false _)) (fun hg => loc_indexI rfl rfl (by first | omega | assumption)) rfl ?_
    refine run_gop rfl rfl (by first | exact guard_true _ | exact guard_false _ | exact guard_if (guard_true _) | exact guard_if (guard_false _)) (fun hg => loc_loadN rfl rfl) rfl ?_
    refine run_gop rfl rfl (by first | exact guard_true _ | exact guard_false _ | exact guard_if (guard_true _) | exact guard_if (guard_false _)) (fun hg => loc_move rfl) rfl ?_
    refine run_gop rfl rfl (by first | exact guard_true _ | exact guard_false _ | exact guard_if (guard_true _) | exact guard_if (guard_false _)) (fun hg => loc_callFun (xs[s1]?.getD default) rfl rfl) rfl ?_
    refine run_gop rfl rfl (by first | exact guard_true _ | exact guard_false _ | exact guard_if (guard_true _) | exact guard_if (guard_false _)) (fun hg => loc_eql rfl rfl) rfl ?_
    refine run_gleave ?_
    refine run_op (loc_and rfl rfl) rfl ?_
    refine run_op (loc_assign rfl) rfl ?_
    refine run_op (loc_assign rfl) rfl ?_
    refine run_nil ?_
    refine run_ret2P Try.func77 rfl rfl rfl ?_
    have hse : s1 = bsF cm xs := by unfold bsF; rw [← hs3]; unfold bsGo; rw [if_neg (by omega)]
    subst hse
    exact d_tup2 (fun _ _ h => h) (d_B (by omega))

theorem binSearchSt_spec (cm : Strt → Int) (xs : List (Strt)) (t : Int) : SpecP Try.prog 85 [dSl 5 cStrt xs, dInt .i64 t, dFun Try.prog (fun x : Strt => [dAgg (cStrt x), dInt .i64 t]) (fun x => dInt .i64 (cm x))] (dTup [dInt .i64 (bsF cm xs : Nat), dB (bsF cm xs < xs.length ∧ cm (xs[bsF cm xs]?.getD default) = 0)]) := by
  refine specP_of_body Try.func85 rfl rfl (fun I M => ?_)
  refine run_seq ?_
  refine run_region ?_
  refine run_op (loc_assign rfl) rfl ?_
  refine run_op (loc_assign rfl) rfl ?_
  refine run_nil ?_
  refine run_seq ?_
  refine run_region ?_
  refine run_op (loc_move rfl) rfl ?_
  first | refine runL_fact (s := 12) rfl (fun _ _ h => dSl_len h) (fun hlen1 => ?_) | skip
  refine run_op (loc_len rfl) rfl ?_
  refine run_op (loc_assign rfl) rfl ?_
  refine run_nil ?_
  refine run_seq ?_
  refine run_region ?_
  refine run_op (loc_move rfl) rfl ?_
  refine run_op (loc_assign rfl) rfl ?_
  refine run_op (loc_assign rfl) rfl ?_
  refine run_nil ?_
  refine run_seq ?_
  refine run_block ?_
  refine run_loopC (σ := Nat × Nat) (ks := [0, 1, 2, 8]) (.cons rfl (.cons rfl (.cons rfl (.cons rfl (.nil))))) (fun s => [(9, dInt .i64 (s.1 : Nat)), (10, dInt .i64 (s.2 : Nat))]) (fun s => s.1 ≤ s.2 ∧ s.2 ≤ xs.length ∧ bsGo (fun h => cm (xs[h]?.getD default) < 0) s.1 s.2 = bsGo (fun h => cm (xs[h]?.getD default) < 0) 0 xs.length) (fun s => s.2 - s.1) ((0, xs.length)) (⟨by simp, by simp, rfl⟩) (.cons rfl (by first | exact fun _ _ h => h | exact d_int (by omega) | exact d_int (by simp) | exact d_intN (by omega) | exact d_any) (.cons rfl (by first | exact fun _ _ h => h | exact d_int (by omega) | exact d_int (by simp) | exact d_intN (by omega) | exact d_any) .nil)) ?_
  rintro ⟨s1, s2⟩ ⟨hs1, hs2, hs3⟩ ih2
  simp only at hs1 hs2
  refine run_seq ?_
  refine run_seq ?_
  refine run_region ?_
  refine run_op (loc_move rfl) rfl ?_
  refine run_op (loc_move rfl) rfl ?_
  refine run_op (loc_lss rfl rfl) rfl ?_
  refine run_nil ?_
  refine run_cond rfl (fun h3 => ?_) (fun h3 => ?_)
  ·
    refine run_skip ?_
    refine run_block ?_
    refine run_seq ?_
    refine run_region ?_
    refine run_op (loc_move rfl) rfl ?_
    refine run_op (loc_move rfl) rfl ?_
    first | refine run_op (loc_add rfl rfl (by first | omega | assumption)) rfl ?_ | refine run_op (loc_addW rfl rfl) rfl ?_
    first | refine run_op (loc_convU rfl (by first | omega | assumption)) rfl ?_ | refine run_op (loc_convW rfl) rfl ?_
    refine run_op (loc_shrN (c := 1) (q := 2) rfl rfl rfl (by decide) (by first | omega | assumption) (by decide)) rfl ?_
    refine runL_recast (s := 22) rfl (d_int (n := (((s1 + s2) / 2 : Nat) : Int)) (by omega)) ?_
    first | refine run_op (loc_conv rfl (by first | omega | assumption)) rfl ?_ | refine run_op (loc_convW rfl) rfl ?_
    refine run_op (loc_assign rfl) rfl ?_
    refine run_nil ?_
    refine run_seq ?_
    refine run_region ?_
    refine run_op (loc_move rfl) rfl ?_
    refine run_op (loc_move rfl) rfl ?_
    refine run_op (loc_move rfl) rfl ?_
    first | refine run_op (loc_index rfl rfl (by first | omega | assumption)) rfl ?_ | refine run_op (loc_indexI rfl rfl (by first | omega | assumption)) rfl ?_
    refine run_op (loc_loadN rfl rfl) rfl ?_
    refine run_op (loc_move rfl) rfl ?_
    refine run_op (loc_callFun (xs[(s1 + s2) / 2]?.getD default) rfl rfl) rfl ?_
    refine run_op (loc_lss rfl rfl) rfl ?_
    refine run_nil ?_
    refine run_cond rfl (fun h4 => ?_) (fun h4 => ?_)
    ·
      rw [bsGo, if_pos (by omega), if_pos h4] at hs3
      refine run_region ?_
      refine run_op (loc_move rfl) rfl ?_
      first | refine run_op (loc_add rfl rfl (by first | omega | assumption)) rfl ?_ | refine run_op (loc_addW rfl rfl) rfl ?_
      refine run_op (loc_assign rfl) rfl ?_
      refine run_nil ?_
      refine run_inBlock ?_
      exact run_againC ih2 (((s1 + s2) / 2 + 1, s2)) (⟨by simp; omega, hs2, hs3⟩) (by simp; omega) (.cons rfl (by first | exact fun _ _ h => h | exact d_int (by omega) | exact d_int (by simp) | exact d_intN (by omega) | exact d_any) (.cons rfl (by first | exact fun _ _ h => h | exact d_int (by omega) | exact d_int (by simp) | exact d_intN (by omega) | exact d_any) .nil)) (.cons rfl (fun _ _ x => x) (.cons rfl (fun _ _ x => x) (.cons rfl (fun _ _ x => x) (.cons rfl (fun _ _ x => x) (.nil)))))
    ·
      rw [bsGo, if_pos (by omega), if_neg h4] at hs3
      refine run_region ?_
      refine run_op (loc_move rfl) rfl ?_
      refine run_op (loc_assign rfl) rfl ?_
      refine run_nil ?_
      refine run_inBlock ?_
      exact run_againC ih2 ((s1, (s1 + s2) / 2)) (⟨by simp; omega, by simp; omega, hs3⟩) (by simp; omega) (.cons rfl (by first | exact fun _ _ h => h | exact d_int (by omega) | exact d_int (by simp) | exact d_intN (by omega) | exact d_any) (.cons rfl (by first | exact fun _ _ h => h | exact d_int (by omega) | exact d_int (by simp) | exact d_intN (by omega) | exact d_any) .nil)) (.cons rfl (fun _ _ x => x) (.cons rfl (fun _ _ x => x) (.cons rfl (fun _ _ x => x) (.cons rfl (fun _ _ x => x) (.nil)))))
  ·
    refine run_exit rfl ?_
    refine run_seq ?_
    refine run_region ?_
    refine run_op (loc_move rfl) rfl ?_
    refine run_op (loc_move rfl) rfl ?_
    refine run_op (loc_move rfl) rfl ?_
    refine run_op (loc_lss rfl rfl) rfl ?_
    refine run_op (loc_move rfl) rfl ?_
    refine run_gfirst rfl rfl (by first | exact guard_true _ | exact guard_false _ | exact guard_if (guard_true _) | exact guard_if (guard_false _)) (fun hg => loc_move rfl) rfl ?_
    refine run_gop rfl rfl (by first | exact guard_true _ | exact guard_false _ | exact guard_if (guard_true _) | exact guard_if (guard_false _)) (fun hg => loc_move rfl) rfl ?_
    refine run_gop rfl rfl (by first | exact guard_true _ | exact guard_false _ | exact guard_if (guard_true _) | exact guard_if (guard_false _)) (fun hg => loc_move rfl) rfl ?_
    first | refine run_gop rfl rfl (by first | exact guard_true _ | exact guard_false _ | exact guard_if (guard_true _) | exact guard_if (guard_false _)) (fun hg => loc_index rfl rfl (by first | omega | assumption)) rfl ?_ | refine run_gop rfl rfl (by first | exact guard_true _ | exact guard_false _ | exact guard_if (guard_true _) | exact guard_if (guard_false _)) (fun hg => loc_indexI rfl rfl (by first | omega | assumption)) rfl ?_
    refine run_gop rfl rfl (by first | exact guard_true _ | exact guard_false _ | exact guard_if (guard_true _) | exact guard_if (guard_false _)) (fun hg => loc_loadN rfl rfl) rfl ?_
    refine run_gop rfl rfl (by first | exact guard_true _ | exact guard_false _ | exact guard_if (guard_true _) | exact guard_if (guard_false _)) (fun hg => loc_move rfl) rfl ?_
    refine run_gop rfl rfl (by first | exact guard_true _ | exact guard_false _ | exact guard_if (guard_true _) | exact guard_if (guard_false _)) (fun hg => loc_callFun (xs[s1]?.getD default) rfl rfl) rfl ?_
    refine run_gop rfl rfl (by first | exact guard_true _ | exact guard_false _ | exact guard_if (guard_true _) | exact guard_if (guard_false _)) (fun hg => loc_eql rfl rfl) rfl ?_
    refine run_gleave ?_
    refine run_op (loc_and rfl rfl) rfl ?_
    refine run_op (loc_assign rfl) rfl ?_
    refine run_op (loc_assign rfl) rfl ?_
    refine run_nil ?_
    refine run_ret2P Try.func85 rfl rfl rfl ?_
    have hse : s1 = bsF cm xs := by unfold bsF; rw [← hs3]; unfold bsGo; rw [if_neg (by omega)]
    subst hse
    exact d_tup2 (fun _ _ h => h) (d_B (by omega))

instance : TyOver Try.prog 80 23 := ⟨_, 4, Try.func80, by kernel_rfl, by kernel_rfl, by kernel_rfl, by kernel_rfl⟩
theorem insertPn_spec (v : Value) (xs : List (Pn)) (i : Nat) (e0 : Pn) (hi : i ≤ xs.length) (hb : (xs.length + 1) * 16 ≤ 140737488355328) (hl : xs.length + 1 ≤ 17592186044416) :
    Spec Try.prog 55 [dVal v, dInt .i64 (i : Nat), dSl 2 (fun l : List D => l) [cPn e0]] [rRow v 46 2 cPn xs] (σ := Value) (fun _ => True) (fun v => dVal v) (fun v => [rRow v 46 2 cPn (xs.take i ++ [e0] ++ xs.drop i)]) := by
  refine spec_of_body Try.func55 rfl rfl (fun I F => ?_)
  refine run_recast (s := 2) rfl (d_sl (ys := [e0]) (h := cPn) rfl) ?_
  by_cases hie : i = xs.length
  · show Run _ _ _ _ _ _ (rRow v 46 2 cPn xs :: F) _
    refine run_seq ?_
    refine run_region ?_
    refine run_op (loc_assign rfl) rfl ?_
    refine run_nil ?_
    refine run_seq ?_
    refine run_region ?_
    refine run_op (loc_move rfl) rfl ?_
    refine run_op (loc_move rfl) rfl ?_
    refine run_op (loc_sliceRowTop rfl (by first | exact .here | exact .there .here | exact .there (.there .here) | exact .there (.there (.there .here)) | exact .there (.there (.there (.there .here))) | exact .there (.there (.there (.there (.there .here))))) rfl (by first | omega | assumption)) rfl ?_
    refine run_nil ?_
    refine run_seq ?_
    refine run_region ?_
    refine run_op (loc_move rfl) rfl ?_
    refine run_op (loc_len rfl) rfl ?_
    refine runL_recast (s := 14) rfl (d_int (n := 1) rfl) ?_
    refine run_op (loc_assign rfl) rfl ?_
    refine run_nil ?_
    refine run_seq ?_
    refine run_seq ?_
    refine run_region ?_
    refine run_op (loc_move rfl) rfl ?_
    refine run_op (loc_eql rfl rfl) rfl ?_
    refine run_nil ?_
    refine run_cond rfl (fun h1 => ?_) (fun h1 => ?_)
    · exfalso; simp at h1
    ·
      refine run_skip ?_
      refine run_seq ?_
      refine run_region ?_
      refine run_op (loc_move rfl) rfl ?_
      refine run_op (loc_lenRow rfl (by first | exact .here | exact .there .here | exact .there (.there .here) | exact .there (.there (.there .here)) | exact .there (.there (.there (.there .here))) | exact .there (.there (.there (.there (.there .here)))))) rfl ?_
      refine run_op (loc_assign rfl) rfl ?_
      refine run_nil ?_
      refine run_seq ?_
      refine run_seq ?_
      refine run_region ?_
      refine run_op (loc_move rfl) rfl ?_
      refine run_op (loc_move rfl) rfl ?_
      refine run_op (loc_eql rfl rfl) rfl ?_
      refine run_nil ?_
      refine run_cond rfl (fun h2 => ?_) (fun h2 => ?_)
      ·
        refine run_seq ?_
        refine run_region ?_
        refine run_op (loc_move rfl) rfl ?_
        refine run_op (loc_move rfl) rfl ?_
        refine run_append rfl (by first | exact .here | exact .there .here | exact .there (.there .here) | exact .there (.there (.there .here)) | exact .there (.there (.there (.there .here))) | exact .there (.there (.there (.there (.there .here))))) rfl (by rfl) (by first | omega | (unfold lenMax; omega) | assumption | (simp; omega) | (simp [lenMax]; omega)) (by first | omega | (unfold lenMax; omega) | assumption | (simp; omega) | (simp [lenMax]; omega)) rfl (fun v3 => ?_)
        refine run_op (loc_assign rfl) rfl ?_
        refine run_nil ?_
        refine run_ret (v3) Try.func55 rfl rfl ?_ (trivial) (fun _ _ h => by rw [List.take_of_length_le (by omega), List.drop_eq_nil_of_le (by omega), List.append_nil]; exact h)
        exact fun _ _ h => h
      · exfalso; omega
  · refine run_openRow .here (by intro hx; subst hx; simp at hi; exact hie hi) (fun b cap hv hc hm hlx hfn => ?_)
    subst hv
    have hlt : i < xs.length := by omega
    refine run_seq ?_
    refine run_region ?_
    refine run_op (loc_assign rfl) rfl ?_
    refine run_nil ?_
    refine run_seq ?_
    refine run_region ?_
    refine run_op (loc_move rfl) rfl ?_
    refine run_op (loc_move rfl) rfl ?_
    first | refine run_op (loc_sliceOwnFromLt rfl rfl (by first | omega | assumption)) rfl ?_ | refine run_op (loc_sliceOwnFrom rfl rfl (by first | omega | assumption)) rfl ?_
    refine run_nil ?_
    refine run_seq ?_
    refine run_region ?_
    refine run_op (loc_move rfl) rfl ?_
    refine run_op (loc_len rfl) rfl ?_
    refine runL_recast (s := 14) rfl (d_int (n := 1) rfl) ?_
    refine run_op (loc_assign rfl) rfl ?_
    refine run_nil ?_
    refine run_seq ?_
    refine run_seq ?_
    refine run_region ?_
    refine run_op (loc_move rfl) rfl ?_
    refine run_op (loc_eql rfl rfl) rfl ?_
    refine run_nil ?_
    refine run_cond rfl (fun h1 => ?_) (fun h1 => ?_)
    · exfalso; simp at h1
    ·
      refine run_skip ?_
      refine run_seq ?_
      refine run_region ?_
      refine run_op (loc_move rfl) rfl ?_
      refine run_op (loc_lenOwn rfl) rfl ?_
      refine run_op (loc_assign rfl) rfl ?_
      refine run_nil ?_
      refine run_seq ?_
      refine run_seq ?_
      refine run_region ?_
      refine run_op (loc_move rfl) rfl ?_
      refine run_op (loc_move rfl) rfl ?_
      refine run_op (loc_eql rfl rfl) rfl ?_
      refine run_nil ?_
      refine run_cond rfl (fun h2 => ?_) (fun h2 => ?_)
      · exfalso; omega
      ·
        refine run_skip ?_
        refine run_seq ?_
        refine run_seq ?_
        refine run_region ?_
        refine run_op (loc_move rfl) rfl ?_
        refine run_op (loc_move rfl) rfl ?_
        first | refine run_op (loc_add rfl rfl (by first | omega | assumption)) rfl ?_ | refine run_op (loc_addW rfl rfl) rfl ?_
        refine run_op (loc_move rfl) rfl ?_
        refine run_op (loc_capOwn rfl) rfl ?_
        refine run_op (loc_gtr rfl rfl) rfl ?_
        refine run_nil ?_
        refine run_cond rfl (fun h3 => ?_) (fun h3 => ?_)
        ·
          refine run_seq ?_
          refine run_region ?_
          refine run_op (loc_move rfl) rfl ?_
          refine run_op (loc_move rfl) rfl ?_
          refine run_op (loc_sliceOwnTo rfl rfl (by first | omega | assumption)) rfl ?_
          refine run_op (loc_move rfl) rfl ?_
          refine run_op (loc_move rfl) rfl ?_
          first | refine run_op (loc_add rfl rfl (by first | omega | assumption)) rfl ?_ | refine run_op (loc_addW rfl rfl) rfl ?_
          refine run_op (loc_move rfl) rfl ?_
          first | refine run_op (loc_sub rfl rfl (by first | omega | assumption)) rfl ?_ | refine run_op (loc_subW rfl rfl) rfl ?_
          refine run_updG rfl (loc_appendZeros (m := xs.length + 1 - i) rfl (opd_conv rfl (by congr 1; omega)) (by omega) (by simp [junk_length]; omega) rfl (by omega) (by unfold lenMax at *; omega)) (fun s hs => ?_)
          refine run_op (loc_assign rfl) rfl ?_
          refine run_nil ?_
          refine run_shutRow (len := xs.length) (cap := cap) (els' := junk 2 (cap - xs.length)) (.there .here) rfl rfl (by simp [junk_length]; omega) hm hlx ?_
          refine run_freezeRow (s := 0) rfl (.there .here) ?_
          refine run_seq ?_
          refine run_region ?_
          refine run_op (loc_move rfl) rfl ?_
          refine run_op (loc_move rfl) rfl ?_
          first | refine run_op (loc_sliceOwnFromLt rfl rfl (by first | omega | assumption)) rfl ?_ | refine run_op (loc_sliceOwnFrom rfl rfl (by first | omega | assumption)) rfl ?_
          refine run_op (loc_move rfl) rfl ?_
          refine run_updS rfl (by first | exact .here | exact .there .here | exact .there (.there .here) | exact .there (.there (.there .here)) | exact .there (.there (.there (.there .here))) | exact .there (.there (.there (.there (.there .here))))) (loc_copyImm rfl rfl (by first | omega | (simp only [List.length_append, List.length_map, junk_length]; omega) | (simp only [List.length_append, List.length_map, junk_length]; split <;> omega) | (simp [put, junk_length]; omega))) (fun _ _ => ?_)
          refine run_nil ?_
          refine run_seq ?_
          refine dr_start _ (.none) [⟨[(9, none)], [], none⟩,
              ⟨[(1, none)], [], none⟩,
              ⟨[(7, none)], [], none⟩,
              ⟨[(47, some (1, false)), (48, some (2, false))], [1, 2], none⟩,
              ⟨[(46, some (0, false)), (49, some (3, false))], [0, 1, 2, 3], none⟩,
              ⟨[(0, none)], [], none⟩,
              ⟨[(1, none)], [], none⟩,
              ⟨[(51, some (5, false)), (52, some (6, false))], [5, 6], none⟩,
              ⟨[(50, some (4, false)), (53, some (7, false))], [0, 1, 2, 3, 4, 5, 6, 7], some (0, 0, true)⟩] [_] _ rfl rfl ?_
          refine dq_pure rfl (fun s => .g rfl (.nil)) (fun s hs _ => loc_move rfl) (by exact .nil) ?_
          refine dq_pure rfl (fun s => .g rfl (.nil)) (fun s hs _ => loc_move rfl) (by exact .nil) ?_
          refine dq_pure rfl (fun s => .g rfl (.nil)) (fun s hs _ => loc_move rfl) (by exact .nil) ?_
          first | refine dq_pure rfl (fun s => .op rfl (.op rfl (.nil))) (fun s hs _ => loc_add rfl rfl (by first | omega | assumption)) (by exact .nil) ?_ | refine dq_pure rfl (fun s => .op rfl (.op rfl (.nil))) (fun s hs _ => loc_addW rfl rfl) (by exact .nil) ?_
          first | refine dq_pure rfl (fun s => .op rfl (.op rfl (.nil))) (fun s hs _ => loc_sliceOwnFromLt rfl rfl (by first | omega | assumption)) (by exact .nil) ?_ | refine dq_pure rfl (fun s => .op rfl (.op rfl (.nil))) (fun s hs _ => loc_sliceOwnFrom rfl rfl (by first | omega | assumption)) (by exact .nil) ?_
          refine dq_pure rfl (fun s => .g rfl (.nil)) (fun s hs _ => loc_move rfl) (by exact .nil) ?_
          refine dq_pure rfl (fun s => .g rfl (.nil)) (fun s hs _ => loc_move rfl) (by exact .nil) ?_
          refine dq_pure rfl (fun s => .op rfl (.op rfl (.nil))) (fun s hs _ => loc_sliceFrom rfl rfl (by first | omega | assumption)) (by exact .nil) ?_
          refine dq_write rfl (fun s => .op rfl (.op rfl (.nil))) rfl rfl (fun s hs => loc_copyImm rfl rfl (by first | omega | (simp only [List.length_append, List.length_map, junk_length]; omega) | (simp only [List.length_append, List.length_map, junk_length]; split <;> omega) | (simp [put, junk_length]; omega))) (by exact .nil) ?_
          refine dq_end (rs := [_]) () rfl (fun _ => rfl) (.nil) rfl (fun _ _ => ?_)
          dsimp only [outG, outM, List.map, List.set, id]
          refine run_seq ?_
          refine run_region ?_
          refine run_op (loc_move rfl) rfl ?_
          refine run_op (loc_assign rfl) rfl ?_
          refine run_nil ?_
          refine run_ret (sl s.1 2 0 (xs.length + 1) s.2) Try.func55 rfl rfl ?_ (trivial) (fun _ _ h => inv_shut h ((insert_grow (A := xs.map cPn) (i := i) (c := s.2) (x := cPn e0) (by simp; omega) (by omega) (by omega) (by omega) (by rw [List.take_of_length_le (by simp; omega)]; rfl) (by rw [List.take_of_length_le (by simp; omega), List.map_drop]; congr 1) (by simp; omega) (by simp [junk_length])).trans (congrArg (· ++ _) (by simp))) (by simp; omega) (by simp [junk_length]; omega) (by omega) (by simp; unfold lenMax; omega))
          exact fun _ _ h => by rwa [show (i : Int).toNat + (xs.length + 1 - i) = xs.length + 1 by omega] at h
        ·
          refine run_skip ?_
          refine run_seq ?_
          refine run_region ?_
          refine run_op (loc_move rfl) rfl ?_
          refine run_op (loc_move rfl) rfl ?_
          refine run_op (loc_move rfl) rfl ?_
          first | refine run_op (loc_add rfl rfl (by first | omega | assumption)) rfl ?_ | refine run_op (loc_addW rfl rfl) rfl ?_
          refine run_op (loc_sliceOwnTo rfl rfl (by first | omega | assumption)) rfl ?_
          refine run_op (loc_assign rfl) rfl ?_
          refine run_nil ?_
          refine run_seq ?_
          refine run_seq ?_
          refine run_region ?_
          refine run_op (loc_move rfl) rfl ?_
          refine run_op (loc_move rfl) rfl ?_
          refine run_op (loc_move rfl) rfl ?_
          refine run_op (loc_move rfl) rfl ?_
          first | refine run_op (loc_add rfl rfl (by first | omega | assumption)) rfl ?_ | refine run_op (loc_addW rfl rfl) rfl ?_
          first | refine run_op (loc_sliceOwnFromLt rfl rfl (by first | omega | assumption)) rfl ?_ | refine run_op (loc_sliceOwnFrom rfl rfl (by first | omega | assumption)) rfl ?_
          refine run_op (loc_overlaps rfl rfl (by first | exact .here | exact .there .here | exact .there (.there .here) | exact .there (.there (.there .here)) | exact .there (.there (.there (.there .here))) | exact .there (.there (.there (.there (.there .here))))) (by simp only [List.length_append, List.length_map, junk_length]; omega)) rfl ?_
          refine run_op (loc_not rfl) rfl ?_
          refine run_nil ?_
          refine run_cond rfl (fun h4 => ?_) (fun h4 => ?_)
          ·
            refine run_seq ?_
            refine dr_start _ (.none) [⟨[(0, none)], [], none⟩,
                ⟨[(1, none)], [], none⟩,
                ⟨[(7, none)], [], none⟩,
                ⟨[(70, some (1, false)), (71, some (2, false))], [1, 2], none⟩,
                ⟨[(69, some (0, false)), (72, some (3, false))], [0, 1, 2, 3], none⟩,
                ⟨[(0, none)], [], none⟩,
                ⟨[(1, none)], [], none⟩,
                ⟨[(74, some (5, false)), (75, some (6, false))], [5, 6], none⟩,
                ⟨[(73, some (4, false)), (76, some (7, false))], [0, 1, 2, 3, 4, 5, 6, 7], some (0, 0, true)⟩] [_] _ rfl rfl ?_
            refine dq_pure rfl (fun s => .g rfl (.nil)) (fun s hs _ => loc_move rfl) (by exact .nil) ?_
            refine dq_pure rfl (fun s => .g rfl (.nil)) (fun s hs _ => loc_move rfl) (by exact .nil) ?_
            refine dq_pure rfl (fun s => .g rfl (.nil)) (fun s hs _ => loc_move rfl) (by exact .nil) ?_
            first | refine dq_pure rfl (fun s => .op rfl (.op rfl (.nil))) (fun s hs _ => loc_add rfl rfl (by first | omega | assumption)) (by exact .nil) ?_ | refine dq_pure rfl (fun s => .op rfl (.op rfl (.nil))) (fun s hs _ => loc_addW rfl rfl) (by exact .nil) ?_
            first | refine dq_pure rfl (fun s => .op rfl (.op rfl (.nil))) (fun s hs _ => loc_sliceOwnFromLt rfl rfl (by first | omega | assumption)) (by exact .nil) ?_ | refine dq_pure rfl (fun s => .op rfl (.op rfl (.nil))) (fun s hs _ => loc_sliceOwnFrom rfl rfl (by first | omega | assumption)) (by exact .nil) ?_
            refine dq_pure rfl (fun s => .g rfl (.nil)) (fun s hs _ => loc_move rfl) (by exact .nil) ?_
            refine dq_pure rfl (fun s => .g rfl (.nil)) (fun s hs _ => loc_move rfl) (by exact .nil) ?_
            first | refine dq_pure rfl (fun s => .op rfl (.op rfl (.nil))) (fun s hs _ => loc_sliceOwnFromLt rfl rfl (by first | omega | assumption)) (by exact .nil) ?_ | refine dq_pure rfl (fun s => .op rfl (.op rfl (.nil))) (fun s hs _ => loc_sliceOwnFrom rfl rfl (by first | omega | assumption)) (by exact .nil) ?_
            refine dq_write rfl (fun s => .op rfl (.op rfl (.nil))) rfl rfl (fun s hs => loc_copyOwn rfl rfl (by first | omega | (simp only [List.length_append, List.length_map, junk_length]; omega) | (simp only [List.length_append, List.length_map, junk_length]; split <;> omega) | (simp [put, junk_length]; omega)) (one_part (by first | omega | (split <;> omega)))) (by exact .nil) ?_
            refine dq_end (rs := [_]) () rfl (fun _ => rfl) (.nil) rfl (fun _ _ => ?_)
            dsimp only [outG, outM, List.map, List.set, id]
            refine run_seq ?_
            refine run_region ?_
            refine run_op (loc_move rfl) rfl ?_
            refine run_op (loc_move rfl) rfl ?_
            first | refine run_op (loc_sliceOwnFromLt rfl rfl (by first | omega | assumption)) rfl ?_ | refine run_op (loc_sliceOwnFrom rfl rfl (by first | omega | assumption)) rfl ?_
            refine run_op (loc_move rfl) rfl ?_
            refine run_updS rfl (by first | exact .here | exact .there .here | exact .there (.there .here) | exact .there (.there (.there .here)) | exact .there (.there (.there (.there .here))) | exact .there (.there (.there (.there (.there .here))))) (loc_copyImm rfl rfl (by first | omega | (simp only [List.length_append, List.length_map, junk_length]; omega) | (simp only [List.length_append, List.length_map, junk_length]; split <;> omega) | (simp [put, junk_length]; omega))) (fun _ _ => ?_)
            refine run_nil ?_
            refine run_seq ?_
            refine run_region ?_
            refine run_op (loc_move rfl) rfl ?_
            refine run_op (loc_assign rfl) rfl ?_
            refine run_nil ?_
            refine run_ret (sl b 2 0 (xs.length + 1) cap) Try.func55 rfl rfl ?_ (trivial) (fun _ _ h => inv_shut h ((insert_list (A := xs.map cPn) (i := i) (x := cPn e0) (by simp; omega) (by omega) (by omega) (by omega) (by simp; omega) (by rw [List.take_of_length_le (by simp; omega)]; rfl) (by simp [junk_length]; omega)).trans (congrArg (· ++ _) (by simp))) (by simp; omega) (by simp [junk_length]; omega) (by omega) (by simp; unfold lenMax; omega))
            exact fun _ _ h => h
          · exfalso; exact h4 (fun h => h)

instance : TyOver Try.prog 87 47 := ⟨_, 4, Try.func87, by kernel_rfl, by kernel_rfl, by kernel_rfl, by kernel_rfl⟩
theorem insertSt_spec (v : Value) (xs : List (Strt)) (i : Nat) (e0 : Strt) (hi : i ≤ xs.length) (hb : (xs.length + 1) * 40 ≤ 140737488355328) (hl : xs.length + 1 ≤ 17592186044416) :
    Spec Try.prog 63 [dVal v, dInt .i64 (i : Nat), dSl 5 (fun l : List D => l) [cStrt e0]] [rRow v 68 5 cStrt xs] (σ := Value) (fun _ => True) (fun v => dVal v) (fun v => [rRow v 68 5 cStrt (xs.take i ++ [e0] ++ xs.drop i)]) := by
  refine spec_of_body Try.func63 rfl rfl (fun I F => ?_)
  refine run_recast (s := 2) rfl (d_sl (ys := [e0]) (h := cStrt) rfl) ?_
  by_cases hie : i = xs.length
  · show Run _ _ _ _ _ _ (rRow v 68 5 cStrt xs :: F) _
    refine run_seq ?_
    refine run_region ?_
    refine run_op (loc_assign rfl) rfl ?_
    refine run_nil ?_
    refine run_seq ?_
    refine run_region ?_
    refine run_op (loc_move rfl) rfl ?_
    refine run_op (loc_move rfl) rfl ?_
    refine run_op (loc_sliceRowTop rfl (by first | exact .here | exact .there .here | exact .there (.there .here) | exact .there (.there (.there .here)) | exact .there (.there (.there (.there .here))) | exact .there (.there (.there (.there (.there .here))))) rfl (by first | omega | assumption)) rfl ?_
    refine run_nil ?_
    refine run_seq ?_
    refine run_region ?_
    refine run_op (loc_move rfl) rfl ?_
    refine run_op (loc_len rfl) rfl ?_
    refine runL_recast (s := 14) rfl (d_int (n := 1) rfl) ?_
    refine run_op (loc_assign rfl) rfl ?_
    refine run_nil ?_
    refine run_seq ?_
    refine run_seq ?_
    refine run_region ?_
    refine run_op (loc_move rfl) rfl ?_
    refine run_op (loc_eql rfl rfl) rfl ?_
    refine run_nil ?_
    refine run_cond rfl (fun h1 => ?_) (fun h1 => ?_)
    · exfalso; simp at h1
    ·
      refine run_skip ?_
      refine run_seq ?_
      refine run_region ?_
      refine run_op (loc_move rfl) rfl ?_
      refine run_op (loc_lenRow rfl (by first | exact .here | exact .there .here | exact .there (.there .here) | exact .there (.there (.there .here)) | exact .there (.there (.there (.there .here))) | exact .there (.there (.there (.there (.there .here)))))) rfl ?_
      refine run_op (loc_assign rfl) rfl ?_
      refine run_nil ?_
      refine run_seq ?_
      refine run_seq ?_
      refine run_region ?_
      refine run_op (loc_move rfl) rfl ?_
      refine run_op (loc_move rfl) rfl ?_
      refine run_op (loc_eql rfl rfl) rfl ?_
      refine run_nil ?_
      refine run_cond rfl (fun h2 => ?_) (fun h2 => ?_)
      ·
        refine run_seq ?_
        refine run_region ?_
        refine run_op (loc_move rfl) rfl ?_
        refine run_op (loc_move rfl) rfl ?_
        refine run_append rfl (by first | exact .here | exact .there .here | exact .there (.there .here) | exact .there (.there (.there .here)) | exact .there (.there (.there (.there .here))) | exact .there (.there (.there (.there (.there .here))))) rfl (by rfl) (by first | omega | (unfold lenMax; omega) | assumption | (simp; omega) | (simp [lenMax]; omega)) (by first | omega | (unfold lenMax; omega) | assumption | (simp; omega) | (simp [lenMax]; omega)) rfl (fun v3 => ?_)
        refine run_op (loc_assign rfl) rfl ?_
        refine run_nil ?_
        refine run_ret (v3) Try.func63 rfl rfl ?_ (trivial) (fun _ _ h => by rw [List.take_of_length_le (by omega), List.drop_eq_nil_of_le (by omega), List.append_nil]; exact h)
        exact fun _ _ h => h
      · exfalso; omega
  · refine run_openRow .here (by intro hx; subst hx; simp at hi; exact hie hi) (fun b cap hv hc hm hlx hfn => ?_)
    subst hv
    have hlt : i < xs.length := by omega
    refine run_seq ?_
    refine run_region ?_
    refine run_op (loc_assign rfl) rfl ?_
    refine run_nil ?_
    refine run_seq ?_
    refine run_region ?_
    refine run_op (loc_move rfl) rfl ?_
    refine run_op (loc_move rfl) rfl ?_
    first | refine run_op (loc_sliceOwnFromLt rfl rfl (by first | omega | assumption)) rfl ?_ | refine run_op (loc_sliceOwnFrom rfl rfl (by first | omega | assumption)) rfl ?_
    refine run_nil ?_
    refine run_seq ?_
    refine run_region ?_
    refine run_op (loc_move rfl) rfl ?_
    refine run_op (loc_len rfl) rfl ?_
    refine runL_recast (s := 14) rfl (d_int (n := 1) rfl) ?_
    refine run_op (loc_assign rfl) rfl ?_
    refine run_nil ?_
    refine run_seq ?_
    refine run_seq ?_
    refine run_region ?_
    refine run_op (loc_move rfl) rfl ?_
    refine run_op (loc_eql rfl rfl) rfl ?_
    refine run_nil ?_
    refine run_cond rfl (fun h1 => ?_) (fun h1 => ?_)
    · exfalso; simp at h1
    ·
      refine run_skip ?_
      refine run_seq ?_
      refine run_region ?_
      refine run_op (loc_move rfl) rfl ?_
      refine run_op (loc_lenOwn rfl) rfl ?_
      refine run_op (loc_assign rfl) rfl ?_
      refine run_nil ?_
      refine run_seq ?_
      refine run_seq ?_
      refine run_region ?_
      refine run_op (loc_move rfl) rfl ?_
      refine run_op (loc_move rfl) rfl ?_
      refine run_op (loc_eql rfl rfl) rfl ?_
      refine run_nil ?_
      refine run_cond rfl (fun h2 => ?_) (fun h2 => ?_)
      · exfalso; omega
      ·
        refine run_skip ?_
        refine run_seq ?_
        refine run_seq ?_
        refine run_region ?_
        refine run_op (loc_move rfl) rfl ?_
        refine run_op (loc_move rfl) rfl ?_
        first | refine run_op (loc_add rfl rfl (by first | omega | assumption)) rfl ?_ | refine run_op (loc_addW rfl rfl) rfl ?_
        refine run_op (loc_move rfl) rfl ?_
        refine run_op (loc_capOwn rfl) rfl ?_
        refine run_op (loc_gtr rfl rfl) rfl ?_
        refine run_nil ?_
        refine run_cond rfl (fun h3 => ?_) (fun h3 => ?_)
        ·
          refine run_seq ?_
          refine run_region ?_
          refine run_op (loc_move rfl) rfl ?_
          refine run_op (loc_move rfl) rfl ?_
          refine run_op (loc_sliceOwnTo rfl rfl (by first | omega | assumption)) rfl ?_
          refine run_op (loc_move rfl) rfl ?_
          refine run_op (loc_move rfl) rfl ?_
          first | refine run_op (loc_add rfl rfl (by first | omega | assumption)) rfl ?_ | refine run_op (loc_addW rfl rfl) rfl ?_
          refine run_op (loc_move rfl) rfl ?_
          first | refine run_op (loc_sub rfl rfl (by first | omega | assumption)) rfl ?_ | refine run_op (loc_subW rfl rfl) rfl ?_
          refine run_updG rfl (loc_appendZeros (m := xs.length + 1 - i) rfl (opd_conv rfl (by congr 1; omega)) (by omega) (by simp [junk_length]; omega) rfl (by omega) (by unfold lenMax at *; omega)) (fun s hs => ?_)
          refine run_op (loc_assign rfl) rfl ?_
          refine run_nil ?_
          refine run_shutRow (len := xs.length) (cap := cap) (els' := junk 5 (cap - xs.length)) (.there .here) rfl rfl (by simp [junk_length]; omega) hm hlx ?_
          refine run_freezeRow (s := 0) rfl (.there .here) ?_
          refine run_seq ?_
          refine run_region ?_
          refine run_op (loc_move rfl) rfl ?_
          refine run_op (loc_move rfl) rfl ?_
          first | refine run_op (loc_sliceOwnFromLt rfl rfl (by first | omega | assumption)) rfl ?_ | refine run_op (loc_sliceOwnFrom rfl rfl (by first | omega | assumption)) rfl ?_
          refine run_op (loc_move rfl) rfl ?_
          refine run_updS rfl (by first | exact .here | exact .there .here | exact .there (.there .here) | exact .there (.there (.there .here)) | exact .there (.there (.there (.there .here))) | exact .there (.there (.there (.there (.there .here))))) (loc_copyImm rfl rfl (by first | omega | (simp only [List.length_append, List.length_map, junk_length]; omega) | (simp only [List.length_append, List.length_map, junk_length]; split <;> omega) | (simp [put, junk_length]; omega))) (fun _ _ => ?_)
          refine run_nil ?_
          refine run_seq ?_
          refine dr_start _ (.none) [⟨[(9, none)], [], none⟩,
              ⟨[(1, none)], [], none⟩,
              ⟨[(7, none)], [], none⟩,
              ⟨[(47, some (1, false)), (48, some (2, false))], [1, 2], none⟩,
              ⟨[(46, some (0, false)), (49, some (3, false))], [0, 1, 2, 3], none⟩,
              ⟨[(0, none)], [], none⟩,
              ⟨[(1, none)], [], none⟩,
              ⟨[(51, some (5, false)), (52, some (6, false))], [5, 6], none⟩,
              ⟨[(50, some (4, false)), (53, some (7, false))], [0, 1, 2, 3, 4, 5, 6, 7], some (0, 0, true)⟩] [_] _ rfl rfl ?_
          refine dq_pure rfl (fun s => .g rfl (.nil)) (fun s hs _ => loc_move rfl) (by exact .nil) ?_
          refine dq_pure rfl (fun s => .g rfl (.nil)) (fun s hs _ => loc_move rfl) (by exact .nil) ?_
          refine dq_pure rfl (fun s => .g rfl (.nil)) (fun s hs _ => loc_move rfl) (by exact .nil) ?_
          first | refine dq_pure rfl (fun s => .op rfl (.op rfl (.nil))) (fun s hs _ => loc_add rfl rfl (by first | omega | assumption)) (by exact .nil) ?_ | refine dq_pure rfl (fun s => .op rfl (.op rfl (.nil))) (fun s hs _ => loc_addW rfl rfl) (by exact .nil) ?_
          first | refine dq_pure rfl (fun s => .op rfl (.op rfl (.nil))) (fun s hs _ => loc_sliceOwnFromLt rfl rfl (by first | omega | assumption)) (by exact .nil) ?_ | refine dq_pure rfl (fun s => .op rfl (.op rfl (.nil))) (fun s hs _ => loc_sliceOwnFrom rfl rfl (by first | omega | assumption)) (by exact .nil) ?_
          refine dq_pure rfl (fun s => .g rfl (.nil)) (fun s hs _ => loc_move rfl) (by exact .nil) ?_
          refine dq_pure rfl (fun s => .g rfl (.nil)) (fun s hs _ => loc_move rfl) (by exact .nil) ?_
          refine dq_pure rfl (fun s => .op rfl (.op rfl (.nil))) (fun s hs _ => loc_sliceFrom rfl rfl (by first | omega | assumption)) (by exact .nil) ?_
          refine dq_write rfl (fun s => .op rfl (.op rfl (.nil))) rfl rfl (fun s hs => loc_copyImm rfl rfl (by first | omega | (simp only [List.length_append, List.length_map, junk_length]; omega) | (simp only [List.length_append, List.length_map, junk_length]; split <;> omega) | (simp [put, junk_length]; omega))) (by exact .nil) ?_
          refine dq_end (rs := [_]) () rfl (fun _ => rfl) (.nil) rfl (fun _ _ => ?_)
          dsimp only [outG, outM, List.map, List.set, id]
          refine run_seq ?_
          refine run_region ?_
          refine run_op (loc_move rfl) rfl ?_
          refine run_op (loc_assign rfl) rfl ?_
          refine run_nil ?_
          refine run_ret (sl s.1 5 0 (xs.length + 1) s.2) Try.func63 rfl rfl ?_ (trivial) (fun _ _ h => inv_shut h ((insert_grow (A := xs.map cStrt) (i := i) (c := s.2) (x := cStrt e0) (by simp; omega) (by omega) (by omega) (by omega) (by rw [List.take_of_length_le (by simp; omega)]; rfl) (by rw [List.take_of_length_le (by simp; omega), List.map_drop]; congr 1) (by simp; omega) (by simp [junk_length])).trans (congrArg (· ++ _) (by simp))) (by simp; omega) (by simp [junk_length]; omega) (by omega) (by simp; unfold lenMax; omega))
          exact fun _ _ h => by rwa [show (i : Int).toNat + (xs.length + 1 - i) = xs.length + 1 by omega] at h
        ·
          refine run_skip ?_
          refine run_seq ?_
          refine run_region ?_
          refine run_op (loc_move rfl) rfl ?_
          refine run_op (loc_move rfl) rfl ?_
          refine run_op (loc_move rfl) rfl ?_
          first | refine run_op (loc_add rfl rfl (by first | omega | assumption)) rfl ?_ | refine run_op (loc_addW rfl rfl) rfl ?_
          refine run_op (loc_sliceOwnTo rfl rfl (by first | omega | assumption)) rfl ?_
          refine run_op (loc_assign rfl) rfl ?_
          refine run_nil ?_
          refine run_seq ?_
          refine run_seq ?_
          refine run_region ?_
          refine run_op (loc_move rfl) rfl ?_
          refine run_op (loc_move rfl) rfl ?_
          refine run_op (loc_move rfl) rfl ?_
          refine run_op (loc_move rfl) rfl ?_
          first | refine run_op (loc_add rfl rfl (by first | omega | assumption)) rfl ?_ | refine run_op (loc_addW rfl rfl) rfl ?_
          first | refine run_op (loc_sliceOwnFromLt rfl rfl (by first | omega | assumption)) rfl ?_ | refine run_op (loc_sliceOwnFrom rfl rfl (by first | omega | assumption)) rfl ?_
          refine run_op (loc_overlaps rfl rfl (by first | exact .here | exact .there .here | exact .there (.there .here) | exact .there (.there (.there .here)) | exact .there (.there (.there (.there .here))) | exact .there (.there (.there (.there (.there .here))))) (by simp only [List.length_append, List.length_map, junk_length]; omega)) rfl ?_
          refine run_op (loc_not rfl) rfl ?_
          refine run_nil ?_
          refine run_cond rfl (fun h4 => ?_) (fun h4 => ?_)
          ·
            refine run_seq ?_
            refine dr_start _ (.none) [⟨[(0, none)], [], none⟩,
                ⟨[(1, none)], [], none⟩,
                ⟨[(7, none)], [], none⟩,
                ⟨[(70, some (1, false)), (71, some (2, false))], [1, 2], none⟩,
                ⟨[(69, some (0, false)), (72, some (3, false))], [0, 1, 2, 3], none⟩,
                ⟨[(0, none)], [], none⟩,
                ⟨[(1, none)], [], none⟩,
                ⟨[(74, some (5, false)), (75, some (6, false))], [5, 6], none⟩,
                ⟨[(73, some (4, false)), (76, some (7, false))], [0, 1, 2, 3, 4, 5, 6, 7], some (0, 0, true)⟩] [_] _ rfl rfl ?_
            refine dq_pure rfl (fun s => .g rfl (.nil)) (fun s hs _ => loc_move rfl) (by exact .nil) ?_
            refine dq_pure rfl (fun s => .g rfl (.nil)) (fun s hs _ => loc_move rfl) (by exact .nil) ?_
            refine dq_pure rfl (fun s => .g rfl (.nil)) (fun s hs _ => loc_move rfl) (by exact .nil) ?_
            first | refine dq_pure rfl (fun s => .op rfl (.op rfl (.nil))) (fun s hs _ => loc_add rfl rfl (by first | omega | assumption)) (by exact .nil) ?_ | refine dq_pure rfl (fun s => .op rfl (.op rfl (.nil))) (fun s hs _ => loc_addW rfl rfl) (by exact .nil) ?_
            first | refine dq_pure rfl (fun s => .op rfl (.op rfl (.nil))) (fun s hs _ => loc_sliceOwnFromLt rfl rfl (by first | omega | assumption)) (by exact .nil) ?_ | refine dq_pure rfl (fun s => .op rfl (.op rfl (.nil))) (fun s hs _ => loc_sliceOwnFrom rfl rfl (by first | omega | assumption)) (by exact .nil) ?_
            refine dq_pure rfl (fun s => .g rfl (.nil)) (fun s hs _ => loc_move rfl) (by exact .nil) ?_
            refine dq_pure rfl (fun s => .g rfl (.nil)) (fun s hs _ => loc_move rfl) (by exact .nil) ?_
            first | refine dq_pure rfl (fun s => .op rfl (.op rfl (.nil))) (fun s hs _ => loc_sliceOwnFromLt rfl rfl (by first | omega | assumption)) (by exact .nil) ?_ | refine dq_pure rfl (fun s => .op rfl (.op rfl (.nil))) (fun s hs _ => loc_sliceOwnFrom rfl rfl (by first | omega | assumption)) (by exact .nil) ?_
            refine dq_write rfl (fun s => .op rfl (.op rfl (.nil))) rfl rfl (fun s hs => loc_copyOwn rfl rfl (by first | omega | (simp only [List.length_append, List.length_map, junk_length]; omega) | (simp only [List.length_append, List.length_map, junk_length]; split <;> omega) | (simp [put, junk_length]; omega)) (one_part (by first | omega | (split <;> omega)))) (by exact .nil) ?_
            refine dq_end (rs := [_]) () rfl (fun _ => rfl) (.nil) rfl (fun _ _ => ?_)
            dsimp only [outG, outM, List.map, List.set, id]
            refine run_seq ?_
            refine run_region ?_
            refine run_op (loc_move rfl) rfl ?_
            refine run_op (loc_move rfl) rfl ?_
            first | refine run_op (loc_sliceOwnFromLt rfl rfl (by first | omega | assumption)) rfl ?_ | refine run_op (loc_sliceOwnFrom rfl rfl (by first | omega | assumption)) rfl ?_
            refine run_op (loc_move rfl) rfl ?_
            refine run_updS rfl (by first | exact .here | exact .there .here | exact .there (.there .here) | exact .there (.there (.there .here)) | exact .there (.there (.there (.there .here))) | exact .there (.there (.there (.there (.there .here))))) (loc_copyImm rfl rfl (by first | omega | (simp only [List.length_append, List.length_map, junk_length]; omega) | (simp only [List.length_append, List.length_map, junk_length]; split <;> omega) | (simp [put, junk_length]; omega))) (fun _ _ => ?_)
            refine run_nil ?_
            refine run_seq ?_
            refine run_region ?_
            refine run_op (loc_move rfl) rfl ?_
            refine run_op (loc_assign rfl) rfl ?_
            refine run_nil ?_
            refine run_ret (sl b 5 0 (xs.length + 1) cap) Try.func63 rfl rfl ?_ (trivial) (fun _ _ h => inv_shut h ((insert_list (A := xs.map cStrt) (i := i) (x := cStrt e0) (by simp; omega) (by omega) (by omega) (by omega) (by simp; omega) (by rw [List.take_of_length_le (by simp; omega)]; rfl) (by simp [junk_length]; omega)).trans (congrArg (· ++ _) (by simp))) (by simp; omega) (by simp [junk_length]; omega) (by omega) (by simp; unfold lenMax; omega))
            exact fun _ _ h => h
          · exfalso; exact h4 (fun h => h)

theorem deletePn_spec (v : Value) (xs : List (Pn)) (i j : Nat) (hi : i < j) (hj : j ≤ xs.length) :
    Spec Try.prog 58 [dVal v, dInt .i64 (i : Nat), dInt .i64 (j : Nat)] [rRow v 46 2 cPn xs] (σ := Value) (fun _ => True) (fun v => dVal v) (fun v => [rRow v 46 2 cPn (xs.take i ++ xs.drop j)]) := by
  refine spec_of_body Try.func58 rfl rfl (fun I F => ?_)
  refine run_openRow .here (by intro hx; subst hx; simp at hj; omega) (fun b cap hv hc hm hlx hfn => ?_)
  subst hv
  refine run_seq ?_
  refine run_region ?_
  refine run_op (loc_assign rfl) rfl ?_
  refine run_nil ?_
  refine run_seq ?_
  refine run_region ?_
  refine run_op (loc_move rfl) rfl ?_
  refine run_op (loc_move rfl) rfl ?_
  refine run_op (loc_move rfl) rfl ?_
  refine run_op (loc_move rfl) rfl ?_
  refine run_op (loc_lenOwn rfl) rfl ?_
  refine run_op (loc_sliceOwn3 rfl rfl rfl rfl (by first | omega | assumption)) rfl ?_
  refine run_nil ?_
  refine run_seq ?_
  refine run_seq ?_
  refine run_region ?_
  refine run_op (loc_move rfl) rfl ?_
  refine run_op (loc_move rfl) rfl ?_
  refine run_op (loc_eql rfl rfl) rfl ?_
  refine run_nil ?_
  refine run_cond rfl (fun h1 => ?_) (fun h1 => ?_)
  · exfalso; omega
  ·
    refine run_skip ?_
    refine run_seq ?_
    refine run_region ?_
    refine run_op (loc_move rfl) rfl ?_
    refine run_op (loc_lenOwn rfl) rfl ?_
    refine run_op (loc_assign rfl) rfl ?_
    refine run_nil ?_
    refine run_seq ?_
    refine dr_start _ (.none) [⟨[(0, none)], [], none⟩,
        ⟨[(1, none)], [], none⟩,
        ⟨[(20, some (0, false)), (21, some (1, false))], [0, 1], none⟩,
        ⟨[(0, none)], [], none⟩,
        ⟨[(2, none)], [], none⟩,
        ⟨[(23, some (3, false)), (24, some (4, false))], [3, 4], none⟩,
        ⟨[(22, some (2, false)), (25, some (5, false))], [0, 1, 2, 3, 4, 5], some (0, 0, true)⟩,
        ⟨[(26, some (6, false))], [0, 1, 2, 3, 4, 5, 6], none⟩] [_] _ rfl rfl ?_
    refine dq_pure rfl (fun s => .g rfl (.nil)) (fun s hs _ => loc_move rfl) (by exact .nil) ?_
    refine dq_pure rfl (fun s => .g rfl (.nil)) (fun s hs _ => loc_move rfl) (by exact .nil) ?_
    refine dq_pure rfl (fun s => .op rfl (.op rfl (.nil))) (fun s hs _ => loc_sliceOwnTo rfl rfl (by first | omega | assumption)) (by exact .nil) ?_
    refine dq_pure rfl (fun s => .g rfl (.nil)) (fun s hs _ => loc_move rfl) (by exact .nil) ?_
    refine dq_pure rfl (fun s => .g rfl (.nil)) (fun s hs _ => loc_move rfl) (by exact .nil) ?_
    first | refine dq_pure rfl (fun s => .op rfl (.op rfl (.nil))) (fun s hs _ => loc_sliceOwnFromLt rfl rfl (by first | omega | assumption)) (by exact .nil) ?_ | refine dq_pure rfl (fun s => .op rfl (.op rfl (.nil))) (fun s hs _ => loc_sliceOwnFrom rfl rfl (by first | omega | assumption)) (by exact .nil) ?_
    refine dq_write rfl (fun s => .op rfl (.op rfl (.nil))) rfl rfl (fun s hs => loc_appendOwn rfl rfl (by first | omega | (simp only [List.length_append, List.length_map, junk_length]; omega) | (simp only [List.length_append, List.length_map, junk_length]; split <;> omega) | (simp [put, junk_length]; omega)) (by first | omega | (simp only [List.length_append, List.length_map, junk_length]; omega) | (simp only [List.length_append, List.length_map, junk_length]; split <;> omega) | (simp [put, junk_length]; omega)) rfl (one_part (by first | omega | (split <;> omega)))) (by exact .nil) ?_
    refine dq_pure rfl (fun s => .op rfl (.nil)) (fun s hs _ => loc_assign rfl) (by exact .nil) ?_
    refine dq_end (rs := [_]) () rfl (fun _ => rfl) (.nil) rfl (fun _ _ => ?_)
    dsimp only [outG, outM, List.map, List.set, id]
    refine run_seq ?_
    rw [show (i : Int).toNat + (xs.length - (j : Int).toNat) = i + (xs.length - j) by omega]
    refine run_region ?_
    refine run_op (loc_move rfl) rfl ?_
    refine run_op (loc_move rfl) rfl ?_
    refine run_op (loc_lenOwn rfl) rfl ?_
    refine run_op (loc_move rfl) rfl ?_
    first | refine run_op (loc_sliceOwnLt rfl rfl rfl (by first | omega | assumption)) rfl ?_ | refine run_op (loc_sliceOwn rfl rfl rfl (by first | omega | assumption)) rfl ?_
    refine run_updS0 (by first | exact .here | exact .there .here | exact .there (.there .here) | exact .there (.there (.there .here)) | exact .there (.there (.there (.there .here))) | exact .there (.there (.there (.there (.there .here))))) (loc_clearOwn rfl (by first | omega | (simp only [List.length_append, List.length_map, junk_length]; omega) | (simp only [List.length_append, List.length_map, junk_length]; split <;> omega) | (simp [put, junk_length]; omega)) rfl (by simp [Value.cells, Value.oneCell'])) (fun _ _ => ?_)
    refine run_nil ?_
    refine run_seq ?_
    refine run_region ?_
    refine run_op (loc_move rfl) rfl ?_
    refine run_op (loc_assign rfl) rfl ?_
    refine run_nil ?_
    refine run_ret (sl b 2 0 (i + (xs.length - j)) cap) Try.func58 rfl rfl ?_ (trivial) (fun _ _ h => by rw [if_neg (by omega)] at h; exact inv_shut h ((delete_list (A := xs.map cPn) (i := i) (j := j) (by omega) (by simp; omega) (by omega) (fun hm => by split <;> omega) (by simp) (by simp; omega) (by omega)).trans (congrArg (· ++ _) (by simp))) (by simp; omega) (by simp [junk_length]; omega) (by omega) (by simp; unfold lenMax at *; omega))
    exact fun _ _ h => h

theorem deleteSt_spec (v : Value) (xs : List (Strt)) (i j : Nat) (hi : i < j) (hj : j ≤ xs.length) :
    Spec Try.prog 68 [dVal v, dInt .i64 (i : Nat), dInt .i64 (j : Nat)] [rRow v 68 5 cStrt xs] (σ := Value) (fun _ => True) (fun v => dVal v) (fun v => [rRow v 68 5 cStrt (xs.take i ++ xs.drop j)]) := by
  refine spec_of_body Try.func68 rfl rfl (fun I F => ?_)
  refine run_openRow .here (by intro hx; subst hx; simp at hj; omega) (fun b cap hv hc hm hlx hfn => ?_)
  subst hv
  refine run_seq ?_
  refine run_region ?_
  refine run_op (loc_assign rfl) rfl ?_
  refine run_nil ?_
  refine run_seq ?_
  refine run_region ?_
  refine run_op (loc_move rfl) rfl ?_
  refine run_op (loc_move rfl) rfl ?_
  refine run_op (loc_move rfl) rfl ?_
  refine run_op (loc_move rfl) rfl ?_
  refine run_op (loc_lenOwn rfl) rfl ?_
  refine run_op (loc_sliceOwn3 rfl rfl rfl rfl (by first | omega | assumption)) rfl ?_
  refine run_nil ?_
  refine run_seq ?_
  refine run_seq ?_
  refine run_region ?_
  refine run_op (loc_move rfl) rfl ?_
  refine run_op (loc_move rfl) rfl ?_
  refine run_op (loc_eql rfl rfl) rfl ?_
  refine run_nil ?_
  refine run_cond rfl (fun h1 => ?_) (fun h1 => ?_)
  · exfalso; omega
  ·
    refine run_skip ?_
    refine run_seq ?_
    refine run_region ?_
    refine run_op (loc_move rfl) rfl ?_
    refine run_op (loc_lenOwn rfl) rfl ?_
    refine run_op (loc_assign rfl) rfl ?_
    refine run_nil ?_
    refine run_seq ?_
    refine dr_start _ (.none) [⟨[(0, none)], [], none⟩,
        ⟨[(1, none)], [], none⟩,
        ⟨[(20, some (0, false)), (21, some (1, false))], [0, 1], none⟩,
        ⟨[(0, none)], [], none⟩,
        ⟨[(2, none)], [], none⟩,
        ⟨[(23, some (3, false)), (24, some (4, false))], [3, 4], none⟩,
        ⟨[(22, some (2, false)), (25, some (5, false))], [0, 1, 2, 3, 4, 5], some (0, 0, true)⟩,
        ⟨[(26, some (6, false))], [0, 1, 2, 3, 4, 5, 6], none⟩] [_] _ rfl rfl ?_
    refine dq_pure rfl (fun s => .g rfl (.nil)) (fun s hs _ => loc_move rfl) (by exact .nil) ?_
    refine dq_pure rfl (fun s => .g rfl (.nil)) (fun s hs _ => loc_move rfl) (by exact .nil) ?_
    refine dq_pure rfl (fun s => .op rfl (.op rfl (.nil))) (fun s hs _ => loc_sliceOwnTo rfl rfl (by first | omega | assumption)) (by exact .nil) ?_
    refine dq_pure rfl (fun s => .g rfl (.nil)) (fun s hs _ => loc_move rfl) (by exact .nil) ?_
    refine dq_pure rfl (fun s => .g rfl (.nil)) (fun s hs _ => loc_move rfl) (by exact .nil) ?_
    first | refine dq_pure rfl (fun s => .op rfl (.op rfl (.nil))) (fun s hs _ => loc_sliceOwnFromLt rfl rfl (by first | omega | assumption)) (by exact .nil) ?_ | refine dq_pure rfl (fun s => .op rfl (.op rfl (.nil))) (fun s hs _ => loc_sliceOwnFrom rfl rfl (by first | omega | assumption)) (by exact .nil) ?_
    refine dq_write rfl (fun s => .op rfl (.op rfl (.nil))) rfl rfl (fun s hs => loc_appendOwn rfl rfl (by first | omega | (simp only [List.length_append, List.length_map, junk_length]; omega) | (simp only [List.length_append, List.length_map, junk_length]; split <;> omega) | (simp [put, junk_length]; omega)) (by first | omega | (simp only [List.length_append, List.length_map, junk_length]; omega) | (simp only [List.length_append, List.length_map, junk_length]; split <;> omega) | (simp [put, junk_length]; omega)) rfl (one_part (by first | omega | (split <;> omega)))) (by exact .nil) ?_
    refine dq_pure rfl (fun s => .op rfl (.nil)) (fun s hs _ => loc_assign rfl) (by exact .nil) ?_
    refine dq_end (rs := [_]) () rfl (fun _ => rfl) (.nil) rfl (fun _ _ => ?_)
    dsimp only [outG, outM, List.map, List.set, id]
    refine run_seq ?_
    rw [show (i : Int).toNat + (xs.length - (j : Int).toNat) = i + (xs.length - j) by omega]
    refine run_region ?_
    refine run_op (loc_move rfl) rfl ?_
    refine run_op (loc_move rfl) rfl ?_
    refine run_op (loc_lenOwn rfl) rfl ?_
    refine run_op (loc_move rfl) rfl ?_
    first | refine run_op (loc_sliceOwnLt rfl rfl rfl (by first | omega | assumption)) rfl ?_ | refine run_op (loc_sliceOwn rfl rfl rfl (by first | omega | assumption)) rfl ?_
    refine run_updS0 (by first | exact .here | exact .there .here | exact .there (.there .here) | exact .there (.there (.there .here)) | exact .there (.there (.there (.there .here))) | exact .there (.there (.there (.there (.there .here))))) (loc_clearOwn rfl (by first | omega | (simp only [List.length_append, List.length_map, junk_length]; omega) | (simp only [List.length_append, List.length_map, junk_length]; split <;> omega) | (simp [put, junk_length]; omega)) rfl (by simp [Value.cells, Value.oneCell'])) (fun _ _ => ?_)
    refine run_nil ?_
    refine run_seq ?_
    refine run_region ?_
    refine run_op (loc_move rfl) rfl ?_
    refine run_op (loc_assign rfl) rfl ?_
    refine run_nil ?_
    refine run_ret (sl b 5 0 (i + (xs.length - j)) cap) Try.func68 rfl rfl ?_ (trivial) (fun _ _ h => by rw [if_neg (by omega)] at h; exact inv_shut h ((delete_list (A := xs.map cStrt) (i := i) (j := j) (by omega) (by simp; omega) (by omega) (fun hm => by split <;> omega) (by simp) (by simp; omega) (by omega)).trans (congrArg (· ++ _) (by simp))) (by simp; omega) (by simp [junk_length]; omega) (by omega) (by simp; unfold lenMax at *; omega))
    exact fun _ _ h => h

theorem indexFuncI0_spec (v : Value) (d : D) : Spec Try.prog 82 [dVal v, d] [rRow v 3 1 fI []] (σ := Unit) (fun _ => True) (fun _ => dInt .i64 (-1)) (fun _ => [rRow v 3 1 fI []]) := by
  refine spec_of_body Try.func82 rfl rfl (fun I F => ?_)
  refine run_seq ?_
  refine run_region ?_
  refine run_op (loc_assign rfl) rfl ?_
  refine run_nil ?_
  refine run_seq ?_
  refine run_seq ?_
  refine run_region ?_
  refine run_op (loc_move rfl) rfl ?_
  refine run_op (loc_lenRow rfl (by first | exact .here | exact .there .here | exact .there (.there .here) | exact .there (.there (.there .here)) | exact .there (.there (.there (.there .here))) | exact .there (.there (.there (.there (.there .here)))))) rfl ?_
  refine run_op (loc_move rfl) rfl ?_
  refine run_nil ?_
  refine run_block ?_
  refine run_loopC (σ := Unit) (ks := [0, 1, 7]) (.cons rfl (.cons rfl (.cons rfl (.nil)))) (fun _ => [(8, dInt .i64 0)]) (fun _ => True) (fun _ => 0) (()) (trivial) (.cons rfl (by first | exact fun _ _ h => h | exact d_int (by omega) | exact d_int (by simp) | exact d_intN (by omega) | exact d_any) .nil) ?_
  intro _ hφ ih1
  refine run_seq ?_
  refine run_region ?_
  refine run_op (loc_lss rfl rfl) rfl ?_
  refine run_nil ?_
  refine run_seq ?_
  refine run_cond rfl (fun h2 => ?_) (fun h2 => ?_)
  · exfalso; exact absurd h2 (by simp)
  ·
    refine run_exit rfl ?_
    refine run_seq ?_
    refine run_region ?_
    refine run_op (loc_assign rfl) rfl ?_
    refine run_nil ?_
    refine run_ret (()) Try.func82 rfl rfl ?_ (trivial) (fun _ _ h => h)
    exact fun _ _ h => h

theorem indexFuncI_specS {σ : Type} (Rs : σ → List Res) (A : Int → σ → Prop) (Step : σ → Int → σ → Prop) (q : Int → Prop) (xs : List (Int)) (J : List (List D)) (b cap : Nat) (s0 : σ) (hl : xs.length ≤ 17592186044416) (hA : ∀ k s', k < xs.length → stepsL Step s0 (xs.take k) s' → A (xs[k]?.getD default) s') :
    Spec Try.prog 82 [dVal (sl b 1 0 xs.length cap), dFunS Try.prog (fun x : Int => [dInt .i64 x]) Rs A Step q] (rBuf b 3 1 (xs.map fI ++ J) :: Rs s0) (fun s' => stepsL Step s0 (xs.take (if idxP q xs < 0 then xs.length else (idxP q xs).toNat + 1)) s') (fun _ => dInt .i64 (idxP q xs)) (fun s' => rBuf b 3 1 (xs.map fI ++ J) :: Rs s') := by
  refine spec_of_body Try.func82 rfl rfl (fun I F => ?_)
  show Run _ _ _ _ _ _ (rBuf b 3 1 (xs.map fI ++ J) :: (Rs s0 ++ F)) _
  refine run_seq ?_
  refine run_region ?_
  refine run_op (loc_assign rfl) rfl ?_
  refine run_nil ?_
  refine run_seq ?_
  refine run_seq ?_
  refine run_region ?_
  refine run_op (loc_move rfl) rfl ?_
  refine run_op (loc_lenOwn rfl) rfl ?_
  refine run_op (loc_move rfl) rfl ?_
  refine run_nil ?_
  refine run_block ?_
  refine run_loopE (σ := Nat × σ) (ks := [0, 1, 7]) (.cons rfl (.cons rfl (.cons rfl (.nil)))) (fun s => [(8, dInt .i64 (s.1 : Nat))]) (fun s => rBuf b 3 1 (xs.map fI ++ J) :: (Rs s.2 ++ F)) (fun s => s.1 ≤ xs.length ∧ (∀ j, j < s.1 → ¬ q (xs[j]?.getD default)) ∧ stepsL Step s0 (xs.take s.1) s.2) (fun s => xs.length - s.1) ((0, s0)) (⟨by simp, fun j hj => by simp at hj, rfl⟩) (.cons rfl (by first | exact fun _ _ h => h | exact d_int (by omega) | exact d_int (by simp) | exact d_intN (by omega) | exact d_any) .nil) (rfl) ?_
  rintro s ⟨hk, hb, hst⟩ ih1
  refine run_seq ?_
  refine run_region ?_
  refine run_op (loc_lss rfl rfl) rfl ?_
  refine run_nil ?_
  refine run_seq ?_
  refine run_cond rfl (fun h2 => ?_) (fun h2 => ?_)
  ·
    refine run_skip ?_
    refine run_seq ?_
    refine run_block ?_
    refine run_seq ?_
    refine run_region ?_
    refine run_op (loc_move rfl) rfl ?_
    refine run_op (loc_assign rfl) rfl ?_
    refine run_nil ?_
    refine run_seq ?_
    refine run_region ?_
    refine run_op (loc_move rfl) rfl ?_
    refine run_op (loc_move rfl) rfl ?_
    refine run_op (loc_move rfl) rfl ?_
    refine run_op (loc_indexOwn rfl rfl (by first | omega | assumption)) rfl ?_
    refine run_op (loc_loadBuf1 rfl (by first | exact .here | exact .there .here | exact .there (.there .here) | exact .there (.there (.there .here)) | exact .there (.there (.there (.there .here))) | exact .there (.there (.there (.there (.there .here))))) (by exact buf_get (i := s.1) (by omega) (by simp))) rfl ?_
    refine run_opU rfl (loc_callFunS (xs[s.1]?.getD default) s.2 (hA _ _ (by omega) hst) rfl rfl) (fun s1 hs1 => ?_)
    refine run_nil ?_
    refine run_cond rfl (fun h3 => ?_) (fun h3 => ?_)
    ·
      refine run_seq ?_
      refine run_region ?_
      refine run_op (loc_move rfl) rfl ?_
      refine run_op (loc_assign rfl) rfl ?_
      refine run_nil ?_
      refine run_ret (s1) Try.func82 rfl rfl ?_ (by rw [idxP_at (by omega) hb (by assumption), if_neg (by omega), show (s.1 : Int).toNat + 1 = s.1 + 1 by omega, take_snoc (by omega)]; exact stepsL_snoc hst hs1) (fun _ _ h => h)
      exact d_int (idxP_at (by omega) hb (by assumption)).symm
    ·
      refine run_skip ?_
      refine run_inBlock ?_
      refine run_region ?_
      first | refine run_op (loc_add rfl rfl (by first | omega | assumption)) rfl ?_ | refine run_op (loc_addW rfl rfl) rfl ?_
      refine run_op (loc_move rfl) rfl ?_
      refine run_nil ?_
      exact run_againE ih1 ((s.1 + 1, s1)) (⟨by simp; omega, fun j hj => by by_cases e : j = s.1; (· rw [e]; assumption); (· exact hb j (by simp at hj; omega)), by simp only; rw [take_snoc (by omega)]; exact stepsL_snoc hst hs1⟩) (by simp; omega) (.cons rfl (by first | exact fun _ _ h => h | exact d_int (by omega) | exact d_int (by simp) | exact d_intN (by omega) | exact d_any) .nil) (.cons rfl (fun _ _ x => x) (.cons rfl (fun _ _ x => x) (.cons rfl (fun _ _ x => x) (.nil)))) (rfl)
  ·
    refine run_exit rfl ?_
    refine run_seq ?_
    refine run_region ?_
    refine run_op (loc_assign rfl) rfl ?_
    refine run_nil ?_
    refine run_ret (s.2) Try.func82 rfl rfl ?_ (by rw [idxP_none (forall_getD (fun j hj => hb j (by omega))), if_pos (by omega)]; rwa [List.take_of_length_le (by omega)] at hst ⊢) (fun _ _ h => h)
    exact d_int (idxP_none (forall_getD (fun j hj => hb j (by omega)))).symm

theorem deleteFuncI_spec {σ : Type} (Rs : σ → List Res) (A : Int → σ → Prop) (Step : σ → Int → σ → Prop) (q : Int → Prop) (v : Value) (xs : List (Int)) (s0 : σ) (hA : ∀ k s', k < xs.length → stepsL Step s0 (xs.take k) s' → A (xs[k]?.getD default) s') :
    Spec Try.prog 56 [dVal v, dFunS Try.prog (fun x : Int => [dInt .i64 x]) Rs A Step q] (rRow v 3 1 fI xs :: Rs s0) (σ := Value × σ) (fun p => stepsL Step s0 xs p.2) (fun p => dVal p.1) (fun p => rRow p.1 3 1 fI (flt (fun x => ¬ q x) xs) :: Rs p.2) := by
  refine spec_of_body Try.func56 rfl rfl (fun I F => ?_)
  by_cases hx : xs = []
  · subst hx
    show Run _ _ _ _ _ _ (rRow v 3 1 fI [] :: (Rs s0 ++ F)) _
    refine run_seq ?_
    refine run_region ?_
    refine run_op (loc_assign rfl) rfl ?_
    refine run_nil ?_
    refine run_seq ?_
    refine run_region ?_
    refine run_op (loc_move rfl) rfl ?_
    refine run_op (loc_move rfl) rfl ?_
    refine run_callM rfl (by first | exact .here | exact .there .here | exact .there (.there .here) | exact .there (.there (.there .here)) | exact .there (.there (.there (.there .here))) | exact .there (.there (.there (.there (.there .here))))) (indexFuncI0_spec v _) rfl (fun s1 hs1 => ?_)
    refine run_op (loc_assign rfl) rfl ?_
    refine run_nil ?_
    refine run_seq ?_
    refine run_seq ?_
    refine run_region ?_
    refine run_op (loc_move rfl) rfl ?_
    refine run_op (loc_eql rfl rfl) rfl ?_
    refine run_nil ?_
    refine run_cond rfl (fun h2 => ?_) (fun h2 => ?_)
    ·
      refine run_seq ?_
      refine run_region ?_
      refine run_op (loc_move rfl) rfl ?_
      refine run_op (loc_assign rfl) rfl ?_
      refine run_nil ?_
      refine run_ret ((v, s0)) Try.func56 rfl rfl ?_ (rfl) (fun _ _ h => h)
      exact fun _ _ h => h
    · exfalso; exact h2 rfl
  · refine run_openRow .here hx (fun b cap hv hc hm hlx hfn => ?_)
    subst hv
    show Run _ _ _ _ _ _ (rBuf b 3 1 (xs.map fI ++ junk 1 (cap - xs.length)) :: (Rs s0 ++ F)) _
    refine run_seq ?_
    have hge := idxP_ge q xs
    have hltx := idxP_lt (q := q) (xs := xs)
    unfold lenMax at hlx
    refine run_region ?_
    refine run_op (loc_assign rfl) rfl ?_
    refine run_nil ?_
    refine run_seq ?_
    refine run_region ?_
    refine run_op (loc_move rfl) rfl ?_
    refine run_op (loc_move rfl) rfl ?_
    refine run_opC rfl (loc_callM (indexFuncI_specS Rs A Step q xs (junk 1 (cap - xs.length)) b cap s0 (by omega) hA) rfl) (fun s1 hs1 => ?_)
    refine run_op (loc_assign rfl) rfl ?_
    refine run_nil ?_
    refine run_seq ?_
    refine run_seq ?_
    refine run_region ?_
    refine run_op (loc_move rfl) rfl ?_
    refine run_op (loc_eql rfl rfl) rfl ?_
    refine run_nil ?_
    refine run_cond rfl (fun h1 => ?_) (fun h1 => ?_)
    ·
      have hn := idxP_neg (show idxP q xs < 0 by omega)
      rw [if_pos (by omega), List.take_length] at hs1
      refine run_seq ?_
      refine run_region ?_
      refine run_op (loc_move rfl) rfl ?_
      refine run_op (loc_assign rfl) rfl ?_
      refine run_nil ?_
      refine run_ret ((sl b 1 0 xs.length cap, s1)) Try.func56 rfl rfl ?_ (hs1) (fun _ _ h => by rw [show flt (fun x => ¬ q x) xs = xs from flt_all hn]; exact inv_shut h rfl rfl (by simp [junk_length]; omega) hm (by unfold lenMax; omega))
      exact fun _ _ h => h
    ·
      rw [if_neg (by omega)] at hs1
      refine run_skip ?_
      refine run_seq ?_
      refine run_seq ?_
      refine run_region ?_
      refine run_op (loc_move rfl) rfl ?_
      first | refine run_op (loc_add rfl rfl (by first | omega | assumption)) rfl ?_ | refine run_op (loc_addW rfl rfl) rfl ?_
      refine run_op (loc_assign rfl) rfl ?_
      refine run_nil ?_
      refine run_block ?_
      have hg := idxP_get (q := q) (xs := xs) (idxP q xs).toNat (by omega)
      refine run_loopE (σ := Nat × List (Int) × σ) (ks := [0, 1]) (.cons rfl (.cons rfl (.nil))) (fun s => [(5, dInt .i64 (flt (fun x => ¬ q x) (xs.take s.1)).length), (6, dInt .i64 (s.1 : Nat))]) (fun s => rBuf b 3 1 ((flt (fun x => ¬ q x) (xs.take s.1) ++ s.2.1 ++ xs.drop s.1).map fI ++ junk 1 (cap - xs.length)) :: (Rs s.2.2 ++ F)) (fun s => s.1 ≤ xs.length ∧ (flt (fun x => ¬ q x) (xs.take s.1)).length + s.2.1.length = s.1 ∧ 0 < s.2.1.length ∧ stepsL Step s0 (xs.take s.1) s.2.2) (fun s => xs.length - s.1) (((idxP q xs).toNat + 1, [xs[(idxP q xs).toNat]?.getD default], s1)) (⟨by simp; omega, by simp only [List.length_singleton]; rw [flt_take _ (by omega), if_neg (Classical.not_not.2 hg.2.2), List.append_nil, flt_all (forall_getD (fun j hj => by simp at hj; rw [List.getElem?_take, if_pos (by omega)]; exact hg.2.1 j (by omega)))]; simp; omega, by simp, hs1⟩) (.cons rfl (d_int (by simp only; rw [flt_take _ (by omega), if_neg (Classical.not_not.2 hg.2.2), List.append_nil, flt_all (forall_getD (fun j hj => by simp at hj; rw [List.getElem?_take, if_pos (by omega)]; exact hg.2.1 j (by omega)))]; simp; omega)) (.cons rfl (d_int (by simp; omega)) .nil)) (congrArg (fun z => z :: (Rs s1 ++ F)) (congrArg (rBuf b 3 1) (delf_start hg.1 hg.2.1 (Classical.not_not.2 hg.2.2)))) ?_
      rintro s ⟨hj, hB, hB0, hst⟩ ih2
      refine run_seq ?_
      refine run_seq ?_
      refine run_region ?_
      refine run_op (loc_move rfl) rfl ?_
      refine run_op (loc_move rfl) rfl ?_
      refine run_op (loc_lenOwn rfl) rfl ?_
      refine run_op (loc_lss rfl rfl) rfl ?_
      refine run_nil ?_
      refine run_cond rfl (fun h3 => ?_) (fun h3 => ?_)
      ·
        refine run_skip ?_
        refine run_seq ?_
        refine run_block ?_
        refine run_seq ?_
        refine run_region ?_
        refine run_op (loc_move rfl) rfl ?_
        refine run_op (loc_move rfl) rfl ?_
        refine run_op (loc_indexOwn rfl rfl (by first | omega | assumption)) rfl ?_
        refine run_op (loc_loadBuf1 rfl (by first | exact .here | exact .there .here | exact .there (.there .here) | exact .there (.there (.there .here)) | exact .there (.there (.there (.there .here))) | exact .there (.there (.there (.there (.there .here))))) (by exact delf_get (j := s.1) (by omega) (by simp) hB)) rfl ?_
        refine run_op (loc_assign rfl) rfl ?_
        refine run_nil ?_
        refine run_seq ?_
        refine run_region ?_
        refine run_op (loc_move rfl) rfl ?_
        refine run_op (loc_move rfl) rfl ?_
        refine run_opU rfl (loc_callFunS (xs[s.1]?.getD default) s.2.2 (hA _ _ (by omega) hst) rfl rfl) (fun s2 hs2 => ?_)
        refine run_op (loc_not rfl) rfl ?_
        refine run_nil ?_
        refine run_cond rfl (fun h4 => ?_) (fun h4 => ?_)
        ·
          refine run_seq ?_
          refine run_region ?_
          refine run_op (loc_move rfl) rfl ?_
          refine run_op (loc_move rfl) rfl ?_
          refine run_op (loc_move rfl) rfl ?_
          refine run_op (loc_indexOwn rfl rfl (by first | omega | assumption)) rfl ?_
          refine run_updS0 (by first | exact .here | exact .there .here | exact .there (.there .here) | exact .there (.there (.there .here)) | exact .there (.there (.there (.there .here))) | exact .there (.there (.there (.there (.there .here))))) (loc_storeBuf1 rfl rfl (by first | omega | (simp only [List.length_append, List.length_map, junk_length]; omega) | (simp only [List.length_append, List.length_map, junk_length]; split <;> omega) | (simp [put, junk_length]; omega))) (fun _ _ => ?_)
          refine run_nil ?_
          refine run_region ?_
          refine run_op (loc_move rfl) rfl ?_
          first | refine run_op (loc_add rfl rfl (by first | omega | assumption)) rfl ?_ | refine run_op (loc_addW rfl rfl) rfl ?_
          refine run_op (loc_assign rfl) rfl ?_
          refine run_nil ?_
          refine run_inBlock ?_
          refine run_region ?_
          refine run_op (loc_move rfl) rfl ?_
          first | refine run_op (loc_add rfl rfl (by first | omega | assumption)) rfl ?_ | refine run_op (loc_addW rfl rfl) rfl ?_
          refine run_op (loc_assign rfl) rfl ?_
          refine run_nil ?_
          exact run_againE ih2 ((s.1 + 1, s.2.1.drop 1 ++ [xs[s.1]?.getD default], s2)) (⟨by simp; omega, by simp only; rw [flt_take _ (by omega), if_pos (by assumption)]; simp; omega, by simp, by simp only; rw [take_snoc (by omega)]; exact stepsL_snoc hst hs2⟩) (by simp; omega) (.cons rfl (d_int (by simp only; rw [flt_take _ (by omega), if_pos (by assumption)]; simp)) (.cons rfl (by first | exact fun _ _ h => h | exact d_int (by omega) | exact d_int (by simp) | exact d_intN (by omega) | exact d_any) .nil)) (.cons rfl (fun _ _ x => x) (.cons rfl (fun _ _ x => x) (.nil))) (by simp only; rw [delf_store (by omega) (by simp) hB0, flt_take _ (by omega), if_pos (by assumption)])
        ·
          have h4x := Classical.not_not.1 h4
          refine run_skip ?_
          refine run_inBlock ?_
          refine run_region ?_
          refine run_op (loc_move rfl) rfl ?_
          first | refine run_op (loc_add rfl rfl (by first | omega | assumption)) rfl ?_ | refine run_op (loc_addW rfl rfl) rfl ?_
          refine run_op (loc_assign rfl) rfl ?_
          refine run_nil ?_
          exact run_againE ih2 ((s.1 + 1, s.2.1 ++ [xs[s.1]?.getD default], s2)) (⟨by simp; omega, by simp only; rw [flt_take _ (by omega), if_neg (Classical.not_not.2 (by assumption))]; simp; omega, by simp, by simp only; rw [take_snoc (by omega)]; exact stepsL_snoc hst hs2⟩) (by simp; omega) (.cons rfl (d_int (by simp only; rw [flt_take _ (by omega), if_neg (Classical.not_not.2 (by assumption)), List.append_nil])) (.cons rfl (by first | exact fun _ _ h => h | exact d_int (by omega) | exact d_int (by simp) | exact d_intN (by omega) | exact d_any) .nil)) (.cons rfl (fun _ _ x => x) (.cons rfl (fun _ _ x => x) (.nil))) (by simp only; rw [delf_skip (by omega), flt_take _ (by omega), if_neg (Classical.not_not.2 (by assumption)), List.append_nil])
      ·
        refine run_exit rfl ?_
        refine run_seq ?_
        refine run_region ?_
        refine run_op (loc_move rfl) rfl ?_
        refine run_op (loc_move rfl) rfl ?_
        first | refine run_op (loc_sliceOwnFromLt rfl rfl (by first | omega | assumption)) rfl ?_ | refine run_op (loc_sliceOwnFrom rfl rfl (by first | omega | assumption)) rfl ?_
        refine run_updS0 (by first | exact .here | exact .there .here | exact .there (.there .here) | exact .there (.there (.there .here)) | exact .there (.there (.there (.there .here))) | exact .there (.there (.there (.there (.there .here))))) (loc_clearOwn rfl (by first | omega | (simp only [List.length_append, List.length_map, junk_length]; omega) | (simp only [List.length_append, List.length_map, junk_length]; split <;> omega) | (simp [put, junk_length]; omega)) rfl (by simp [Value.cells, Value.oneCell'])) (fun _ _ => ?_)
        refine run_nil ?_
        refine run_seq ?_
        refine run_region ?_
        refine run_op (loc_move rfl) rfl ?_
        refine run_op (loc_move rfl) rfl ?_
        refine run_op (loc_sliceOwnTo rfl rfl (by first | omega | assumption)) rfl ?_
        refine run_op (loc_assign rfl) rfl ?_
        refine run_nil ?_
        refine run_ret ((sl b 1 0 (flt (fun x => ¬ q x) (xs.take s.1)).length cap, s.2.2)) Try.func56 rfl rfl ?_ (by rwa [List.take_of_length_le (by omega)] at hst) (fun _ _ h => by rw [List.take_of_length_le (by omega)] at h hB ⊢; rw [if_neg (by omega), delf_end (j := s.1) (by omega) (by simp) (by omega)] at h; exact inv_shut h rfl rfl (by simp [junk_length]; omega) hm (by have := flt_len (fun x => ¬ q x) xs; unfold lenMax; omega))
        exact fun _ _ h => h

theorem repeatIM_spec (xs : List (Int)) (c : Nat) (hb : c * xs.length ≤ 1000000000) (hc : c ≤ 1000000000) (hx : xs.length ≤ 1000000000) :
    Spec Try.prog 89 [dSl 1 fI xs, dInt .i64 (c : Nat)] [] (σ := Value) (fun _ => True) (fun v => dVal v) (fun v => [rRow v 3 1 fI (reps c xs)]) := by
  refine spec_of_body Try.func89 rfl rfl (fun I F => ?_)
  obtain ⟨T, hT⟩ : ∃ T : Nat, T = c * xs.length := ⟨_, rfl⟩
  have hcl : ((xs.length : Nat) : Int) * ((c : Nat) : Int) = ((T : Nat) : Int) := by rw [hT, Nat.mul_comm, Int.natCast_mul]
  refine run_seq ?_
  refine run_region ?_
  refine run_op (loc_assign rfl) rfl ?_
  refine run_nil ?_
  refine run_seq ?_
  refine run_seq ?_
  refine run_region ?_
  refine run_op (loc_move rfl) rfl ?_
  refine run_op (loc_lss rfl rfl) rfl ?_
  refine run_nil ?_
  refine run_cond rfl (fun h1 => ?_) (fun h1 => ?_)
  · exfalso; omega
  ·
    refine run_skip ?_
    refine run_seq ?_
    refine run_region ?_
    refine run_op (loc_move rfl) rfl ?_
    first | refine runL_fact (s := 13) rfl (fun _ _ h => dSl_len h) (fun hlen2 => ?_) | skip
    refine run_op (loc_len rfl) rfl ?_
    first | refine run_op (loc_convU rfl (by first | omega | assumption)) rfl ?_ | refine run_op (loc_convW rfl) rfl ?_
    refine run_op (loc_move rfl) rfl ?_
    first | refine run_op (loc_convU rfl (by first | omega | assumption)) rfl ?_ | refine run_op (loc_convW rfl) rfl ?_
    refine run_op (loc_call (mul_spec _ _ (by omega) (by omega)) rfl) rfl ?_
    refine run_op (loc_move rfl) rfl ?_
    refine run_op (loc_extract rfl rfl) rfl ?_
    refine run_op (loc_extract rfl rfl) rfl ?_
    refine runL_recast (s := 20) rfl (d_int hcl) ?_
    refine run_op (loc_assign rfl) rfl ?_
    refine run_op (loc_assign rfl) rfl ?_
    refine run_nil ?_
    refine run_seq ?_
    refine run_seq ?_
    refine run_region ?_
    refine run_op (loc_move rfl) rfl ?_
    refine run_op (loc_gtr rfl rfl) rfl ?_
    refine run_op (loc_move rfl) rfl ?_
    refine run_gfirst rfl rfl (by first | exact guard_true _ | exact guard_false _ | exact guard_if (guard_true _) | exact guard_if (guard_false _)) (fun hg => loc_move rfl) rfl ?_
    refine run_gop rfl rfl (by first | exact guard_true _ | exact guard_false _ | exact guard_if (guard_true _) | exact guard_if (guard_false _)) (fun hg => loc_gtr rfl rfl) rfl ?_
    refine run_gleave ?_
    refine run_op (loc_or rfl rfl) rfl ?_
    refine run_nil ?_
    refine run_cond rfl (fun h3 => ?_) (fun h3 => ?_)
    · exfalso; omega
    ·
      refine run_skip ?_
      refine run_seq ?_
      refine run_region ?_
      refine run_op (loc_move rfl) rfl ?_
      first | refine run_op (loc_conv rfl (by first | omega | assumption)) rfl ?_ | refine run_op (loc_convW rfl) rfl ?_
      refine run_new (loc_makeSlice rfl rfl (by first | omega | assumption) (by first | omega | assumption) _ _ rfl (by simp)) rfl (fun b4 _ => ?_)
      refine run_op (loc_assign rfl) rfl ?_
      refine run_nil ?_
      refine run_openSl .here (fun hl1 hl2 hl3 hl4 => ?_)
      refine run_recast (s := 7) rfl (d_eq (congrArg dVal (sl_zero _ 1 _ _))) ?_
      rw [Int.toNat_natCast]
      refine run_seq ?_
      refine run_region ?_
      refine run_op (loc_move rfl) rfl ?_
      refine run_op (loc_move rfl) rfl ?_
      refine run_updS rfl (by first | exact .here | exact .there .here | exact .there (.there .here) | exact .there (.there (.there .here)) | exact .there (.there (.there (.there .here))) | exact .there (.there (.there (.there (.there .here))))) (loc_copyImm rfl rfl (by first | omega | (simp only [List.length_append, List.length_map, junk_length]; omega) | (simp only [List.length_append, List.length_map, junk_length]; split <;> omega) | (simp [put, junk_length]; omega))) (fun _ _ => ?_)
      refine run_op (loc_assign rfl) rfl ?_
      refine run_nil ?_
      refine run_seq ?_
      refine run_block ?_
      refine run_loopE (σ := Nat × List Int) (ks := [7]) (.cons rfl (.nil)) (fun s => [(8, dInt .i64 (s.1 : Nat))]) (fun s => rBuf b4 3 1 (s.2.map fI ++ junk 1 0) :: F) (fun s => RepI c xs T s) (fun s => T - s.1) ((min xs.length T, xs.take (min xs.length T) ++ List.replicate (T - min xs.length T) 0)) (repI_start hT) (.cons rfl (d_int (by simp)) .nil) (congrArg (fun z => rBuf b4 3 1 z :: F) (by unfold put; simp [junk, Nat.min_comm])) ?_
      rintro s hs ih5
      have hs1 := hs.len
      have hs2 := hs.le
      refine run_seq ?_
      refine run_seq ?_
      refine run_region ?_
      refine run_op (loc_move rfl) rfl ?_
      refine run_op (loc_move rfl) rfl ?_
      refine run_op (loc_lenOwn rfl) rfl ?_
      refine run_op (loc_lss rfl rfl) rfl ?_
      refine run_nil ?_
      refine run_cond rfl (fun h6 => ?_) (fun h6 => ?_)
      ·
        refine run_skip ?_
        refine run_block ?_
        refine dr_start _ (.none) [⟨[(8, none)], [], none⟩,
            ⟨[(7, none)], [], none⟩,
            ⟨[(8, none)], [], none⟩,
            ⟨[(39, some (1, false)), (40, some (2, false))], [1, 2], none⟩,
            ⟨[(7, none)], [], none⟩,
            ⟨[(8, none)], [], none⟩,
            ⟨[(42, some (4, false)), (43, some (5, false))], [4, 5], none⟩,
            ⟨[(41, some (3, false)), (44, some (6, false))], [1, 2, 3, 4, 5, 6], some (0, 0, true)⟩,
            ⟨[(38, some (0, false)), (45, some (7, false))], [0, 1, 2, 3, 4, 5, 6, 7], none⟩,
            ⟨[(46, some (8, false))], [0, 1, 2, 3, 4, 5, 6, 7, 8], none⟩] [_] _ rfl rfl ?_
        refine dq_pure rfl (fun s => .g rfl (.nil)) (fun s hs _ => loc_move rfl) (by exact .nil) ?_
        refine dq_pure rfl (fun s => .g rfl (.nil)) (fun s hs _ => loc_move rfl) (by exact .nil) ?_
        refine dq_pure rfl (fun s => .g rfl (.nil)) (fun s hs _ => loc_move rfl) (by exact .nil) ?_
        first | refine dq_pure rfl (fun s => .op rfl (.op rfl (.nil))) (fun s hs _ => loc_sliceOwnFromLt rfl rfl (by first | omega | assumption)) (by exact .nil) ?_ | refine dq_pure rfl (fun s => .op rfl (.op rfl (.nil))) (fun s hs _ => loc_sliceOwnFrom rfl rfl (by first | omega | assumption)) (by exact .nil) ?_
        refine dq_pure rfl (fun s => .g rfl (.nil)) (fun s hs _ => loc_move rfl) (by exact .nil) ?_
        refine dq_pure rfl (fun s => .g rfl (.nil)) (fun s hs _ => loc_move rfl) (by exact .nil) ?_
        refine dq_pure rfl (fun s => .op rfl (.op rfl (.nil))) (fun s hs _ => loc_sliceOwnTo rfl rfl (by first | omega | assumption)) (by exact .nil) ?_
        refine dq_write rfl (fun s => .op rfl (.op rfl (.nil))) rfl rfl (fun s hs => loc_copyOwn rfl rfl (by first | omega | (simp only [List.length_append, List.length_map, junk_length]; omega) | (simp only [List.length_append, List.length_map, junk_length]; split <;> omega) | (simp [put, junk_length]; omega)) (one_part (by first | omega | (split <;> omega)))) (by exact .nil) ?_
        first | refine dq_pure rfl (fun s => .op rfl (.op rfl (.nil))) (fun s hs _ => loc_add rfl rfl (by first | omega | assumption)) (by exact .nil) ?_ | refine dq_pure rfl (fun s => .op rfl (.op rfl (.nil))) (fun s hs _ => loc_addW rfl rfl) (by exact .nil) ?_
        refine dq_pure rfl (fun s => .op rfl (.nil)) (fun s hs _ => loc_assign rfl) (by exact .nil) ?_
        refine dq_end (rs := [_]) () rfl (fun _ => rfl) (.nil) rfl (fun _ _ => ?_)
        dsimp only [outG, outM, List.map, List.set, id]
        refine run_inBlock ?_
        exact run_againE ih5 ((s.1 + min s.1 (T - s.1), s.2.take s.1 ++ s.2.take (min s.1 (T - s.1)) ++ s.2.drop (s.1 + min s.1 (T - s.1)))) (repI_next hT hs (by omega)) (by have := (hs.mul (by omega)).1; simp only; omega) (.cons rfl (d_int (by simp only [Int.toNat_natCast]; omega)) .nil) (.cons rfl (fun _ _ x => x) (.nil)) (congrArg (fun z => rBuf b4 3 1 z :: F) (by unfold put; simp [junk, List.map_take, List.map_drop, hs1]))
      ·
        refine run_exit rfl ?_
        refine run_seq ?_
        refine run_region ?_
        refine run_op (loc_move rfl) rfl ?_
        refine run_op (loc_assign rfl) rfl ?_
        refine run_nil ?_
        refine run_ret (sl b4 1 0 T T) Try.func89 rfl rfl ?_ (trivial) (fun _ _ h => inv_shut h (by rw [repI_end hT hs (by omega)]) (by rw [reps_len]; omega) (by rw [reps_len]; simp [junk]; omega) (by simp only [maxLen]; omega) (by rw [reps_len]; unfold lenMax; omega))
        exact fun _ _ h => h
theorem repeatI_spec (xs : List (Int)) (c : Nat) (hb : c * xs.length ≤ 1000000000) (hc : c ≤ 1000000000) (hx : xs.length ≤ 1000000000) : SpecP Try.prog 89 [dSl 1 fI xs, dInt .i64 (c : Nat)] (dSl 1 fI (reps c xs)) := spec_freeze (repeatIM_spec xs c hb hc hx)

theorem isNaN_spec (x : Int) : SpecP Try.prog 92 [dInt .i64 x] (dB False) := by
  refine specP_of_body Try.func92 rfl rfl (fun I M => ?_)
  refine run_seq ?_
  refine run_region ?_
  refine run_op (loc_assign rfl) rfl ?_
  refine run_nil ?_
  refine run_seq ?_
  refine run_region ?_
  refine run_op (loc_move rfl) rfl ?_
  refine run_op (loc_move rfl) rfl ?_
  refine run_op (loc_neq rfl rfl) rfl ?_
  refine run_op (loc_assign rfl) rfl ?_
  refine run_nil ?_
  refine run_retP Try.func92 rfl rfl ?_
  exact d_B (by simp)

theorem compare_spec (x y : Int) : SpecP Try.prog 79 [dInt .i64 x, dInt .i64 y] (dInt .i64 (cmpI x y)) := by
  refine specP_of_body Try.func79 rfl rfl (fun I M => ?_)
  refine run_seq ?_
  refine run_region ?_
  refine run_op (loc_assign rfl) rfl ?_
  refine run_nil ?_
  refine run_seq ?_
  refine run_region ?_
  refine run_op (loc_move rfl) rfl ?_
  refine run_op (loc_call (isNaN_spec _) rfl) rfl ?_
  refine run_op (loc_assign rfl) rfl ?_
  refine run_nil ?_
  refine run_seq ?_
  refine run_region ?_
  refine run_op (loc_move rfl) rfl ?_
  refine run_op (loc_call (isNaN_spec _) rfl) rfl ?_
  refine run_op (loc_assign rfl) rfl ?_
  refine run_nil ?_
  refine run_seq ?_
  refine run_seq ?_
  refine run_region ?_
  refine run_op (loc_move rfl) rfl ?_
  refine run_nil ?_
  refine run_cond rfl (fun h1 => ?_) (fun h1 => ?_)
  · exfalso; exact h1
  ·
    refine run_skip ?_
    refine run_seq ?_
    refine run_seq ?_
    refine run_region ?_
    refine run_op (loc_move rfl) rfl ?_
    refine run_nil ?_
    refine run_cond rfl (fun h2 => ?_) (fun h2 => ?_)
    · exfalso; exact h2
    ·
      refine run_skip ?_
      refine run_seq ?_
      refine run_seq ?_
      refine run_region ?_
      refine run_op (loc_move rfl) rfl ?_
      refine run_op (loc_move rfl) rfl ?_
      refine run_op (loc_lss rfl rfl) rfl ?_
      refine run_nil ?_
      refine run_cond rfl (fun h3 => ?_) (fun h3 => ?_)
      ·
        refine run_seq ?_
        refine run_region ?_
        refine run_op (loc_assign rfl) rfl ?_
        refine run_nil ?_
        refine run_retP Try.func79 rfl rfl ?_
        exact d_int (by unfold cmpI; rw [if_pos (by omega)])
      ·
        refine run_skip ?_
        refine run_seq ?_
        refine run_seq ?_
        refine run_region ?_
        refine run_op (loc_move rfl) rfl ?_
        refine run_op (loc_move rfl) rfl ?_
        refine run_op (loc_gtr rfl rfl) rfl ?_
        refine run_nil ?_
        refine run_cond rfl (fun h4 => ?_) (fun h4 => ?_)
        ·
          refine run_seq ?_
          refine run_region ?_
          refine run_op (loc_assign rfl) rfl ?_
          refine run_nil ?_
          refine run_retP Try.func79 rfl rfl ?_
          exact d_int (by unfold cmpI; rw [if_neg (by omega), if_pos (by omega)])
        ·
          refine run_skip ?_
          refine run_seq ?_
          refine run_region ?_
          refine run_op (loc_assign rfl) rfl ?_
          refine run_nil ?_
          refine run_retP Try.func79 rfl rfl ?_
          exact d_int (by unfold cmpI; rw [if_neg (by omega), if_neg (by omega)])

end Go.Q
