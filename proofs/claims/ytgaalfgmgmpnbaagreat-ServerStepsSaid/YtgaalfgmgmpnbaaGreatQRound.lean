/- Contracts of the library of slices. -/
import Derived.Test.YtgaalfgmgmpnbaaGreatQPlainA
import Derived.Test.YtgaalfgmgmpnbaaGreatQApi2
set_option linter.unusedVariables false
set_option linter.unusedSimpArgs false
namespace Go.Q
open Go.Proofs
open Classical
noncomputable abbrev bsF {α : Type} [Inhabited α] (cm : α → Int) (xs : List α) : Nat := bsGo (fun h => cm (xs[h]?.getD default) < 0) 0 xs.length
theorem cloneIM_spec (xs : List (Int)) (hb : xs.length * 8 ≤ 140737488355328) : Spec Tryz.prog 87 [dSl 1 fI xs] [] (σ := Value) (fun _ => True) (fun v => dVal v) (fun v => [rRow v 3 1 fI xs]) := by
  refine spec_of_body Tryz.func87 rfl rfl (fun I F => ?_)
  refine run_seq ?_
  refine run_fact (s := 0) rfl (fun _ _ h => dSl_len h) (fun hlen => ?_)
  refine run_region ?_
  refine run_op (loc_assign rfl) rfl ?_
  refine run_nil ?_
  refine run_seq ?_
  refine run_seq ?_
  refine run_region ?_
  refine run_op (loc_move rfl) rfl ?_
  refine run_ex (loc_eqlNil rfl) rfl (fun e1 he1 => ?_)
  refine run_nil ?_
  refine run_cond rfl (fun h2 => ?_) (fun h2 => ?_)
  ·
   refine run_seq ?_
   refine run_region ?_
   refine run_op (loc_assign rfl) rfl ?_
   refine run_nil ?_
   refine run_ret (.slice none 0 0) Tryz.func87 rfl rfl ?_ (trivial) (fun _ _ h => by rw [he1 (by assumption)]; exact nil_ok h)
   exact fun _ _ h => h
  ·
   refine run_skip ?_
   refine run_seq ?_
   refine run_region ?_
   refine run_new (loc_build0 fI) rfl (fun b3 _ => ?_)
   refine run_op (loc_move rfl) rfl ?_
   refine run_append rfl (.here) rfl (by rfl) (by first | omega | (simp [lenMax]; omega) | (simp [lenMax]; done) | assumption) (by first | omega | (simp [lenMax]; omega) | (simp [lenMax]; done) | assumption) rfl (fun v4 => ?_)
   refine run_op (loc_assign rfl) rfl ?_
   refine run_nil ?_
   refine run_ret (v4) Tryz.func87 rfl rfl ?_ (trivial) (fun _ _ h => h)
   exact fun _ _ h => h
theorem cloneI_spec (xs : List (Int)) (hb : xs.length * 8 ≤ 140737488355328) : SpecP Tryz.prog 87 [dSl 1 fI xs] (dSl 1 fI xs) := spec_freeze (cloneIM_spec xs hb)
theorem cloneHlM_spec (xs : List (Held)) (hb : xs.length * 64 ≤ 140737488355328) : Spec Tryz.prog 92 [dSl 6 cHeld xs] [] (σ := Value) (fun _ => True) (fun v => dVal v) (fun v => [rRow v 89 6 cHeld xs]) := by
  refine spec_of_body Tryz.func92 rfl rfl (fun I F => ?_)
  refine run_seq ?_
  refine run_fact (s := 0) rfl (fun _ _ h => dSl_len h) (fun hlen => ?_)
  refine run_region ?_
  refine run_op (loc_assign rfl) rfl ?_
  refine run_nil ?_
  refine run_seq ?_
  refine run_seq ?_
  refine run_region ?_
  refine run_op (loc_move rfl) rfl ?_
  refine run_ex (loc_eqlNil rfl) rfl (fun e1 he1 => ?_)
  refine run_nil ?_
  refine run_cond rfl (fun h2 => ?_) (fun h2 => ?_)
  ·
   refine run_seq ?_
   refine run_region ?_
   refine run_op (loc_assign rfl) rfl ?_
   refine run_nil ?_
   refine run_ret (.slice none 0 0) Tryz.func92 rfl rfl ?_ (trivial) (fun _ _ h => by rw [he1 (by assumption)]; exact nil_ok h)
   exact fun _ _ h => h
  ·
   refine run_skip ?_
   refine run_seq ?_
   refine run_region ?_
   refine run_new (loc_build0 cHeld) rfl (fun b3 _ => ?_)
   refine run_op (loc_move rfl) rfl ?_
   refine run_append rfl (.here) rfl (by rfl) (by first | omega | (simp [lenMax]; omega) | (simp [lenMax]; done) | assumption) (by first | omega | (simp [lenMax]; omega) | (simp [lenMax]; done) | assumption) rfl (fun v4 => ?_)
   refine run_op (loc_assign rfl) rfl ?_
   refine run_nil ?_
   refine run_ret (v4) Tryz.func92 rfl rfl ?_ (trivial) (fun _ _ h => h)
   exact fun _ _ h => h
theorem cloneJbM_spec (xs : List (Job)) (hb : xs.length * 72 ≤ 140737488355328) : Spec Tryz.prog 93 [dSl 5 cJob xs] [] (σ := Value) (fun _ => True) (fun v => dVal v) (fun v => [rRow v 93 5 cJob xs]) := by
  refine spec_of_body Tryz.func93 rfl rfl (fun I F => ?_)
  refine run_seq ?_
  refine run_fact (s := 0) rfl (fun _ _ h => dSl_len h) (fun hlen => ?_)
  refine run_region ?_
  refine run_op (loc_assign rfl) rfl ?_
  refine run_nil ?_
  refine run_seq ?_
  refine run_seq ?_
  refine run_region ?_
  refine run_op (loc_move rfl) rfl ?_
  refine run_ex (loc_eqlNil rfl) rfl (fun e1 he1 => ?_)
  refine run_nil ?_
  refine run_cond rfl (fun h2 => ?_) (fun h2 => ?_)
  ·
   refine run_seq ?_
   refine run_region ?_
   refine run_op (loc_assign rfl) rfl ?_
   refine run_nil ?_
   refine run_ret (.slice none 0 0) Tryz.func93 rfl rfl ?_ (trivial) (fun _ _ h => by rw [he1 (by assumption)]; exact nil_ok h)
   exact fun _ _ h => h
  ·
   refine run_skip ?_
   refine run_seq ?_
   refine run_region ?_
   refine run_new (loc_build0 cJob) rfl (fun b3 _ => ?_)
   refine run_op (loc_move rfl) rfl ?_
   refine run_append rfl (.here) rfl (by rfl) (by first | omega | (simp [lenMax]; omega) | (simp [lenMax]; done) | assumption) (by first | omega | (simp [lenMax]; omega) | (simp [lenMax]; done) | assumption) rfl (fun v4 => ?_)
   refine run_op (loc_assign rfl) rfl ?_
   refine run_nil ?_
   refine run_ret (v4) Tryz.func93 rfl rfl ?_ (trivial) (fun _ _ h => h)
   exact fun _ _ h => h
theorem cloneRM_spec (xs : List (List Int)) (hb : xs.length * 24 ≤ 140737488355328) : Spec Tryz.prog 131 [dSl 1 fR xs] [] (σ := Value) (fun _ => True) (fun v => dVal v) (fun v => [rRow v 44 1 fR xs]) := by
  refine spec_of_body Tryz.func131 rfl rfl (fun I F => ?_)
  refine run_seq ?_
  refine run_fact (s := 0) rfl (fun _ _ h => dSl_len h) (fun hlen => ?_)
  refine run_region ?_
  refine run_op (loc_assign rfl) rfl ?_
  refine run_nil ?_
  refine run_seq ?_
  refine run_seq ?_
  refine run_region ?_
  refine run_op (loc_move rfl) rfl ?_
  refine run_ex (loc_eqlNil rfl) rfl (fun e1 he1 => ?_)
  refine run_nil ?_
  refine run_cond rfl (fun h2 => ?_) (fun h2 => ?_)
  ·
   refine run_seq ?_
   refine run_region ?_
   refine run_op (loc_assign rfl) rfl ?_
   refine run_nil ?_
   refine run_ret (.slice none 0 0) Tryz.func131 rfl rfl ?_ (trivial) (fun _ _ h => by rw [he1 (by assumption)]; exact nil_ok h)
   exact fun _ _ h => h
  ·
   refine run_skip ?_
   refine run_seq ?_
   refine run_region ?_
   refine run_new (loc_build0 fR) rfl (fun b3 _ => ?_)
   refine run_op (loc_move rfl) rfl ?_
   refine run_append rfl (.here) rfl (by rfl) (by first | omega | (simp [lenMax]; omega) | (simp [lenMax]; done) | assumption) (by first | omega | (simp [lenMax]; omega) | (simp [lenMax]; done) | assumption) rfl (fun v4 => ?_)
   refine run_op (loc_assign rfl) rfl ?_
   refine run_nil ?_
   refine run_ret (v4) Tryz.func131 rfl rfl ?_ (trivial) (fun _ _ h => h)
   exact fun _ _ h => h
theorem equalI_spec (xs ys : List (Int)) : SpecP Tryz.prog 72 [dSl 1 fI xs, dSl 1 fI ys] (dB (xs = ys)) := by
  refine specP_of_body Tryz.func72 rfl rfl (fun I M => ?_)
  refine run_seq ?_
  refine run_region ?_
  refine run_op (loc_assign rfl) rfl ?_
  refine run_nil ?_
  refine run_seq ?_
  refine run_seq ?_
  refine run_region ?_
  refine run_op (loc_move rfl) rfl ?_
  first | refine runL_fact (s := 6) rfl (fun _ _ h => dSl_len h) (fun hlen1 => ?_) | skip
  refine run_op (loc_len rfl) rfl ?_
  refine run_op (loc_move rfl) rfl ?_
  first | refine runL_fact (s := 8) rfl (fun _ _ h => dSl_len h) (fun hlen2 => ?_) | skip
  refine run_op (loc_len rfl) rfl ?_
  refine run_op (loc_neq rfl rfl) rfl ?_
  refine run_nil ?_
  refine run_cond rfl (fun h3 => ?_) (fun h3 => ?_)
  ·
   refine run_seq ?_
   refine run_region ?_
   refine run_op (loc_assign rfl) rfl ?_
   refine run_nil ?_
   refine run_retP Tryz.func72 rfl rfl ?_
   exact d_B ⟨False.elim, fun h => by subst h; omega⟩
  ·
   refine run_skip ?_
   refine run_seq ?_
   refine run_seq ?_
   refine run_region ?_
   refine run_op (loc_move rfl) rfl ?_
   first | refine runL_fact (s := 11) rfl (fun _ _ h => dSl_len h) (fun hlen4 => ?_) | skip
   refine run_op (loc_len rfl) rfl ?_
   refine run_op (loc_move rfl) rfl ?_
   refine run_nil ?_
   refine run_block ?_
   refine run_loopC (σ := Nat) (ks := [0, 1, 12]) (.cons rfl (.cons rfl (.cons rfl (.nil)))) (fun k => [(13, dInt .i64 (k : Nat))]) (fun k => k ≤ xs.length ∧ (∀ j, j < k → xs[j]?.getD default = ys[j]?.getD default)) (fun k => xs.length - k) (0) (⟨by omega, fun j hj => by omega⟩) (.cons rfl (by first | exact fun _ _ h => h | exact d_int (by omega) | exact d_int (by simp) | exact d_intN (by omega) | exact d_any) .nil) ?_
   rintro k ⟨hk, hbk⟩ ih5
   refine run_seq ?_
   refine run_region ?_
   refine run_op (loc_lss rfl rfl) rfl ?_
   refine run_nil ?_
   refine run_seq ?_
   refine run_cond rfl (fun h6 => ?_) (fun h6 => ?_)
   ·
    refine run_skip ?_
    refine run_seq ?_
    refine run_block ?_
    refine run_seq ?_
    refine run_region ?_
    refine run_op (loc_move rfl) rfl ?_
    refine run_op (loc_assign rfl) rfl ?_
    refine run_nil ?_
    refine run_seq ?_
    refine dr_start _ (.none) [⟨[(0, none)], [], none⟩,
        ⟨[(5, none)], [], none⟩,
        ⟨[(16, some (0, false)), (17, some (1, false))], [0, 1], none⟩,
        ⟨[(18, some (2, false))], [0, 1, 2], none⟩,
        ⟨[(1, none)], [], none⟩,
        ⟨[(5, none)], [], none⟩,
        ⟨[(20, some (4, false)), (21, some (5, false))], [4, 5], none⟩,
        ⟨[(22, some (6, false))], [4, 5, 6], none⟩,
        ⟨[(19, some (3, false)), (23, some (7, false))], [0, 1, 2, 3, 4, 5, 6, 7], none⟩] [] _ rfl rfl ?_
    refine dq_pure rfl (fun s => .g rfl (.nil)) (fun s hs _ => loc_move rfl) (by exact .nil) ?_
    refine dq_pure rfl (fun s => .g rfl (.nil)) (fun s hs _ => loc_move rfl) (by exact .nil) ?_
    first | refine dq_pure rfl (fun s => .op rfl (.op rfl (.nil))) (fun s hs _ => loc_index rfl rfl (by first | omega | assumption)) (by exact .nil) ?_ | refine dq_pure rfl (fun s => .op rfl (.op rfl (.nil))) (fun s hs _ => loc_indexI rfl rfl (by first | omega | assumption)) (by exact .nil) ?_
    refine dq_pure rfl (fun s => .op rfl (.nil)) (fun s hs _ => loc_load1 rfl) (by exact .nil) ?_
    refine dq_pure rfl (fun s => .g rfl (.nil)) (fun s hs _ => loc_move rfl) (by exact .nil) ?_
    refine dq_pure rfl (fun s => .g rfl (.nil)) (fun s hs _ => loc_move rfl) (by exact .nil) ?_
    first | refine dq_pure rfl (fun s => .op rfl (.op rfl (.nil))) (fun s hs _ => loc_index rfl rfl (by first | omega | assumption)) (by exact .nil) ?_ | refine dq_pure rfl (fun s => .op rfl (.op rfl (.nil))) (fun s hs _ => loc_indexI rfl rfl (by first | omega | assumption)) (by exact .nil) ?_
    refine dq_pure rfl (fun s => .op rfl (.nil)) (fun s hs _ => loc_load1 rfl) (by exact .nil) ?_
    refine dq_pure rfl (fun s => .op rfl (.op rfl (.nil))) (fun s hs _ => loc_neq rfl rfl) (by exact .nil) ?_
    refine dq_end (rs := []) () rfl (fun _ => rfl) (.nil) rfl (fun _ => rfl) (fun _ _ => ?_)
    dsimp only [outG, outM, List.map, List.set, id]
    refine run_cond rfl (fun h7 => ?_) (fun h7 => ?_)
    ·
     have hne : ¬ xs[k]?.getD default = ys[k]?.getD default := fun e => by rw [e] at h7; simp at h7
     refine run_seq ?_
     refine run_region ?_
     refine run_op (loc_assign rfl) rfl ?_
     refine run_nil ?_
     refine run_retP Tryz.func72 rfl rfl ?_
     exact d_B ⟨False.elim, fun h => by subst h; contradiction⟩
    ·
     have heq : xs[k]?.getD default = ys[k]?.getD default := Classical.not_not.1 h7
     refine run_skip ?_
     refine run_inBlock ?_
     refine run_region ?_
     first | refine run_op (loc_add rfl rfl (by first | omega | assumption)) rfl ?_ | refine run_op (loc_addW rfl rfl) rfl ?_
     refine run_op (loc_move rfl) rfl ?_
     refine run_nil ?_
     exact run_againC ih5 (k + 1) (⟨by omega, fun j hj => by by_cases e : j = k; (· subst e; exact heq); (· exact hbk j (by omega))⟩) (by omega) (.cons rfl (by first | exact fun _ _ h => h | exact d_int (by omega) | exact d_int (by simp) | exact d_intN (by omega) | exact d_any) .nil) (.cons rfl (fun _ _ x => x) (.cons rfl (fun _ _ x => x) (.cons rfl (fun _ _ x => x) (.nil))))
   ·
    refine run_exit rfl ?_
    refine run_seq ?_
    refine run_region ?_
    refine run_op (loc_assign rfl) rfl ?_
    refine run_nil ?_
    refine run_retP Tryz.func72 rfl rfl ?_
    exact d_B ⟨fun _ => list_extD (by omega) (fun j hj => hbk j (by omega)), fun _ => trivial⟩
theorem indexFuncJb_spec (q : Job → Prop) (xs : List (Job)) : SpecP Tryz.prog 100 [dSl 5 cJob xs, dFun Tryz.prog (fun x : Job => [dAgg (cJob x)]) (fun x => dB (q x))] (dInt .i64 (idxP q xs)) := by
  refine specP_of_body Tryz.func100 rfl rfl (fun I M => ?_)
  refine run_seq ?_
  refine run_region ?_
  refine run_op (loc_assign rfl) rfl ?_
  refine run_nil ?_
  refine run_seq ?_
  refine run_seq ?_
  refine run_region ?_
  refine run_op (loc_move rfl) rfl ?_
  first | refine runL_fact (s := 6) rfl (fun _ _ h => dSl_len h) (fun hlen1 => ?_) | skip
  refine run_op (loc_len rfl) rfl ?_
  refine run_op (loc_move rfl) rfl ?_
  refine run_nil ?_
  refine run_block ?_
  refine run_loopC (σ := Nat) (ks := [0, 1, 7]) (.cons rfl (.cons rfl (.cons rfl (.nil)))) (fun k => [(8, dInt .i64 (k : Nat))]) (fun k => k ≤ xs.length ∧ (∀ j, j < k → ¬ q (xs[j]?.getD default))) (fun k => xs.length - k) (0) (⟨by omega, fun j hj => by omega⟩) (.cons rfl (by first | exact fun _ _ h => h | exact d_int (by omega) | exact d_int (by simp) | exact d_intN (by omega) | exact d_any) .nil) ?_
  rintro k ⟨hk, hbk⟩ ih2
  refine run_seq ?_
  refine run_region ?_
  refine run_op (loc_lss rfl rfl) rfl ?_
  refine run_nil ?_
  refine run_seq ?_
  refine run_cond rfl (fun h3 => ?_) (fun h3 => ?_)
  ·
   refine run_skip ?_
   refine run_seq ?_
   refine run_block ?_
   refine run_seq ?_
   refine run_region ?_
   refine run_op (loc_move rfl) rfl ?_
   refine run_op (loc_assign rfl) rfl ?_
   refine run_nil ?_
   refine run_seq ?_
   refine run_region ?_
   refine run_op (loc_move rfl) rfl ?_
   refine run_op (loc_move rfl) rfl ?_
   refine run_op (loc_move rfl) rfl ?_
   first | refine run_op (loc_index rfl rfl (by first | omega | assumption)) rfl ?_ | refine run_op (loc_indexI rfl rfl (by first | omega | assumption)) rfl ?_
   refine run_op (loc_loadN rfl rfl) rfl ?_
   refine run_op (loc_callFun (xs[k]?.getD default) rfl rfl) rfl ?_
   refine run_nil ?_
   refine run_cond rfl (fun h4 => ?_) (fun h4 => ?_)
   ·
    refine run_seq ?_
    refine run_region ?_
    refine run_op (loc_move rfl) rfl ?_
    refine run_op (loc_assign rfl) rfl ?_
    refine run_nil ?_
    refine run_retP Tryz.func100 rfl rfl ?_
    exact d_int (idxP_at (by omega) hbk (by assumption)).symm
   ·
    refine run_skip ?_
    refine run_inBlock ?_
    refine run_region ?_
    first | refine run_op (loc_add rfl rfl (by first | omega | assumption)) rfl ?_ | refine run_op (loc_addW rfl rfl) rfl ?_
    refine run_op (loc_move rfl) rfl ?_
    refine run_nil ?_
    exact run_againC ih2 (k + 1) (⟨by omega, fun j hj => by by_cases e : j = k; (· subst e; assumption); (· exact hbk j (by omega))⟩) (by omega) (.cons rfl (by first | exact fun _ _ h => h | exact d_int (by omega) | exact d_int (by simp) | exact d_intN (by omega) | exact d_any) .nil) (.cons rfl (fun _ _ x => x) (.cons rfl (fun _ _ x => x) (.cons rfl (fun _ _ x => x) (.nil))))
  ·
   refine run_exit rfl ?_
   refine run_seq ?_
   refine run_region ?_
   refine run_op (loc_assign rfl) rfl ?_
   refine run_nil ?_
   refine run_retP Tryz.func100 rfl rfl ?_
   exact d_int (idxP_none (forall_getD (fun j hj => hbk j (by omega)))).symm
theorem indexFuncI_spec (q : Int → Prop) (xs : List (Int)) : SpecP Tryz.prog 173 [dSl 1 fI xs, dFun Tryz.prog (fun x : Int => [dInt .i64 x]) (fun x => dB (q x))] (dInt .i64 (idxP q xs)) := by
  refine specP_of_body Tryz.func173 rfl rfl (fun I M => ?_)
  refine run_seq ?_
  refine run_region ?_
  refine run_op (loc_assign rfl) rfl ?_
  refine run_nil ?_
  refine run_seq ?_
  refine run_seq ?_
  refine run_region ?_
  refine run_op (loc_move rfl) rfl ?_
  first | refine runL_fact (s := 6) rfl (fun _ _ h => dSl_len h) (fun hlen1 => ?_) | skip
  refine run_op (loc_len rfl) rfl ?_
  refine run_op (loc_move rfl) rfl ?_
  refine run_nil ?_
  refine run_block ?_
  refine run_loopC (σ := Nat) (ks := [0, 1, 7]) (.cons rfl (.cons rfl (.cons rfl (.nil)))) (fun k => [(8, dInt .i64 (k : Nat))]) (fun k => k ≤ xs.length ∧ (∀ j, j < k → ¬ q (xs[j]?.getD default))) (fun k => xs.length - k) (0) (⟨by omega, fun j hj => by omega⟩) (.cons rfl (by first | exact fun _ _ h => h | exact d_int (by omega) | exact d_int (by simp) | exact d_intN (by omega) | exact d_any) .nil) ?_
  rintro k ⟨hk, hbk⟩ ih2
  refine run_seq ?_
  refine run_region ?_
  refine run_op (loc_lss rfl rfl) rfl ?_
  refine run_nil ?_
  refine run_seq ?_
  refine run_cond rfl (fun h3 => ?_) (fun h3 => ?_)
  ·
   refine run_skip ?_
   refine run_seq ?_
   refine run_block ?_
   refine run_seq ?_
   refine run_region ?_
   refine run_op (loc_move rfl) rfl ?_
   refine run_op (loc_assign rfl) rfl ?_
   refine run_nil ?_
   refine run_seq ?_
   refine run_region ?_
   refine run_op (loc_move rfl) rfl ?_
   refine run_op (loc_move rfl) rfl ?_
   refine run_op (loc_move rfl) rfl ?_
   first | refine run_op (loc_index rfl rfl (by first | omega | assumption)) rfl ?_ | refine run_op (loc_indexI rfl rfl (by first | omega | assumption)) rfl ?_
   refine run_op (loc_load1 rfl) rfl ?_
   refine run_op (loc_callFun (xs[k]?.getD default) rfl rfl) rfl ?_
   refine run_nil ?_
   refine run_cond rfl (fun h4 => ?_) (fun h4 => ?_)
   ·
    refine run_seq ?_
    refine run_region ?_
    refine run_op (loc_move rfl) rfl ?_
    refine run_op (loc_assign rfl) rfl ?_
    refine run_nil ?_
    refine run_retP Tryz.func173 rfl rfl ?_
    exact d_int (idxP_at (by omega) hbk (by assumption)).symm
   ·
    refine run_skip ?_
    refine run_inBlock ?_
    refine run_region ?_
    first | refine run_op (loc_add rfl rfl (by first | omega | assumption)) rfl ?_ | refine run_op (loc_addW rfl rfl) rfl ?_
    refine run_op (loc_move rfl) rfl ?_
    refine run_nil ?_
    exact run_againC ih2 (k + 1) (⟨by omega, fun j hj => by by_cases e : j = k; (· subst e; assumption); (· exact hbk j (by omega))⟩) (by omega) (.cons rfl (by first | exact fun _ _ h => h | exact d_int (by omega) | exact d_int (by simp) | exact d_intN (by omega) | exact d_any) .nil) (.cons rfl (fun _ _ x => x) (.cons rfl (fun _ _ x => x) (.cons rfl (fun _ _ x => x) (.nil))))
  ·
   refine run_exit rfl ?_
   refine run_seq ?_
   refine run_region ?_
   refine run_op (loc_assign rfl) rfl ?_
   refine run_nil ?_
   refine run_retP Tryz.func173 rfl rfl ?_
   exact d_int (idxP_none (forall_getD (fun j hj => hbk j (by omega)))).symm
theorem containsFuncJb_spec (q : Job → Prop) (xs : List (Job)) : SpecP Tryz.prog 45 [dSl 5 cJob xs, dFun Tryz.prog (fun x : Job => [dAgg (cJob x)]) (fun x => dB (q x))] (dB (∃ x ∈ xs, q x)) := by
 refine specP_of_body Tryz.func45 rfl rfl (fun I M => ?_)
 refine run_seq ?_
 refine run_region ?_
 refine run_op (loc_assign rfl) rfl ?_
 refine run_nil ?_
 refine run_seq ?_
 refine run_region ?_
 refine run_op (loc_move rfl) rfl ?_
 refine run_op (loc_move rfl) rfl ?_
 refine run_op (loc_call (indexFuncJb_spec q xs) rfl) rfl ?_
 refine run_op (loc_geq rfl rfl) rfl ?_
 refine run_op (loc_assign rfl) rfl ?_
 refine run_nil ?_
 refine run_retP Tryz.func45 rfl rfl ?_
 exact d_B idxP_nonneg
theorem containsFuncI_spec (q : Int → Prop) (xs : List (Int)) : SpecP Tryz.prog 138 [dSl 1 fI xs, dFun Tryz.prog (fun x : Int => [dInt .i64 x]) (fun x => dB (q x))] (dB (∃ x ∈ xs, q x)) := by
 refine specP_of_body Tryz.func138 rfl rfl (fun I M => ?_)
 refine run_seq ?_
 refine run_region ?_
 refine run_op (loc_assign rfl) rfl ?_
 refine run_nil ?_
 refine run_seq ?_
 refine run_region ?_
 refine run_op (loc_move rfl) rfl ?_
 refine run_op (loc_move rfl) rfl ?_
 refine run_op (loc_call (indexFuncI_spec q xs) rfl) rfl ?_
 refine run_op (loc_geq rfl rfl) rfl ?_
 refine run_op (loc_assign rfl) rfl ?_
 refine run_nil ?_
 refine run_retP Tryz.func138 rfl rfl ?_
 exact d_B idxP_nonneg
theorem binSearchHl_spec (cm : Held → Int) (xs : List (Held)) (t : Int) : SpecP Tryz.prog 95 [dSl 6 cHeld xs, dInt .i64 t, dFun Tryz.prog (fun x : Held => [dAgg (cHeld x), dInt .i64 t]) (fun x => dInt .i64 (cm x))] (dTup [dInt .i64 (bsF cm xs : Nat), dB (bsF cm xs < xs.length ∧ cm (xs[bsF cm xs]?.getD default) = 0)]) := by
  refine specP_of_body Tryz.func95 rfl rfl (fun I M => ?_)
  refine run_seq ?_
  refine run_region ?_
  refine run_op (loc_assign rfl) rfl ?_
  refine run_op (loc_assign rfl) rfl ?_
  refine run_nil ?_
  refine run_seq ?_
  refine run_region ?_
  refine run_op (loc_move rfl) rfl ?_
  first | refine runL_fact (s := 12) rfl (fun _ _ h => dSl_len h) (fun hlen1 => ?_) | skip
  refine run_op (loc_len rfl) rfl ?_
  refine run_op (loc_assign rfl) rfl ?_
  refine run_nil ?_
  refine run_seq ?_
  refine run_region ?_
  refine run_op (loc_move rfl) rfl ?_
  refine run_op (loc_assign rfl) rfl ?_
  refine run_op (loc_assign rfl) rfl ?_
  refine run_nil ?_
  refine run_seq ?_
  refine run_block ?_
  refine run_loopC (σ := Nat × Nat) (ks := [0, 1, 2, 8]) (.cons rfl (.cons rfl (.cons rfl (.cons rfl (.nil))))) (fun s => [(9, dInt .i64 (s.1 : Nat)), (10, dInt .i64 (s.2 : Nat))]) (fun s => s.1 ≤ s.2 ∧ s.2 ≤ xs.length ∧ bsGo (fun h => cm (xs[h]?.getD default) < 0) s.1 s.2 = bsGo (fun h => cm (xs[h]?.getD default) < 0) 0 xs.length) (fun s => s.2 - s.1) ((0, xs.length)) (⟨by simp, by simp, rfl⟩) (.cons rfl (by first | exact fun _ _ h => h | exact d_int (by omega) | exact d_int (by simp) | exact d_intN (by omega) | exact d_any) (.cons rfl (by first | exact fun _ _ h => h | exact d_int (by omega) | exact d_int (by simp) | exact d_intN (by omega) | exact d_any) .nil)) ?_
  rintro ⟨s1, s2⟩ ⟨hs1, hs2, hs3⟩ ih2
  simp only at hs1 hs2
  refine run_seq ?_
  refine run_seq ?_
  refine run_region ?_
  refine run_op (loc_move rfl) rfl ?_
  refine run_op (loc_move rfl) rfl ?_
  refine run_op (loc_lss rfl rfl) rfl ?_
  refine run_nil ?_
  refine run_cond rfl (fun h3 => ?_) (fun h3 => ?_)
  ·
   refine run_skip ?_
   refine run_block ?_
   refine run_seq ?_
   refine run_region ?_
   refine run_op (loc_move rfl) rfl ?_
   refine run_op (loc_move rfl) rfl ?_
   first | refine run_op (loc_add rfl rfl (by first | omega | assumption)) rfl ?_ | refine run_op (loc_addW rfl rfl) rfl ?_
   first | refine run_op (loc_convU rfl (by first | omega | assumption)) rfl ?_ | refine run_op (loc_convW rfl) rfl ?_
   refine run_op (loc_shrN (c := 1) (q := 2) rfl rfl rfl (by decide) (by first | omega | assumption) (by decide)) rfl ?_
   refine runL_recast (s := 22) rfl (d_int (n := (((s1 + s2) / 2 : Nat) : Int)) (by omega)) ?_
   first | refine run_op (loc_conv rfl (by first | omega | assumption)) rfl ?_ | refine run_op (loc_convW rfl) rfl ?_
   refine run_op (loc_assign rfl) rfl ?_
   refine run_nil ?_
   refine run_seq ?_
   refine run_region ?_
   refine run_op (loc_move rfl) rfl ?_
   refine run_op (loc_move rfl) rfl ?_
   refine run_op (loc_move rfl) rfl ?_
   first | refine run_op (loc_index rfl rfl (by first | omega | assumption)) rfl ?_ | refine run_op (loc_indexI rfl rfl (by first | omega | assumption)) rfl ?_
   refine run_op (loc_loadN rfl rfl) rfl ?_
   refine run_op (loc_move rfl) rfl ?_
   refine run_op (loc_callFun (xs[(s1 + s2) / 2]?.getD default) rfl rfl) rfl ?_
   refine run_op (loc_lss rfl rfl) rfl ?_
   refine run_nil ?_
   refine run_cond rfl (fun h4 => ?_) (fun h4 => ?_)
   ·
    rw [bsGo, if_pos (by omega), if_pos h4] at hs3
    refine run_region ?_
    refine run_op (loc_move rfl) rfl ?_
    first | refine run_op (loc_add rfl rfl (by first | omega | assumption)) rfl ?_ | refine run_op (loc_addW rfl rfl) rfl ?_
    refine run_op (loc_assign rfl) rfl ?_
    refine run_nil ?_
    refine run_inBlock ?_
    exact run_againC ih2 (((s1 + s2) / 2 + 1, s2)) (⟨by simp; omega, hs2, hs3⟩) (by simp; omega) (.cons rfl (by first | exact fun _ _ h => h | exact d_int (by omega) | exact d_int (by simp) | exact d_intN (by omega) | exact d_any) (.cons rfl (by first | exact fun _ _ h => h | exact d_int (by omega) | exact d_int (by simp) | exact d_intN (by omega) | exact d_any) .nil)) (.cons rfl (fun _ _ x => x) (.cons rfl (fun _ _ x => x) (.cons rfl (fun _ _ x => x) (.cons rfl (fun _ _ x => x) (.nil)))))
   ·
    rw [bsGo, if_pos (by omega), if_neg h4] at hs3
    refine run_region ?_
    refine run_op (loc_move rfl) rfl ?_
    refine run_op (loc_assign rfl) rfl ?_
    refine run_nil ?_
    refine run_inBlock ?_
    exact run_againC ih2 ((s1, (s1 + s2) / 2)) (⟨by simp; omega, by simp; omega, hs3⟩) (by simp; omega) (.cons rfl (by first | exact fun _ _ h => h | exact d_int (by omega) | exact d_int (by simp) | exact d_intN (by omega) | exact d_any) (.cons rfl (by first | exact fun _ _ h => h | exact d_int (by omega) | exact d_int (by simp) | exact d_intN (by omega) | exact d_any) .nil)) (.cons rfl (fun _ _ x => x) (.cons rfl (fun _ _ x => x) (.cons rfl (fun _ _ x => x) (.cons rfl (fun _ _ x => x) (.nil)))))
  ·
   refine run_exit rfl ?_
   refine run_seq ?_
   refine run_region ?_
   refine run_op (loc_move rfl) rfl ?_
   refine run_op (loc_move rfl) rfl ?_
   refine run_op (loc_move rfl) rfl ?_
   refine run_op (loc_lss rfl rfl) rfl ?_
   refine run_op (loc_move rfl) rfl ?_
   refine run_gfirst rfl rfl gdI.ok (fun hg => loc_move rfl) rfl ?_
   refine run_gop rfl rfl gdI.ok (fun hg => loc_move rfl) rfl ?_
   refine run_gop rfl rfl gdI.ok (fun hg => loc_move rfl) rfl ?_
   first | refine run_gop rfl rfl gdI.ok (fun hg => loc_index rfl rfl (by first | omega | assumption)) rfl ?_ | refine run_gop rfl rfl gdI.ok (fun hg => loc_indexI rfl rfl (by first | omega | assumption)) rfl ?_
   refine run_gop rfl rfl gdI.ok (fun hg => loc_loadN rfl rfl) rfl ?_
   refine run_gop rfl rfl gdI.ok (fun hg => loc_move rfl) rfl ?_
   refine run_gop rfl rfl gdI.ok (fun hg => loc_callFun (xs[s1]?.getD default) rfl rfl) rfl ?_
   refine run_gop rfl rfl gdI.ok (fun hg => loc_eql rfl rfl) rfl ?_
   refine run_gleave ?_
   refine run_op (loc_and rfl rfl) rfl ?_
   refine run_op (loc_assign rfl) rfl ?_
   refine run_op (loc_assign rfl) rfl ?_
   refine run_nil ?_
   refine run_ret2P Tryz.func95 rfl rfl rfl ?_
   have hse : s1 = bsF cm xs := by unfold bsF; rw [← hs3]; unfold bsGo; rw [if_neg (by omega)]
   subst hse
   exact d_tup2 (fun _ _ h => h) (d_B (by omega))
instance : TyOver Tryz.prog 111 33 := ⟨_, 4, Tryz.func111, by kernel_rfl, by kernel_rfl, by kernel_rfl, by kernel_rfl⟩
theorem insertHl_spec (v : Value) (xs : List (Held)) (i : Nat) (e0 : Held) (hi : i ≤ xs.length) (hb : (xs.length + 1) * 64 ≤ 140737488355328) (hl : xs.length + 1 ≤ 17592186044416) :
    Spec Tryz.prog 56 [dVal v, dInt .i64 (i : Nat), dSl 6 (fun l : List D => l) [cHeld e0]] [rRow v 89 6 cHeld xs] (σ := Value) (fun _ => True) (fun v => dVal v) (fun v => [rRow v 89 6 cHeld (xs.take i ++ [e0] ++ xs.drop i)]) := by
  refine spec_of_body Tryz.func56 rfl rfl (fun I F => ?_)
  refine run_recast (s := 2) rfl (d_sl (ys := [e0]) (h := cHeld) rfl) ?_
  by_cases hie : i = xs.length
  · show Run _ _ _ _ _ _ (rRow v 89 6 cHeld xs :: F) _
    refine run_seq ?_
    refine run_region ?_
    refine run_op (loc_assign rfl) rfl ?_
    refine run_nil ?_
    refine run_seq ?_
    refine run_region ?_
    refine run_op (loc_move rfl) rfl ?_
    refine run_op (loc_move rfl) rfl ?_
    refine run_op (loc_sliceRowTop rfl (.here) rfl (by first | omega | assumption)) rfl ?_
    refine run_nil ?_
    refine run_seq ?_
    refine run_region ?_
    refine run_op (loc_move rfl) rfl ?_
    refine run_op (loc_len rfl) rfl ?_
    refine runL_recast (s := 14) rfl (d_int (n := 1) rfl) ?_
    refine run_op (loc_assign rfl) rfl ?_
    refine run_nil ?_
    refine run_seq ?_
    refine run_seq ?_
    refine run_region ?_
    refine run_op (loc_move rfl) rfl ?_
    refine run_op (loc_eql rfl rfl) rfl ?_
    refine run_nil ?_
    refine run_cond rfl (fun h1 => ?_) (fun h1 => ?_)
    · exfalso; simp at h1
    ·
     refine run_skip ?_
     refine run_seq ?_
     refine run_region ?_
     refine run_op (loc_move rfl) rfl ?_
     refine run_op (loc_lenRow rfl (.here)) rfl ?_
     refine run_op (loc_assign rfl) rfl ?_
     refine run_nil ?_
     refine run_seq ?_
     refine run_seq ?_
     refine run_region ?_
     refine run_op (loc_move rfl) rfl ?_
     refine run_op (loc_move rfl) rfl ?_
     refine run_op (loc_eql rfl rfl) rfl ?_
     refine run_nil ?_
     refine run_cond rfl (fun h2 => ?_) (fun h2 => ?_)
     ·
      refine run_seq ?_
      refine run_region ?_
      refine run_op (loc_move rfl) rfl ?_
      refine run_op (loc_move rfl) rfl ?_
      refine run_append rfl (.here) rfl (by rfl) (by first | omega | (simp [lenMax]; omega) | (simp [lenMax]; done) | assumption) (by first | omega | (simp [lenMax]; omega) | (simp [lenMax]; done) | assumption) rfl (fun v3 => ?_)
      refine run_op (loc_assign rfl) rfl ?_
      refine run_nil ?_
      refine run_ret (v3) Tryz.func56 rfl rfl ?_ (trivial) (fun _ _ h => by rw [List.take_of_length_le (by omega), List.drop_eq_nil_of_le (by omega), List.append_nil]; exact h)
      exact fun _ _ h => h
     · exfalso; omega
  · refine run_openRow .here (by intro hx; subst hx; simp at hi; exact hie hi) (fun b cap hv hc hm hlx hfn => ?_)
    subst hv
    have hlt : i < xs.length := by omega
    refine run_seq ?_
    refine run_region ?_
    refine run_op (loc_assign rfl) rfl ?_
    refine run_nil ?_
    refine run_seq ?_
    refine run_region ?_
    refine run_op (loc_move rfl) rfl ?_
    refine run_op (loc_move rfl) rfl ?_
    first | refine run_op (loc_sliceOwnFromLt rfl rfl (by first | omega | assumption)) rfl ?_ | refine run_op (loc_sliceOwnFrom rfl rfl (by first | omega | assumption)) rfl ?_
    refine run_nil ?_
    refine run_seq ?_
    refine run_region ?_
    refine run_op (loc_move rfl) rfl ?_
    refine run_op (loc_len rfl) rfl ?_
    refine runL_recast (s := 14) rfl (d_int (n := 1) rfl) ?_
    refine run_op (loc_assign rfl) rfl ?_
    refine run_nil ?_
    refine run_seq ?_
    refine run_seq ?_
    refine run_region ?_
    refine run_op (loc_move rfl) rfl ?_
    refine run_op (loc_eql rfl rfl) rfl ?_
    refine run_nil ?_
    refine run_cond rfl (fun h1 => ?_) (fun h1 => ?_)
    · exfalso; simp at h1
    ·
     refine run_skip ?_
     refine run_seq ?_
     refine run_region ?_
     refine run_op (loc_move rfl) rfl ?_
     refine run_op (loc_lenOwn rfl) rfl ?_
     refine run_op (loc_assign rfl) rfl ?_
     refine run_nil ?_
     refine run_seq ?_
     refine run_seq ?_
     refine run_region ?_
     refine run_op (loc_move rfl) rfl ?_
     refine run_op (loc_move rfl) rfl ?_
     refine run_op (loc_eql rfl rfl) rfl ?_
     refine run_nil ?_
     refine run_cond rfl (fun h2 => ?_) (fun h2 => ?_)
     · exfalso; omega
     ·
      refine run_skip ?_
      refine run_seq ?_
      refine run_seq ?_
      refine run_region ?_
      refine run_op (loc_move rfl) rfl ?_
      refine run_op (loc_move rfl) rfl ?_
      first | refine run_op (loc_add rfl rfl (by first | omega | assumption)) rfl ?_ | refine run_op (loc_addW rfl rfl) rfl ?_
      refine run_op (loc_move rfl) rfl ?_
      refine run_op (loc_capOwn rfl) rfl ?_
      refine run_op (loc_gtr rfl rfl) rfl ?_
      refine run_nil ?_
      refine run_cond rfl (fun h3 => ?_) (fun h3 => ?_)
      ·
       refine run_seq ?_
       refine run_region ?_
       refine run_op (loc_move rfl) rfl ?_
       refine run_op (loc_move rfl) rfl ?_
       refine run_op (loc_sliceOwnTo rfl rfl (by first | omega | assumption)) rfl ?_
       refine run_op (loc_move rfl) rfl ?_
       refine run_op (loc_move rfl) rfl ?_
       first | refine run_op (loc_add rfl rfl (by first | omega | assumption)) rfl ?_ | refine run_op (loc_addW rfl rfl) rfl ?_
       refine run_op (loc_move rfl) rfl ?_
       first | refine run_op (loc_sub rfl rfl (by first | omega | assumption)) rfl ?_ | refine run_op (loc_subW rfl rfl) rfl ?_
       refine run_updG rfl (loc_appendZeros (m := xs.length + 1 - i) rfl (opd_conv rfl (by congr 1; omega)) (by omega) (by simp [junk_length]; omega) rfl (by omega) (by unfold lenMax at *; omega)) (fun s hs => ?_)
       refine run_op (loc_assign rfl) rfl ?_
       refine run_nil ?_
       refine run_shutRow (len := xs.length) (cap := cap) (els' := junk 6 (cap - xs.length)) (.there .here) rfl rfl (by simp [junk_length]; omega) hm hlx ?_
       refine run_freezeRow (s := 0) rfl (.there .here) ?_
       refine run_seq ?_
       refine run_region ?_
       refine run_op (loc_move rfl) rfl ?_
       refine run_op (loc_move rfl) rfl ?_
       first | refine run_op (loc_sliceOwnFromLt rfl rfl (by first | omega | assumption)) rfl ?_ | refine run_op (loc_sliceOwnFrom rfl rfl (by first | omega | assumption)) rfl ?_
       refine run_op (loc_move rfl) rfl ?_
       refine run_updS rfl (.here) (loc_copyImm rfl rfl (by first | omega | (simp only [List.length_append, List.length_map, junk_length]; omega) | (simp only [List.length_append, List.length_map, junk_length]; split <;> omega) | (simp [put, junk_length]; omega))) (fun _ _ => ?_)
       refine run_nil ?_
       refine run_seq ?_
       refine dr_start _ (.none) [⟨[(9, none)], [], none⟩,
           ⟨[(1, none)], [], none⟩,
           ⟨[(7, none)], [], none⟩,
           ⟨[(47, some (1, false)), (48, some (2, false))], [1, 2], none⟩,
           ⟨[(46, some (0, false)), (49, some (3, false))], [0, 1, 2, 3], none⟩,
           ⟨[(0, none)], [], none⟩,
           ⟨[(1, none)], [], none⟩,
           ⟨[(51, some (5, false)), (52, some (6, false))], [5, 6], none⟩,
           ⟨[(50, some (4, false)), (53, some (7, false))], [0, 1, 2, 3, 4, 5, 6, 7], some (0, 0, true)⟩] [_] _ rfl rfl ?_
       refine dq_pure rfl (fun s => .g rfl (.nil)) (fun s hs _ => loc_move rfl) (by exact .nil) ?_
       refine dq_pure rfl (fun s => .g rfl (.nil)) (fun s hs _ => loc_move rfl) (by exact .nil) ?_
       refine dq_pure rfl (fun s => .g rfl (.nil)) (fun s hs _ => loc_move rfl) (by exact .nil) ?_
       first | refine dq_pure rfl (fun s => .op rfl (.op rfl (.nil))) (fun s hs _ => loc_add rfl rfl (by first | omega | assumption)) (by exact .nil) ?_ | refine dq_pure rfl (fun s => .op rfl (.op rfl (.nil))) (fun s hs _ => loc_addW rfl rfl) (by exact .nil) ?_
       first | refine dq_pure rfl (fun s => .op rfl (.op rfl (.nil))) (fun s hs _ => loc_sliceOwnFromLt rfl rfl (by first | omega | assumption)) (by exact .nil) ?_ | refine dq_pure rfl (fun s => .op rfl (.op rfl (.nil))) (fun s hs _ => loc_sliceOwnFrom rfl rfl (by first | omega | assumption)) (by exact .nil) ?_
       refine dq_pure rfl (fun s => .g rfl (.nil)) (fun s hs _ => loc_move rfl) (by exact .nil) ?_
       refine dq_pure rfl (fun s => .g rfl (.nil)) (fun s hs _ => loc_move rfl) (by exact .nil) ?_
       refine dq_pure rfl (fun s => .op rfl (.op rfl (.nil))) (fun s hs _ => loc_sliceFrom rfl rfl (by first | omega | assumption)) (by exact .nil) ?_
       refine dq_write rfl (fun s => .op rfl (.op rfl (.nil))) rfl rfl (fun s hs => loc_copyImm rfl rfl (by first | omega | (simp only [List.length_append, List.length_map, junk_length]; omega) | (simp only [List.length_append, List.length_map, junk_length]; split <;> omega) | (simp [put, junk_length]; omega))) (by exact .nil) ?_
       refine dq_end (rs := [_]) () rfl (fun _ => rfl) (.nil) rfl (fun _ => rfl) (fun _ _ => ?_)
       dsimp only [outG, outM, List.map, List.set, id]
       refine run_seq ?_
       refine run_region ?_
       refine run_op (loc_move rfl) rfl ?_
       refine run_op (loc_assign rfl) rfl ?_
       refine run_nil ?_
       refine run_ret (sl s.1 6 0 (xs.length + 1) s.2) Tryz.func56 rfl rfl ?_ (trivial) (fun _ _ h => inv_shut h ((insert_grow (A := xs.map cHeld) (i := i) (c := s.2) (x := cHeld e0) (by simp; omega) (by omega) (by omega) (by omega) (by rw [List.take_of_length_le (by simp; omega)]; rfl) (by rw [List.take_of_length_le (by simp; omega), List.map_drop]; congr 1) (by simp; omega) (by simp [junk_length])).trans (congrArg (· ++ _) (by simp))) (by simp; omega) (by simp [junk_length]; omega) (by omega) (by simp; unfold lenMax; omega))
       exact fun _ _ h => by rwa [show (i : Int).toNat + (xs.length + 1 - i) = xs.length + 1 by omega] at h
      ·
       refine run_skip ?_
       refine run_seq ?_
       refine run_region ?_
       refine run_op (loc_move rfl) rfl ?_
       refine run_op (loc_move rfl) rfl ?_
       refine run_op (loc_move rfl) rfl ?_
       first | refine run_op (loc_add rfl rfl (by first | omega | assumption)) rfl ?_ | refine run_op (loc_addW rfl rfl) rfl ?_
       refine run_op (loc_sliceOwnTo rfl rfl (by first | omega | assumption)) rfl ?_
       refine run_op (loc_assign rfl) rfl ?_
       refine run_nil ?_
       refine run_seq ?_
       refine run_seq ?_
       refine run_region ?_
       refine run_op (loc_move rfl) rfl ?_
       refine run_op (loc_move rfl) rfl ?_
       refine run_op (loc_move rfl) rfl ?_
       refine run_op (loc_move rfl) rfl ?_
       first | refine run_op (loc_add rfl rfl (by first | omega | assumption)) rfl ?_ | refine run_op (loc_addW rfl rfl) rfl ?_
       first | refine run_op (loc_sliceOwnFromLt rfl rfl (by first | omega | assumption)) rfl ?_ | refine run_op (loc_sliceOwnFrom rfl rfl (by first | omega | assumption)) rfl ?_
       refine run_op (loc_overlaps rfl rfl (by first | exact .here | exact .there .here | exact .there (.there .here) | exact .there (.there (.there .here)) | exact .there (.there (.there (.there .here))) | exact .there (.there (.there (.there (.there .here))))) (by simp only [List.length_append, List.length_map, junk_length]; omega)) rfl ?_
       refine run_op (loc_not rfl) rfl ?_
       refine run_nil ?_
       refine run_cond rfl (fun h4 => ?_) (fun h4 => ?_)
       ·
        refine run_seq ?_
        refine dr_start _ (.none) [⟨[(0, none)], [], none⟩,
            ⟨[(1, none)], [], none⟩,
            ⟨[(7, none)], [], none⟩,
            ⟨[(70, some (1, false)), (71, some (2, false))], [1, 2], none⟩,
            ⟨[(69, some (0, false)), (72, some (3, false))], [0, 1, 2, 3], none⟩,
            ⟨[(0, none)], [], none⟩,
            ⟨[(1, none)], [], none⟩,
            ⟨[(74, some (5, false)), (75, some (6, false))], [5, 6], none⟩,
            ⟨[(73, some (4, false)), (76, some (7, false))], [0, 1, 2, 3, 4, 5, 6, 7], some (0, 0, true)⟩] [_] _ rfl rfl ?_
        refine dq_pure rfl (fun s => .g rfl (.nil)) (fun s hs _ => loc_move rfl) (by exact .nil) ?_
        refine dq_pure rfl (fun s => .g rfl (.nil)) (fun s hs _ => loc_move rfl) (by exact .nil) ?_
        refine dq_pure rfl (fun s => .g rfl (.nil)) (fun s hs _ => loc_move rfl) (by exact .nil) ?_
        first | refine dq_pure rfl (fun s => .op rfl (.op rfl (.nil))) (fun s hs _ => loc_add rfl rfl (by first | omega | assumption)) (by exact .nil) ?_ | refine dq_pure rfl (fun s => .op rfl (.op rfl (.nil))) (fun s hs _ => loc_addW rfl rfl) (by exact .nil) ?_
        first | refine dq_pure rfl (fun s => .op rfl (.op rfl (.nil))) (fun s hs _ => loc_sliceOwnFromLt rfl rfl (by first | omega | assumption)) (by exact .nil) ?_ | refine dq_pure rfl (fun s => .op rfl (.op rfl (.nil))) (fun s hs _ => loc_sliceOwnFrom rfl rfl (by first | omega | assumption)) (by exact .nil) ?_
        refine dq_pure rfl (fun s => .g rfl (.nil)) (fun s hs _ => loc_move rfl) (by exact .nil) ?_
        refine dq_pure rfl (fun s => .g rfl (.nil)) (fun s hs _ => loc_move rfl) (by exact .nil) ?_
        first | refine dq_pure rfl (fun s => .op rfl (.op rfl (.nil))) (fun s hs _ => loc_sliceOwnFromLt rfl rfl (by first | omega | assumption)) (by exact .nil) ?_ | refine dq_pure rfl (fun s => .op rfl (.op rfl (.nil))) (fun s hs _ => loc_sliceOwnFrom rfl rfl (by first | omega | assumption)) (by exact .nil) ?_
        refine dq_write rfl (fun s => .op rfl (.op rfl (.nil))) rfl rfl (fun s hs => loc_copyOwn rfl rfl (by first | omega | (simp only [List.length_append, List.length_map, junk_length]; omega) | (simp only [List.length_append, List.length_map, junk_length]; split <;> omega) | (simp [put, junk_length]; omega)) (one_part (by first | omega | (split <;> omega)))) (by exact .nil) ?_
        refine dq_end (rs := [_]) () rfl (fun _ => rfl) (.nil) rfl (fun _ => rfl) (fun _ _ => ?_)
        dsimp only [outG, outM, List.map, List.set, id]
        refine run_seq ?_
        refine run_region ?_
        refine run_op (loc_move rfl) rfl ?_
        refine run_op (loc_move rfl) rfl ?_
        first | refine run_op (loc_sliceOwnFromLt rfl rfl (by first | omega | assumption)) rfl ?_ | refine run_op (loc_sliceOwnFrom rfl rfl (by first | omega | assumption)) rfl ?_
        refine run_op (loc_move rfl) rfl ?_
        refine run_updS rfl (.here) (loc_copyImm rfl rfl (by first | omega | (simp only [List.length_append, List.length_map, junk_length]; omega) | (simp only [List.length_append, List.length_map, junk_length]; split <;> omega) | (simp [put, junk_length]; omega))) (fun _ _ => ?_)
        refine run_nil ?_
        refine run_seq ?_
        refine run_region ?_
        refine run_op (loc_move rfl) rfl ?_
        refine run_op (loc_assign rfl) rfl ?_
        refine run_nil ?_
        refine run_ret (sl b 6 0 (xs.length + 1) cap) Tryz.func56 rfl rfl ?_ (trivial) (fun _ _ h => inv_shut h ((insert_list (A := xs.map cHeld) (i := i) (x := cHeld e0) (by simp; omega) (by omega) (by omega) (by omega) (by simp; omega) (by rw [List.take_of_length_le (by simp; omega)]; rfl) (by simp [junk_length]; omega)).trans (congrArg (· ++ _) (by simp))) (by simp; omega) (by simp [junk_length]; omega) (by omega) (by simp; unfold lenMax; omega))
        exact fun _ _ h => h
       · exfalso; exact h4 (fun h => h)
theorem deleteJb_spec (v : Value) (xs : List (Job)) (i j : Nat) (hi : i < j) (hj : j ≤ xs.length) :
    Spec Tryz.prog 52 [dVal v, dInt .i64 (i : Nat), dInt .i64 (j : Nat)] [rRow v 93 5 cJob xs] (σ := Value) (fun _ => True) (fun v => dVal v) (fun v => [rRow v 93 5 cJob (xs.take i ++ xs.drop j)]) := by
  refine spec_of_body Tryz.func52 rfl rfl (fun I F => ?_)
  refine run_openRow .here (by intro hx; subst hx; simp at hj; omega) (fun b cap hv hc hm hlx hfn => ?_)
  subst hv
  refine run_seq ?_
  refine run_region ?_
  refine run_op (loc_assign rfl) rfl ?_
  refine run_nil ?_
  refine run_seq ?_
  refine run_region ?_
  refine run_op (loc_move rfl) rfl ?_
  refine run_op (loc_move rfl) rfl ?_
  refine run_op (loc_move rfl) rfl ?_
  refine run_op (loc_move rfl) rfl ?_
  refine run_op (loc_lenOwn rfl) rfl ?_
  refine run_op (loc_sliceOwn3 rfl rfl rfl rfl (by first | omega | assumption)) rfl ?_
  refine run_nil ?_
  refine run_seq ?_
  refine run_seq ?_
  refine run_region ?_
  refine run_op (loc_move rfl) rfl ?_
  refine run_op (loc_move rfl) rfl ?_
  refine run_op (loc_eql rfl rfl) rfl ?_
  refine run_nil ?_
  refine run_cond rfl (fun h1 => ?_) (fun h1 => ?_)
  · exfalso; omega
  ·
   refine run_skip ?_
   refine run_seq ?_
   refine run_region ?_
   refine run_op (loc_move rfl) rfl ?_
   refine run_op (loc_lenOwn rfl) rfl ?_
   refine run_op (loc_assign rfl) rfl ?_
   refine run_nil ?_
   refine run_seq ?_
   refine dr_start _ (.none) [⟨[(0, none)], [], none⟩,
       ⟨[(1, none)], [], none⟩,
       ⟨[(20, some (0, false)), (21, some (1, false))], [0, 1], none⟩,
       ⟨[(0, none)], [], none⟩,
       ⟨[(2, none)], [], none⟩,
       ⟨[(23, some (3, false)), (24, some (4, false))], [3, 4], none⟩,
       ⟨[(22, some (2, false)), (25, some (5, false))], [0, 1, 2, 3, 4, 5], some (0, 0, true)⟩,
       ⟨[(26, some (6, false))], [0, 1, 2, 3, 4, 5, 6], none⟩] [_] _ rfl rfl ?_
   refine dq_pure rfl (fun s => .g rfl (.nil)) (fun s hs _ => loc_move rfl) (by exact .nil) ?_
   refine dq_pure rfl (fun s => .g rfl (.nil)) (fun s hs _ => loc_move rfl) (by exact .nil) ?_
   refine dq_pure rfl (fun s => .op rfl (.op rfl (.nil))) (fun s hs _ => loc_sliceOwnTo rfl rfl (by first | omega | assumption)) (by exact .nil) ?_
   refine dq_pure rfl (fun s => .g rfl (.nil)) (fun s hs _ => loc_move rfl) (by exact .nil) ?_
   refine dq_pure rfl (fun s => .g rfl (.nil)) (fun s hs _ => loc_move rfl) (by exact .nil) ?_
   first | refine dq_pure rfl (fun s => .op rfl (.op rfl (.nil))) (fun s hs _ => loc_sliceOwnFromLt rfl rfl (by first | omega | assumption)) (by exact .nil) ?_ | refine dq_pure rfl (fun s => .op rfl (.op rfl (.nil))) (fun s hs _ => loc_sliceOwnFrom rfl rfl (by first | omega | assumption)) (by exact .nil) ?_
   refine dq_write rfl (fun s => .op rfl (.op rfl (.nil))) rfl rfl (fun s hs => loc_appendOwn rfl rfl (by first | omega | (simp only [List.length_append, List.length_map, junk_length]; omega) | (simp only [List.length_append, List.length_map, junk_length]; split <;> omega) | (simp [put, junk_length]; omega)) (by first | omega | (simp only [List.length_append, List.length_map, junk_length]; omega) | (simp only [List.length_append, List.length_map, junk_length]; split <;> omega) | (simp [put, junk_length]; omega)) rfl (one_part (by first | omega | (split <;> omega)))) (by exact .nil) ?_
   refine dq_pure rfl (fun s => .op rfl (.nil)) (fun s hs _ => loc_assign rfl) (by exact .nil) ?_
   refine dq_end (rs := [_]) () rfl (fun _ => rfl) (.nil) rfl (fun _ => rfl) (fun _ _ => ?_)
   dsimp only [outG, outM, List.map, List.set, id]
   refine run_seq ?_
   rw [show (i : Int).toNat + (xs.length - (j : Int).toNat) = i + (xs.length - j) by omega]
   refine run_region ?_
   refine run_op (loc_move rfl) rfl ?_
   refine run_op (loc_move rfl) rfl ?_
   refine run_op (loc_lenOwn rfl) rfl ?_
   refine run_op (loc_move rfl) rfl ?_
   first | refine run_op (loc_sliceOwnLt rfl rfl rfl (by first | omega | assumption)) rfl ?_ | refine run_op (loc_sliceOwn rfl rfl rfl (by first | omega | assumption)) rfl ?_
   refine run_updS0 (.here) (loc_clearOwn rfl (by first | omega | (simp only [List.length_append, List.length_map, junk_length]; omega) | (simp only [List.length_append, List.length_map, junk_length]; split <;> omega) | (simp [put, junk_length]; omega)) rfl (by simp [Value.cells, Value.oneCell'])) (fun _ _ => ?_)
   refine run_nil ?_
   refine run_seq ?_
   refine run_region ?_
   refine run_op (loc_move rfl) rfl ?_
   refine run_op (loc_assign rfl) rfl ?_
   refine run_nil ?_
   refine run_ret (sl b 5 0 (i + (xs.length - j)) cap) Tryz.func52 rfl rfl ?_ (trivial) (fun _ _ h => by rw [if_neg (by omega)] at h; exact inv_shut h ((delete_list (A := xs.map cJob) (i := i) (j := j) (by omega) (by simp; omega) (by omega) (fun hm => by split <;> omega) (by simp) (by simp; omega) (by omega)).trans (congrArg (· ++ _) (by simp))) (by simp; omega) (by simp [junk_length]; omega) (by omega) (by simp; unfold lenMax at *; omega))
   exact fun _ _ h => h
theorem deleteHl_spec (v : Value) (xs : List (Held)) (i j : Nat) (hi : i < j) (hj : j ≤ xs.length) :
    Spec Tryz.prog 58 [dVal v, dInt .i64 (i : Nat), dInt .i64 (j : Nat)] [rRow v 89 6 cHeld xs] (σ := Value) (fun _ => True) (fun v => dVal v) (fun v => [rRow v 89 6 cHeld (xs.take i ++ xs.drop j)]) := by
  refine spec_of_body Tryz.func58 rfl rfl (fun I F => ?_)
  refine run_openRow .here (by intro hx; subst hx; simp at hj; omega) (fun b cap hv hc hm hlx hfn => ?_)
  subst hv
  refine run_seq ?_
  refine run_region ?_
  refine run_op (loc_assign rfl) rfl ?_
  refine run_nil ?_
  refine run_seq ?_
  refine run_region ?_
  refine run_op (loc_move rfl) rfl ?_
  refine run_op (loc_move rfl) rfl ?_
  refine run_op (loc_move rfl) rfl ?_
  refine run_op (loc_move rfl) rfl ?_
  refine run_op (loc_lenOwn rfl) rfl ?_
  refine run_op (loc_sliceOwn3 rfl rfl rfl rfl (by first | omega | assumption)) rfl ?_
  refine run_nil ?_
  refine run_seq ?_
  refine run_seq ?_
  refine run_region ?_
  refine run_op (loc_move rfl) rfl ?_
  refine run_op (loc_move rfl) rfl ?_
  refine run_op (loc_eql rfl rfl) rfl ?_
  refine run_nil ?_
  refine run_cond rfl (fun h1 => ?_) (fun h1 => ?_)
  · exfalso; omega
  ·
   refine run_skip ?_
   refine run_seq ?_
   refine run_region ?_
   refine run_op (loc_move rfl) rfl ?_
   refine run_op (loc_lenOwn rfl) rfl ?_
   refine run_op (loc_assign rfl) rfl ?_
   refine run_nil ?_
   refine run_seq ?_
   refine dr_start _ (.none) [⟨[(0, none)], [], none⟩,
       ⟨[(1, none)], [], none⟩,
       ⟨[(20, some (0, false)), (21, some (1, false))], [0, 1], none⟩,
       ⟨[(0, none)], [], none⟩,
       ⟨[(2, none)], [], none⟩,
       ⟨[(23, some (3, false)), (24, some (4, false))], [3, 4], none⟩,
       ⟨[(22, some (2, false)), (25, some (5, false))], [0, 1, 2, 3, 4, 5], some (0, 0, true)⟩,
       ⟨[(26, some (6, false))], [0, 1, 2, 3, 4, 5, 6], none⟩] [_] _ rfl rfl ?_
   refine dq_pure rfl (fun s => .g rfl (.nil)) (fun s hs _ => loc_move rfl) (by exact .nil) ?_
   refine dq_pure rfl (fun s => .g rfl (.nil)) (fun s hs _ => loc_move rfl) (by exact .nil) ?_
   refine dq_pure rfl (fun s => .op rfl (.op rfl (.nil))) (fun s hs _ => loc_sliceOwnTo rfl rfl (by first | omega | assumption)) (by exact .nil) ?_
   refine dq_pure rfl (fun s => .g rfl (.nil)) (fun s hs _ => loc_move rfl) (by exact .nil) ?_
   refine dq_pure rfl (fun s => .g rfl (.nil)) (fun s hs _ => loc_move rfl) (by exact .nil) ?_
   first | refine dq_pure rfl (fun s => .op rfl (.op rfl (.nil))) (fun s hs _ => loc_sliceOwnFromLt rfl rfl (by first | omega | assumption)) (by exact .nil) ?_ | refine dq_pure rfl (fun s => .op rfl (.op rfl (.nil))) (fun s hs _ => loc_sliceOwnFrom rfl rfl (by first | omega | assumption)) (by exact .nil) ?_
   refine dq_write rfl (fun s => .op rfl (.op rfl (.nil))) rfl rfl (fun s hs => loc_appendOwn rfl rfl (by first | omega | (simp only [List.length_append, List.length_map, junk_length]; omega) | (simp only [List.length_append, List.length_map, junk_length]; split <;> omega) | (simp [put, junk_length]; omega)) (by first | omega | (simp only [List.length_append, List.length_map, junk_length]; omega) | (simp only [List.length_append, List.length_map, junk_length]; split <;> omega) | (simp [put, junk_length]; omega)) rfl (one_part (by first | omega | (split <;> omega)))) (by exact .nil) ?_
   refine dq_pure rfl (fun s => .op rfl (.nil)) (fun s hs _ => loc_assign rfl) (by exact .nil) ?_
   refine dq_end (rs := [_]) () rfl (fun _ => rfl) (.nil) rfl (fun _ => rfl) (fun _ _ => ?_)
   dsimp only [outG, outM, List.map, List.set, id]
   refine run_seq ?_
   rw [show (i : Int).toNat + (xs.length - (j : Int).toNat) = i + (xs.length - j) by omega]
   refine run_region ?_
   refine run_op (loc_move rfl) rfl ?_
   refine run_op (loc_move rfl) rfl ?_
   refine run_op (loc_lenOwn rfl) rfl ?_
   refine run_op (loc_move rfl) rfl ?_
   first | refine run_op (loc_sliceOwnLt rfl rfl rfl (by first | omega | assumption)) rfl ?_ | refine run_op (loc_sliceOwn rfl rfl rfl (by first | omega | assumption)) rfl ?_
   refine run_updS0 (.here) (loc_clearOwn rfl (by first | omega | (simp only [List.length_append, List.length_map, junk_length]; omega) | (simp only [List.length_append, List.length_map, junk_length]; split <;> omega) | (simp [put, junk_length]; omega)) rfl (by simp [Value.cells, Value.oneCell'])) (fun _ _ => ?_)
   refine run_nil ?_
   refine run_seq ?_
   refine run_region ?_
   refine run_op (loc_move rfl) rfl ?_
   refine run_op (loc_assign rfl) rfl ?_
   refine run_nil ?_
   refine run_ret (sl b 6 0 (i + (xs.length - j)) cap) Tryz.func58 rfl rfl ?_ (trivial) (fun _ _ h => by rw [if_neg (by omega)] at h; exact inv_shut h ((delete_list (A := xs.map cHeld) (i := i) (j := j) (by omega) (by simp; omega) (by omega) (fun hm => by split <;> omega) (by simp) (by simp; omega) (by omega)).trans (congrArg (· ++ _) (by simp))) (by simp; omega) (by simp [junk_length]; omega) (by omega) (by simp; unfold lenMax at *; omega))
   exact fun _ _ h => h
theorem isNaN_spec (x : Int) : SpecP Tryz.prog 137 [dInt .i64 x] (dB False) := by
 refine specP_of_body Tryz.func137 rfl rfl (fun I M => ?_)
 refine run_seq ?_
 refine run_region ?_
 refine run_op (loc_assign rfl) rfl ?_
 refine run_nil ?_
 refine run_seq ?_
 refine run_region ?_
 refine run_op (loc_move rfl) rfl ?_
 refine run_op (loc_move rfl) rfl ?_
 refine run_op (loc_neq rfl rfl) rfl ?_
 refine run_op (loc_assign rfl) rfl ?_
 refine run_nil ?_
 refine run_retP Tryz.func137 rfl rfl ?_
 exact d_B (by simp)
theorem compare_spec (x y : Int) : SpecP Tryz.prog 97 [dInt .i64 x, dInt .i64 y] (dInt .i64 (cmpI x y)) := by
  refine specP_of_body Tryz.func97 rfl rfl (fun I M => ?_)
  refine run_seq ?_
  refine run_region ?_
  refine run_op (loc_assign rfl) rfl ?_
  refine run_nil ?_
  refine run_seq ?_
  refine run_region ?_
  refine run_op (loc_move rfl) rfl ?_
  refine run_op (loc_call (isNaN_spec _) rfl) rfl ?_
  refine run_op (loc_assign rfl) rfl ?_
  refine run_nil ?_
  refine run_seq ?_
  refine run_region ?_
  refine run_op (loc_move rfl) rfl ?_
  refine run_op (loc_call (isNaN_spec _) rfl) rfl ?_
  refine run_op (loc_assign rfl) rfl ?_
  refine run_nil ?_
  refine run_seq ?_
  refine run_seq ?_
  refine run_region ?_
  refine run_op (loc_move rfl) rfl ?_
  refine run_nil ?_
  refine run_cond rfl (fun h1 => ?_) (fun h1 => ?_)
  · exfalso; exact h1
  ·
   refine run_skip ?_
   refine run_seq ?_
   refine run_seq ?_
   refine run_region ?_
   refine run_op (loc_move rfl) rfl ?_
   refine run_nil ?_
   refine run_cond rfl (fun h2 => ?_) (fun h2 => ?_)
   · exfalso; exact h2
   ·
    refine run_skip ?_
    refine run_seq ?_
    refine run_seq ?_
    refine run_region ?_
    refine run_op (loc_move rfl) rfl ?_
    refine run_op (loc_move rfl) rfl ?_
    refine run_op (loc_lss rfl rfl) rfl ?_
    refine run_nil ?_
    refine run_cond rfl (fun h3 => ?_) (fun h3 => ?_)
    ·
     refine run_seq ?_
     refine run_region ?_
     refine run_op (loc_assign rfl) rfl ?_
     refine run_nil ?_
     refine run_retP Tryz.func97 rfl rfl ?_
     exact d_int (by unfold cmpI; rw [if_pos (by omega)])
    ·
     refine run_skip ?_
     refine run_seq ?_
     refine run_seq ?_
     refine run_region ?_
     refine run_op (loc_move rfl) rfl ?_
     refine run_op (loc_move rfl) rfl ?_
     refine run_op (loc_gtr rfl rfl) rfl ?_
     refine run_nil ?_
     refine run_cond rfl (fun h4 => ?_) (fun h4 => ?_)
     ·
      refine run_seq ?_
      refine run_region ?_
      refine run_op (loc_assign rfl) rfl ?_
      refine run_nil ?_
      refine run_retP Tryz.func97 rfl rfl ?_
      exact d_int (by unfold cmpI; rw [if_neg (by omega), if_pos (by omega)])
     ·
      refine run_skip ?_
      refine run_seq ?_
      refine run_region ?_
      refine run_op (loc_assign rfl) rfl ?_
      refine run_nil ?_
      refine run_retP Tryz.func97 rfl rfl ?_
      exact d_int (by unfold cmpI; rw [if_neg (by omega), if_neg (by omega)])
end Go.Q

namespace Go.Q
open Classical
theorem fe_mod (x y p : Int) : (x * (y % p)) % p = x * y % p := by rw [Int.mul_emod, Int.emod_emod, ← Int.mul_emod]
theorem fm_mod (x y p : Int) : (x % p * y) % p = x * y % p := by rw [Int.mul_emod, Int.emod_emod, ← Int.mul_emod]
theorem pow_emod (a p : Int) : ∀ n : Nat, (a % p) ^ n % p = a ^ n % p
 | 0 => by simp
 | n + 1 => by rw [Int.pow_succ, Int.pow_succ, Int.mul_emod, pow_emod a p n, Int.emod_emod, ← Int.mul_emod]
theorem mod_bd {p : Int} (x : Int) (h : 0 < p) : 0 ≤ x % p ∧ x % p < p := ⟨Int.emod_nonneg _ (by omega), Int.emod_lt_of_pos _ h⟩
def powM (p a : Int) (n : Nat) : Int := a ^ n % p
theorem pow_even (a : Int) (n : Nat) : (a * a) ^ n = a ^ (2 * n) := by
 rw [Int.pow_mul]
 congr 1
 rw [show a ^ 2 = a * a by rw [show (2 : Nat) = 1 + 1 from rfl, Int.pow_succ, Int.pow_succ, Int.pow_zero, Int.one_mul]]
theorem pow_step0 (p x a : Int) (n : Nat) (h : n % 2 = 0) : x * (a * a % p) ^ (n / 2) % p = x * a ^ n % p := by
 rw [← fe_mod, pow_emod, fe_mod, pow_even, show 2 * (n / 2) = n by omega]
theorem pow_step1 (p x a : Int) (n : Nat) (h : n % 2 = 1) : x * a % p * (a * a % p) ^ (n / 2) % p = x * a ^ n % p := by
 rw [fm_mod, ← fe_mod, pow_emod, fe_mod, pow_even, Int.mul_assoc]
 congr 2
 rw [show n = 2 * (n / 2) + 1 by omega, Int.pow_succ, Int.mul_comm, show (2 * (n / 2) + 1) / 2 = n / 2 by omega]
def addT (p x : Int) : List Int → List Int → List Int
 | t :: ts, a :: asL => (t + x * a % p) % p :: addT p x ts asL
 | ts, [] => ts
 | [], _ :: _ => []
theorem addT_nil (p x : Int) (ts : List Int) : addT p x ts [] = ts := by cases ts <;> rfl
theorem addT_len (p x : Int) : ∀ ts asL : List Int, (addT p x ts asL).length = ts.length
 | t :: ts, a :: asL => by simp [addT, addT_len p x ts asL]
 | [], [] => rfl
 | t :: ts, [] => rfl
 | [], _ :: _ => rfl
theorem addT_get (p x : Int) : ∀ (ts asL : List Int) (k : Nat), asL.length ≤ k → (addT p x ts asL)[k]?.getD default = ts[k]?.getD default
 | t :: ts, a :: asL, k, h => by
  cases k with
  | zero => simp at h
  | succ k => simpa [addT] using addT_get p x ts asL k (by simpa using h)
 | [], [], k, h => rfl
 | t :: ts, [], k, h => rfl
 | [], _ :: _, k, h => rfl
theorem addT_take (p x : Int) : ∀ (ts asL : List Int) (k : Nat), k < asL.length → k < ts.length → addT p x ts (asL.take (k + 1)) = (addT p x ts (asL.take k)).set k ((ts[k]?.getD default + x * (asL[k]?.getD default) % p) % p)
 | t :: ts, a :: asL, 0, _, _ => by simp [addT, addT_nil]
 | t :: ts, a :: asL, k + 1, h1, h2 => by
  have := addT_take p x ts asL k (by simpa using h1) (by simpa using h2)
  simp only [List.take_succ_cons, addT, this, List.set_cons_succ]
  simp
theorem addT_has {p x : Int} (hp : 0 < p) : ∀ {ts asL : List Int}, (∀ t ∈ ts, hasP p t) → ∀ t ∈ addT p x ts asL, hasP p t
 | t :: ts, a :: asL, h, u, hu => by
  simp only [addT, List.mem_cons] at hu
  rcases hu with rfl | hu
  ·exact mod_bd _ hp
  ·exact addT_has hp (fun v hv => h v (List.mem_cons_of_mem _ hv)) u hu
 | [], [], h, u, hu => h u hu
 | t :: ts, [], h, u, hu => h u hu
 | [], _ :: _, h, u, hu => (by cases hu)

end Go.Q

namespace Go.Q
open Classical
end Go.Q

namespace Go.Q
open Classical
end Go.Q

namespace Go.Q
variable {P : Program} {N : Nat} {g : G} {M : List Res}
variable {dst : Option Tmp} {ty : TypeId} {pos : String} {after : Array Edge} {gd : Option (Nat × Bool)}
theorem LocM.rowV {o : Oper} {Min : List Res} {T n : Nat} {α : Type} {φ : Value → Prop} {f' : α → List D} {ys : List α} (h : LocM P o g N Min φ (fun v => dVal v) (fun v => [rRow v T n f' ys])) :
  LocM P o g N Min φ (fun v => dSlV v) (fun v => [rRow v T n f' ys]) := by
 constructor
 intro F I a w K Q hs hi hK
 refine h.go F I a w K Q hs hi fun v u w' J h0 h1 h2 h3 => hK v u w' J h0 h1 ⟨h2, ?_⟩ h3
 rw [show u = v from h2]
 exact row_slice h3
variable {f : FuncId} {I0 : Imm} {R : Goal} {k : List Item}
end Go.Q

namespace Go.Q
variable {P : Program} {N : Nat} {g : G} {M : List Res}
variable {dst : Option Tmp} {ty : TypeId} {pos : String} {after : Array Edge} {gd : Option (Nat × Bool)}
theorem single_flat : ∀ ds : List D, (ds.map fun d => [d]).flatten = ds
 | [] => rfl
 | d :: ds => by rw [List.map_cons, List.flatten_cons, single_flat ds]; rfl
theorem inv_flat {I : Imm} {b T n : Nat} {els : List (List D)} {F : List Res} {w : World} (h : Inv I (rBuf b T n els :: F) w) : Inv I (rBuf b T 1 (els.flatten.map fun d => [d]) :: F) w := by
 refine ⟨h.os, h.tape, h.output, h.imm, fun r hr => ?_, h.apart⟩
 rcases List.mem_cons.1 hr with rfl | hr
 ·obtain ⟨hb, o, h3, cs, h4, h5, h6⟩ := h.own _ (List.mem_cons_self ..)
  exact ⟨hb, o, h3, cs, h4, fun e he => by obtain ⟨d, _, rfl⟩ := List.mem_map.1 he; rfl, by rw [single_flat]; exact h6⟩
 ·exact h.own r (List.mem_cons_of_mem _ hr)
theorem inv_unflat {I : Imm} {b T n : Nat} {els : List (List D)} {fl : List D} {F : List Res} {w : World} (hl : ∀ e ∈ els, e.length = n) (hf : els.flatten = fl) (h : Inv I (rBuf b T 1 (fl.map fun d => [d]) :: F) w) : Inv I (rBuf b T n els :: F) w := by
 subst hf
 refine ⟨h.os, h.tape, h.output, h.imm, fun r hr => ?_, h.apart⟩
 rcases List.mem_cons.1 hr with rfl | hr
 ·obtain ⟨hb, o, h3, cs, h4, h5, h6⟩ := h.own _ (List.mem_cons_self ..)
  rw [single_flat] at h6
  exact ⟨hb, o, h3, cs, h4, hl, h6⟩
 ·exact h.own r (List.mem_cons_of_mem _ hr)
theorem flatten_get {n : Nat} : ∀ {els : List (List D)} {q o : Nat} {ds : List D} {d : D}, (∀ e ∈ els, e.length = n) → els[q]? = some ds → ds[o]? = some d → els.flatten[q * n + o]? = some d
 | e :: els, 0, o, ds, d, hl, hq, ho => by
  simp at hq
  subst hq
  rw [Nat.zero_mul, Nat.zero_add, List.flatten_cons, List.getElem?_append_left (List.getElem?_eq_some_iff.1 ho).1]
  exact ho
 | e :: els, q + 1, o, ds, d, hl, hq, ho => by
  have he := hl e (List.mem_cons_self ..)
  rw [List.flatten_cons, List.getElem?_append_right (by rw [he, Nat.add_mul]; omega), he, show (q + 1) * n + o - n = q * n + o by rw [Nat.add_mul]; omega]
  exact flatten_get (fun x hx => hl x (List.mem_cons_of_mem _ hx)) (by simpa using hq) ho
theorem flatten_set {n : Nat} : ∀ {els : List (List D)} {q o : Nat} {ds : List D} {d : D}, (∀ e ∈ els, e.length = n) → els[q]? = some ds → o < n → (els.set q (ds.set o d)).flatten = els.flatten.set (q * n + o) d
 | e :: els, 0, o, ds, d, hl, hq, ho => by
  have he := hl e (List.mem_cons_self ..)
  simp at hq
  subst hq
  rw [Nat.zero_mul, Nat.zero_add, List.set_cons_zero, List.flatten_cons, List.flatten_cons, List.set_append_left _ _ (by omega)]
 | e :: els, q + 1, o, ds, d, hl, hq, ho => by
  have he := hl e (List.mem_cons_self ..)
  rw [List.set_cons_succ, List.flatten_cons, List.flatten_cons, List.set_append_right _ _ (by rw [he, Nat.add_mul]; omega), he, show (q + 1) * n + o - n = q * n + o by rw [Nat.add_mul]; omega]
  rw [flatten_set (fun x hx => hl x (List.mem_cons_of_mem _ hx)) (by simpa using hq) ho]
theorem buf_lens {I : Imm} {b T n : Nat} {els : List (List D)} {F : List Res} {w : World} (h : Inv I (rBuf b T n els :: F) w) : ∀ e ∈ els, e.length = n := by
 obtain ⟨hb, o, h3, cs, h4, h5, h6⟩ := h.own _ (List.mem_cons_self ..)
 exact h5
theorem loc_loadBufF {t T n b q o : Nat} [ht : TyV P t false 1] {x : Operand} {els : List (List D)} {ds : List D} {d : D} (hx : opd g x = some (dVal (ptr b (q * n + o)))) (hm : In (rBuf b T n els) M) (hq : els[q]? = some ds) (ho : ds[o]? = some d) :
  LocP P ⟨dst, .load t x, ty, pos, after, gd⟩ g N M d :=
 locP_of_run fun I a w hs hinv => by
  have hp : a.eval x = .pointer (some ⟨b, q * n + o, none⟩) := opd_sound hs hx
  obtain ⟨cs, hb, h5, h6⟩ := own_buf hinv hm.mem
  obtain ⟨v, hv, hd⟩ := relL_get h6 _ d (flatten_get h5 hq ho)
  refine ⟨v, ?_, hd⟩
  have hc : w.cell? ⟨b, q * n + o, none⟩ = some v := by simp [World.cell?, hb]; simpa using hv
  have hl : (load (⟨b, q * n + o, none⟩ : Addr)).run P w = .ok v w := by rw [run_load, hc]
  simp [execOp, hp, Instr.loadAt, Instr.sureAddr, loadVar, run_isAgg ht, -run_load, hl]
theorem loc_storeBufF {t T n b q o : Nat} [ht : TyV P t false 1] {x y : Operand} {els : List (List D)} {ds : List D} {d : D} [hone : One d] (hx : opd g x = some (dVal (ptr b (q * n + o)))) (hy : opd g y = some d) (hq : els[q]? = some ds) (ho : o < n) :
  LocM P ⟨none, .store t x y, ty, pos, after, gd⟩ g N [rBuf b T n els] (fun _ : Unit => True) (fun _ => dTop) (fun _ => [rBuf b T n (els.set q (ds.set o d))]) := by
 constructor
 intro F I a w K Q hs hi hK
 have hl := buf_lens hi
 have hds : ds.length = n := hl ds (List.mem_of_getElem? hq)
 have hlen : q * n + o < (els.flatten.map fun d => [d]).length := by
  have h1 : ds[o]? = some ds[o] := List.getElem?_eq_getElem (by omega)
  have := (List.getElem?_eq_some_iff.1 (flatten_get hl hq h1)).1
  rw [List.length_map]
  exact this
 refine (loc_storeBuf1 (q := q * n + o) (T := T) (els := els.flatten.map fun d => [d]) (by rw [Nat.mul_one]; exact hx) hy hlen).go F I a w K Q hs (inv_flat hi) fun u v w' J h0 h1 h2 h3 => hK u v w' J h0 h1 h2 ?_
 refine inv_unflat ?_ (flatten_set hl hq ho) (n := n) (fl := els.flatten.set (q * n + o) d) ?_
 ·intro e he
  rcases List.mem_or_eq_of_mem_set he with he | rfl
  ·exact hl e he
  ·rw [List.length_set]; exact hds
 ·rw [List.map_set]; exact h3
end Go.Q

namespace Go.Q

def rReady (l : Nat) (r : Loop) : Res := ⟨some l, fun _ o => o = some (.loop { r with state := .ready, pending := none }), fun _ h => h⟩
def rBusy (l : Nat) (r : Loop) : Res := ⟨some l, fun _ o => o = some (.loop { r with state := .busy, pending := none }), fun _ h => h⟩
def rDef (D : Nat) : Res := ⟨some D, fun _ o => o = some (.deferred (some [])), fun _ h => h⟩
theorem own_obj {I : Imm} {M : List Res} {w : World} {b : Nat} {o : Obj} {h0 : ∀ {I J : Imm} {o' : Option Obj}, I.le J → o' = some o → o' = some o} (h : Inv I M w) (hm : (⟨some b, fun _ o' => o' = some o, h0⟩ : Res) ∈ M) : w.heap[b]? = some o := by
 obtain ⟨_, o', h1, h2⟩ := h.own _ hm
 injection h2 with h2
 rw [h1, h2]
theorem inv_putObj {I : Imm} {M : List Res} {w : World} {r r' : Res} {b : Nat} {o : Obj} (h : Inv I (r :: M) w) (hk : r.key = some b) (hk' : r'.key = some b) (hs : r'.sat I (some o)) : Inv I (r' :: M) (w.putObj b o) := by
 have h1 := h.own r (List.mem_cons_self ..)
 unfold Res.ok at h1
 rw [hk] at h1
 obtain ⟨_, o1, h3, _⟩ := h1
 have hb := (Array.getElem?_eq_some_iff.1 h3).1
 exact h.write hk hk' rfl rfl rfl (fun c hc _ => World.putObj_heap_other hc) (World.putObj_heap_same hb) hs

def Yields (P : Program) (l : Nat) (us : List Value) (w : World) (R : World → Prop) : Prop :=
 ∃ fn tmps assign body, (Instr.yield l us.toArray).run P w = .ok (.round l fn tmps assign body) w ∧ RoundIn (FR none) 0 P l fn tmps assign body w (fun e w' => e = .returned (.bool true) ∧ R w')
def YOk (P : Program) (l : Nat) {α : Type} (c : α → List D) (xs : List α) {σ : Type} (φ : Nat → σ → Prop) (Mo : Nat → σ → List Res) (I0 : Imm) : Prop :=
 ∀ (F : List Res) (i : Nat) (x : α) (s : σ) (I1 : Imm) (w1 : World) (us : List Value), xs[i]? = some x → φ i s → I0.le I1 → relL (c x) I1 us → Inv I1 (Mo i s ++ F) w1 →
  Yields P l us w1 fun w2 => ∃ s' I2, φ (i + 1) s' ∧ I1.le I2 ∧ Inv I2 (Mo (i + 1) s' ++ F) w2
def IterOk (P : Program) (gf : FuncId) (lb : List Value) {α : Type} (c : α → List D) (xs : List α) (Rs : List Res) (J0 : Imm) : Prop :=
 ∀ (l : Nat) (σ : Type) (φ : Nat → σ → Prop) (Mo : Nat → σ → List Res) (F0 : List Res) (s0 : σ) (I : Imm) (w : World), J0.le I → φ 0 s0 → Inv I (Mo 0 s0 ++ (Rs ++ F0)) w → YOk P l c xs φ Mo I →
  Calls P gf (#[.func (.yield l) #[] #[]] ++ lb.toArray) w fun e w' => ∃ v, e = .returned v ∧ ∃ s' , φ xs.length s' ∧ ∃ I', I.le I' ∧ dTop.rel I' v ∧ Inv I' (Mo xs.length s' ++ (Rs ++ F0)) w'
def dSeqR (P : Program) {α : Type} (c : α → List D) (xs : List α) (Rs : List Res) : D :=
  ⟨fun I v => ∃ (gf : FuncId) (lb : List Value), v = .func (.func gf) #[] lb.toArray ∧ TyFn P gf ∧ IterOk P gf lb c xs Rs I,
   fun h ⟨gf, lb, e, h1, h2⟩ => ⟨gf, lb, e, h1, fun l σ φ Mo F0 s0 I w hle => h2 l σ φ Mo F0 s0 I w (h.trans hle)⟩⟩
abbrev dSeq (P : Program) {α : Type} (c : α → List D) (xs : List α) : D := dSeqR P c xs []
variable {P : Program} {f : FuncId} {N : Nat} {I0 : Imm} {R : Goal} {g : G} {M : List Res} {k : List Item}
theorem iter_of_body {fn : Func} {cd : Code} {caps : List D} {α : Type} {c : α → List D} {xs : List α} {Rs : List Res} (hf : P.funcs[f]? = some fn) (hb : fn.body = some cd) (hN : Nat.ble (caps.length + 1) fn.ntmps = true)
  (h : ∀ (l : Nat) (σ : Type) (φ : Nat → σ → Prop) (Mo : Nat → σ → List Res) (F0 : List Res) (s0 : σ) (I : Imm), φ 0 s0 → YOk P l c xs φ Mo I →
   Run P f fn.ntmps I (Post I (φ xs.length) (fun _ => dTop) (Mo xs.length) (Rs ++ F0)) (start 0 (dVal (.func (.yield l) #[] #[]) :: caps)) (Mo 0 s0 ++ (Rs ++ F0)) [.code cd]) :
  ∀ (I : Imm) (lb : List Value), relL caps I lb → IterOk P f lb c xs Rs I := by
 intro J0 lb hlb l σ φ Mo F0 s0 I w hle h0 hi hy
 have := goes_enter (vs := .func (.yield l) #[] #[] :: lb) (ds := dVal (.func (.yield l) #[] #[]) :: caps) rfl rfl hf hb (by have := relL_length hlb; have := Nat.le_of_ble_eq_true hN; simp; omega) ⟨rfl, relL_mono hle hlb⟩ hi (h l σ φ Mo F0 s0 I h0 hy)
 have e : (Value.func (.yield l) #[] #[] :: lb).toArray = #[.func (.yield l) #[] #[]] ++ lb.toArray := by simp
 rw [e] at this
 exact this
variable {ty : TypeId} {pos : String} {after : Array Edge} {ops : Array Oper} {rest : List Oper}
theorem run_yieldOp {l : Nat} {α : Type} {c : α → List D} {xs : List α} {σ : Type} {φ : Nat → σ → Prop} {Mo : Nat → σ → List Res} (hy : YOk P l c xs φ Mo I0) {i : Nat} {x : α} {s : σ} {F : List Res} {y : Operand} {args : List Operand} {ats : Array TypeId} {Ds : List D} {dst : Tmp}
  (hyv : opd g y = some (dVal (.func (.yield l) #[] #[]))) (ha : opds g args = some Ds) (hN : Nat.blt dst N = true) (hx : xs[i]? = some x) (hφ : φ i s) (hM : M = Mo i s ++ F) (hD : ∀ I us, relL Ds I us → relL (c x) I us)
  (h : ∀ s', φ (i + 1) s' → RunL P f N I0 R ((dst, dB True) :: g) (Mo (i + 1) s' ++ F) ops rest k) :
  RunL P f N I0 R g M ops (⟨some dst, .call ⟨.value y, args.toArray, ats⟩, ty, pos, after, none⟩ :: rest) k := by
 subst hM
 constructor
 intro I a w b cs hb hk hl hs hi
 refine wpListIn_plain rfl fun K hK => ?_
 obtain ⟨fn, tmps, assign, body, h1, h2⟩ := hy F i x s I w (args.map a.eval) hx hφ hl (hD _ _ (opds_sound hs ha)) hi
 refine ⟨fun _ _ => trivial, ?_⟩
 rw [Oper.semAt_eq _ _ _ (by intro c hc; cases hc)]
 have hev : ∀ z, (R.act a).eval z = a.eval z := fun z => by cases z <;> rfl
 have he : (execOp (R.act a).eval ⟨some dst, .call ⟨.value y, args.toArray, ats⟩, ty, pos, after, none⟩).run P w = .ok (.round l fn tmps assign body) w := by
  have hfun : (R.act a).eval = a.eval := funext hev
  rw [hfun]
  have hyy : a.eval y = .func (.yield l) #[] #[] := opd_sound hs hyv
  have ht : List.take args.length (args.map a.eval) = args.map a.eval := List.take_of_length_le (by simp)
  simp [execOp, resolve, invoke, hyy, ht, Deferred.ofValue]
  simpa using h1
 rw [he]
 refine ⟨fun hd => Bool.noConfusion hd, ?_⟩
 refine RoundIn.mono (F := FR R.round) (n := 0) h2 ?_
 rintro e w' ⟨rfl, s', I2, h3, h4, h5⟩
 refine hK _ _ ?_
 have hput : (R.act a).put (some dst) (.bool true) = R.act (a.put (some dst) (.bool true)) := rfl
 rw [hput]
 exact (h s' h3).go I2 _ w' b cs hb hk (hl.trans h4) ((hs.mono h4).put ⟨true, rfl, by simp⟩ (by simpa [Nat.blt_eq] using hN)) h5
theorem clo_seq {fn : FuncId} {caps : List D} {α : Type} {c : α → List D} {xs : List α} {Rs : List Res} [hf : TyFn P fn] (h : ∀ (I : Imm) (lb : List Value), relL caps I lb → IterOk P fn lb c xs Rs I) : ∀ I v, (dClo fn caps).rel I v → (dSeqR P c xs Rs).rel I v := by
 rintro I v ⟨cap, rfl, hr⟩
 exact ⟨fn, cap.toList, by simp, hf, h I _ hr⟩

def roundG (l : Nat) (post : World → Prop) : Goal := { round := some l, post := fun e w => e = .returned (.bool true) ∧ post w }
theorem run_beginR {l : Nat} {r : Loop} {post : World → Prop} {C : Res → List Res} {F : List Res} (hs : Sel (rReady l r) M C F) (h : Run P f N I0 (roundG l post) g (C (rBusy l r)) k) : Run P f N I0 (roundG l post) g M (.beginRound :: k) := by
 constructor
 intro I a w b cs hb hk hl hsl hi
 have h2 := hi.perm hs.perm.1
 have hw := own_obj h2 (List.mem_cons_self ..)
 have hr := Go.run_beginRound (P := P) hw rfl
 refine .step (.one (stepR_beginRound hk.2 hr)) (h.go I a _ b cs hb hk hl hsl ?_)
 exact (inv_putObj (r' := rBusy l r) h2 rfl rfl rfl).perm (hs.perm.2 _)
theorem run_roundEnd {l : Nat} {r : Loop} {σ : Type} {φ : σ → Prop} {Mo : σ → List Res} {F1 : List Res} {C : Res → List Res} {F : List Res} (s' : σ) (hφ : φ s') (hs : Sel (rBusy l r) M C F) (hM : C (rReady l r) = rReady l r :: (Mo s' ++ F1)) :
  Run P f N I0 (roundG l fun w => ∃ s' I2, φ s' ∧ I0.le I2 ∧ Inv I2 (rReady l r :: (Mo s' ++ F1)) w) g M [] := by
 constructor
 intro I a w b cs hb hk hl hsl hi
 have h2 := hi.perm hs.perm.1
 have hw := own_obj h2 (List.mem_cons_self ..)
 have hr := run_endRound (P := P) none hw
 show ∀ c cs0, cs = c :: cs0 → _
 rintro c cs0 rfl
 refine ⟨.bool true, _, ⟨rfl, s', I, hφ, hl, ?_⟩, .one (stepR_round_end hk.2 hk.1 hr)⟩
 rw [← hM]
 exact (inv_putObj (r' := rReady l r) h2 rfl rfl rfl).perm (hs.perm.2 _)
@[reducible] def Goal.mark (R : Goal) (D : Nat) : Goal := { R with marks := { target := .collected D, args := #[] } :: R.marks }
@[reducible] def setP : List Tmp → List D → G → G
 | [], _, g => g
 | _, [], g => g
 | p :: ps, d :: ds, g => setP ps ds ((p, d) :: g)
theorem slots_setP {I : Imm} : ∀ {ps : List Tmp} {ds : List D} {us : List Value} {g : G} {tmps : Array Value}, (∀ p ∈ ps, p < N) → ps.length = us.length → relL ds I us → Slots g N I { tmps := tmps, defers := [] } →
  Slots (setP ps ds g) N I { tmps := (ps.zip us).foldl (fun t (p, u) => t.setIfInBounds p u) tmps, defers := [] }
 | [], ds, [], g, tmps, _, _, _, hs => by cases ds <;> exact hs
 | p :: ps, [], u :: us, g, tmps, _, _, hr, _ => by cases hr
 | p :: ps, d :: ds, u :: us, g, tmps, hp, hl, hr, hs => by
  have h1 := hs.put (k := p) (d := d) (v := u) hr.1 (hp p (List.mem_cons_self ..))
  exact slots_setP (ps := ps) (ds := ds) (us := us) (fun q hq => hp q (List.mem_cons_of_mem _ hq)) (by simpa using hl) hr.2 h1
theorem run_rangeFunc {gx : Operand} {ps : List Tmp} {assign body : Code} {α : Type} {c : α → List D} {xs : List α} {σ : Type} (φ : Nat → σ → Prop) (Mo : Nat → σ → List Res) {F Rs : List Res} (s0 : σ)
  (hro : R.round = none) (hms : R.marks = []) (hg : opd g gx = some (dSeqR P c xs Rs)) (hps : ∀ x, (c x).length = ps.length) (hpN : ps.all (fun p => Nat.blt p N) = true) (h0 : φ 0 s0) (hM : M = Mo 0 s0 ++ (Rs ++ F))
  (hround : ∀ (i : Nat) (x : α) (s : σ) (l : Nat) (r : Loop) (F1 : List Res) (J : Imm), xs[i]? = some x → φ i s →
   Run P f N J (roundG l fun w => ∃ s' I2, φ (i + 1) s' ∧ J.le I2 ∧ Inv I2 (rReady l r :: (Mo (i + 1) s' ++ F1)) w) (setP ps (c x) g) (rReady l r :: (Mo i s ++ F1)) [.code assign, .beginRound, .code body])
  (hdone : ∀ (D : Nat) (s : σ), φ xs.length s → Run P f N I0 (R.mark D) g (rDef D :: (Mo xs.length s ++ (Rs ++ F))) k) :
  Run P f N I0 R g M (.code (.rangeFunc gx ps.toArray assign body) :: k) := by
 subst hM
 constructor
 intro I a w b cs hb hk hl hs hi
 obtain ⟨gf, lb, hgv, hfn, hit⟩ := opd_sound hs hg
 let r : Loop := { state := .ready, pending := none, fn := f, tmps := a.tmps, params := ps.toArray, assign, body, defers := w.heap.size }
 let w1 := (w.alloc (.deferred (some []))).alloc (.loop r)
 have he : (Instr.enterLoop b.fn (R.act a).tmps ps.toArray assign body b.roundOf).run P w = .ok (w.heap.size + 1, [{ target := .collected w.heap.size, args := #[] }]) w1 := by
  rw [hk.2, hro, hb]
  exact run_enterLoop_outer _ _ _ _ _
 have hev : (R.act a).eval gx = .func (.func gf) #[] lb.toArray := by
  have : (R.act a).eval gx = a.eval gx := by cases gx <;> rfl
  rw [this]; exact hgv
 have hres : (resolve (R.act a).eval (rangeCall gx (w.heap.size + 1)) 0).run P w1 = .ok { target := .fn (.func gf) lb.toArray, args := #[.func (.yield (w.heap.size + 1)) #[] #[]] } w1 := by
  simp only [resolve, hev]
  simp [go_sem]
 have hinv : (invoke (Target.fn (.func gf) lb.toArray) #[.func (.yield (w.heap.size + 1)) #[] #[]]).run P w1 = .ok (.enter gf (#[.func (.yield (w.heap.size + 1)) #[] #[]] ++ lb.toArray)) w1 := by
  simp [invoke, go_sem, run_callFunc hfn]
 have hstep := stepR_rangeFunc (P := P) (b := b) (a := R.act a) (k := k) (cs := cs) (w := w) he hres hinv
 have hi1 : Inv I (rReady (w.heap.size + 1) r :: (Mo 0 s0 ++ (Rs ++ (rDef w.heap.size :: F)))) w1 := by
  have h1 := hi.allocOwn (.deferred (some [])) (rDef w.heap.size) rfl rfl
  have h2 := h1.allocOwn (.loop r) (rReady (w.alloc (.deferred (some []))).heap.size r) rfl rfl
  rw [World.size_alloc] at h2
  exact h2.perm (.cons _ ((List.perm_middle.symm).trans ((List.perm_middle.symm).append_left _)))
 have hcalls := hit (w.heap.size + 1) σ φ (fun i s => rReady (w.heap.size + 1) r :: Mo i s) (rDef w.heap.size :: F) s0 I w1 I.le_refl h0 hi1 ?_
 ·obtain ⟨e, w2, fr, hpost, hsteps, hfr, hleave⟩ := hcalls (b.atR { R.act a with defers := [{ target := .collected w.heap.size, args := #[] }] ++ (R.act a).defers } (.inRangeFunc (w.heap.size + 1) :: k) :: cs)
  obtain ⟨v, rfl, s', hφ', I', hle', _, hi'⟩ := hpost
  have hw2 := own_obj hi' (List.mem_cons_self ..)
  have hend := run_endLoop (P := P) hw2 (by simp)
  have sback := step_leave_returned (c := b.atR { R.act a with defers := [{ target := .collected w.heap.size, args := #[] }] ++ (R.act a).defers } (.inRangeFunc (w.heap.size + 1) :: k)) (cs := cs) hleave
  rw [finish_atR_inRangeFunc] at sback
  have send := stepR_endRangeFunc (P := P) (b := b) (a := { R.act a with defers := [{ target := .collected w.heap.size, args := #[] }] ++ (R.act a).defers }) (k := k) (cs := cs) hend
  refine .step (Steps.trans (.one hstep) (Steps.trans hsteps (Steps.trans (.one sback) (.one send)))) ?_
  have hi2 : Inv I' (rDef w.heap.size :: (Mo xs.length s' ++ (Rs ++ F))) (w2.putObj (w.heap.size + 1) (.loop { r with state := .exhausted, pending := none })) := by
   have h1 := inv_putObj (r' := ⟨some (w.heap.size + 1), fun _ o => o = some (.loop { r with state := .exhausted, pending := none }), fun _ h => h⟩) hi' rfl rfl rfl
   exact (inv_tail h1).perm ((List.perm_middle.append_left _).trans List.perm_middle)
  have := (hdone w.heap.size s' hφ').go I' a _ b cs hb ⟨hk.1, hk.2⟩ (hl.trans hle') (hs.mono hle') hi2
  exact this
 ·intro F1 i x s I1 w1 us hx hφ hle hus hi1
  have hw1 := own_obj hi1 (List.mem_cons_self ..)
  have hlen : us.length = ps.length := by rw [← relL_length hus, hps]
  have hy := Go.run_yield (P := P) (args := us.toArray) hw1 (by show us.toArray.size = ps.toArray.size; simpa using hlen)
  refine ⟨f, _, assign, body, hy, trivial, fun c0 cs0 _ => ?_⟩
  let b0 : Frame := { (default : Frame) with fn := f, kind := .normal, roundOf := some (w.heap.size + 1) }
  have hpN' : ∀ p ∈ ps, p < N := fun p hp => by
   have := List.all_eq_true.1 hpN p hp
   simpa [Nat.blt_eq] using this
  have hs1 : Slots g N I1 { tmps := a.tmps, defers := [] } := by
   have := hs.mono hle
   exact ⟨this.size, rfl, fun k d hk => this.slot k d hk⟩
  have hsl := slots_setP (ps := ps) (ds := c x) (us := us) hpN' hlen.symm hus hs1
  have hgo := (hround i x s (w.heap.size + 1) r F1 I1 hx hφ).go I1 _ w1 b0 (c0 :: cs0) rfl ⟨rfl, rfl⟩ I1.le_refl hsl hi1
  obtain ⟨v, w3, ⟨rfl', s', I2, h1, h2, h3⟩, hst⟩ := hgo c0 cs0 rfl
  injection rfl' with hv
  subst hv
  refine ⟨.returned (.bool true), w3, ⟨rfl, s', I2, h1, h2, h3⟩, ?_⟩
  have hfr : Frame.round (w.heap.size + 1) f ((ps.toArray.zip us.toArray).foldl (fun tmps (t, u) => tmps.setIfInBounds t u) a.tmps) assign body .normal = b0.atR ((roundG (w.heap.size + 1) fun w_1 => ∃ s' I2, φ (i + 1) s' ∧ I1.le I2 ∧ Inv I2 (rReady (w.heap.size + 1) r :: (Mo (i + 1) s' ++ F1)) w_1).act { tmps := (ps.zip us).foldl (fun t (p, u) => t.setIfInBounds p u) a.tmps, defers := [] }) [.code assign, .beginRound, .code body] := by
   simp [Frame.round, Frame.atR, b0, roundG, Goal.act]
  rw [hfr]
  exact stepsIn_wide.2 hst

theorem goes_retMk {fn : Func} {a : Act} {b : Frame} {cs : List Frame} {w : World} {v : Value} {D : Nat} (hf : P.funcs[f]? = some fn) (hb : b.fn = f) (hk : b.kind = .normal ∧ b.roundOf = R.round) (hw : w.heap[D]? = some (.deferred (some [])))
  (hr : (results fn a.tmps).run P (w.putObj D (.deferred none)) = .ok v (w.putObj D (.deferred none)))
  (hR : R.post (.returned v) (w.putObj D (.deferred none))) (hro : R.round = none := by rfl) (hms : R.marks = [{ target := .collected D, args := #[] }] := by rfl) : Goes P f R (b.atR (R.act a) (.code .ret :: k)) cs w := by
 have s1 := stepR_ret (P := P) (b := b) (a := R.act a) (k := k) (cs := cs) (w := w) (hk.2.trans hro)
 have s2 := step_collected (P := P) (cs := cs) (fr := { b.atR (R.act a) (.code .ret :: k) with mode := .returning }) (by simp) (d := { target := .collected D, args := #[] }) (ds := []) hms rfl (run_takeDeferred hw)
 unfold Goes
 rw [hro]
 exact ⟨.returned v, _, { { b.atR (R.act a) (.code .ret :: k) with mode := .returning } with defers := [] ++ [] }, hR, Steps.trans (.one s1) (.one s2), hb, rfl, rfl, hk.1, fn, by simpa [Frame.atR, hb] using hf, hr⟩
theorem inv_unmark {I : Imm} {D : Nat} {F : List Res} {w : World} (h : Inv I (rDef D :: F) w) : w.heap[D]? = some (.deferred (some [])) ∧ Inv I F (w.putObj D (.deferred none)) :=
 ⟨own_obj h (List.mem_cons_self ..), inv_tail (inv_putObj (r' := ⟨some D, fun _ o => o = some (.deferred none), fun _ h => h⟩) h rfl rfl rfl)⟩
theorem run_retMk {fn : Func} {rs : List ResultVar} {ds : List D} {σ : Type} {φ : σ → Prop} {d : σ → D} {Mout : σ → List Res} {F0 F : List Res} {C : Res → List Res} {D : Nat} (s : σ) (hsel : Sel (rDef D) M C F) (hf : P.funcs[f]? = some fn) (hr : fn.results = rs.toArray) (h : ResOk P g F rs ds)
  (hle : ∀ I v, (retD ds).rel I v → (d s).rel I v) (hφ : φ s) (hM : ∀ I w, Inv I F w → Inv I (Mout s ++ F0) w) : Run P f N I0 ((Post I0 φ d Mout F0).mark D) g M (.code .ret :: k) :=
 ⟨fun _ a w _ _ hb hk hl hs hi => by
  obtain ⟨h1, h2⟩ := inv_unmark (hi.perm hsel.perm.1)
  obtain ⟨_, h3, h4⟩ := results_ok hr h hs h2
  exact goes_retMk hf hb hk h1 h3 ⟨_, rfl, s, hφ, _, hl, hle _ _ h4, hM _ _ h2⟩⟩

theorem run_ret0End {fn : Func} {σ : Type} {φ : σ → Prop} {d : σ → D} {Mout : σ → List Res} {F : List Res} (s : σ) (hf : P.funcs[f]? = some fn) (hr : fn.results = #[]) (hle : ∀ I v, (dTup []).rel I v → (d s).rel I v) (hφ : φ s) (hM : ∀ I w, Inv I M w → Inv I (Mout s ++ F) w) : Run P f N I0 (Post I0 φ d Mout F) g M [] :=
 ⟨fun _ a w _ _ hb hk hl hs hi => let ⟨_, h1, h2⟩ := results_ok (rs := []) (ds := []) hr .nil hs hi; goes_end hf hb hk h1 ⟨_, rfl, s, hφ, _, hl, hle _ _ h2, hM _ _ hi⟩⟩
end Go.Q
