/- Contracts of wishes. -/
import Derived.Test.YtmihhjchmnmaiaaQPlainW
set_option linter.unusedVariables false
set_option linter.unusedSimpArgs false
namespace Go.Q
open Go.Proofs

open Classical
abbrev fQ (x : List (List Int)) : List D := [dRows x]
abbrev dQs (xs : List (List (List Int))) : D := dSl 1 fQ xs
theorem d_toQs {d : D} {t t' : List (List (List Int))} (e : t = t') (h : ∀ I v, d.rel I v → (dQs t').rel I v) : ∀ I v, d.rel I v → (dQs t).rel I v := e ▸ h
theorem wwithin_spec (n lo hi : Int) : SpecP Try.prog 58 [dInt .i64 n, dInt .i64 lo, dInt .i64 hi] (dB (lo ≤ n ∧ n ≤ hi)) := by
  refine specP_of_body Try.func58 rfl rfl (fun I M => ?_)
  refine run_seq ?_
  refine run_region ?_
  refine run_op (loc_assign rfl) rfl ?_
  refine run_nil ?_
  refine run_seq ?_
  refine run_region ?_
  refine run_op (loc_move rfl) rfl ?_
  refine run_op (loc_move rfl) rfl ?_
  refine run_op (loc_geq rfl rfl) rfl ?_
  refine run_op (loc_move rfl) rfl ?_
  refine run_gfirst rfl rfl (by first | exact guard_true _ | exact guard_false _ | exact guard_if (guard_true _) | exact guard_if (guard_false _)) (fun hg => loc_move rfl) rfl ?_
  refine run_gop rfl rfl (by first | exact guard_true _ | exact guard_false _ | exact guard_if (guard_true _) | exact guard_if (guard_false _)) (fun hg => loc_move rfl) rfl ?_
  refine run_gop rfl rfl (by first | exact guard_true _ | exact guard_false _ | exact guard_if (guard_true _) | exact guard_if (guard_false _)) (fun hg => loc_leq rfl rfl) rfl ?_
  refine run_gleave ?_
  refine run_op (loc_and rfl rfl) rfl ?_
  refine run_op (loc_assign rfl) rfl ?_
  refine run_nil ?_
  refine run_retP Try.func58 rfl rfl ?_
  exact d_B (by constructor <;> (intro h; omega))

theorem wvalid1_spec (n r : Int) (hn : 1 ≤ n ∧ n ≤ 1024) : SpecP Try.prog 77 [dInt .i64 r, dBox [dInt .i64 n]] (dB (¬ (-1 ≤ r ∧ r ≤ n - 1))) := by
  refine specP_of_body Try.func77 rfl rfl (fun I M => ?_)
  refine run_seq ?_
  refine run_region ?_
  refine run_op (loc_assign rfl) rfl ?_
  refine run_nil ?_
  refine run_seq ?_
  refine run_region ?_
  refine run_op (loc_move rfl) rfl ?_
  refine run_op (loc_load1 rfl) rfl ?_
  first | refine run_op (loc_sub rfl rfl (by first | omega | assumption)) rfl ?_ | refine run_op (loc_subW rfl rfl) rfl ?_
  refine run_op (loc_call (wwithin_spec _ _ _) rfl) rfl ?_
  refine run_op (loc_not rfl) rfl ?_
  refine run_op (loc_assign rfl) rfl ?_
  refine run_nil ?_
  refine run_retP Try.func77 rfl rfl ?_
  exact fun _ _ h => h

theorem cfW_spec (n : Int) (hn : 1 ≤ n ∧ n ≤ 1024) (ls : List Int) : SpecP Try.prog 76 [dInts ls, dClo 77 [dBox [dInt .i64 n]]] (dB (∃ x ∈ ls, ¬ (-1 ≤ x ∧ x ≤ n - 1))) :=
  specP_pre (containsFuncI_spec (fun x => ¬ (-1 ≤ x ∧ x ≤ n - 1)) ls) (relL_last (ds := [dInts ls]) (clo_fun (P := Try.prog) (Ds := fun x : Int => [dInt .i64 x]) (d := fun x => dB (¬ (-1 ≤ x ∧ x ≤ n - 1))) (fun x => wvalid1_spec n x hn)))
theorem repLitW_spec (x n : Int) (h : 0 ≤ n ∧ n ≤ 1000000) : SpecP Try.prog 59 [dSl 1 (fun l : List D => l) [fI x], dInt .i64 n] (dInts (List.replicate n.toNat x)) := by
  have h1 := repeatI_spec [x] n.toNat (by simp; omega) (by omega) (by simp)
  rw [reps_one, show ((n.toNat : Nat) : Int) = n by omega] at h1
  exact specP_pre h1 (fun I vs hr => by
    match vs, hr with
    | [a, b], hr => exact ⟨d_sl (f := fun l : List D => l) (xs := [fI x]) (ys := [x]) (h := fI) rfl _ _ hr.1, hr.2.1, trivial⟩)
theorem repW_spec (ls : List Int) (n : Int) (h : 0 ≤ n ∧ n ≤ 16) (hl : ls.length ≤ 100000) : SpecP Try.prog 59 [dInts ls, dInt .i64 n] (dInts (reps n.toNat ls)) := by
  have hm := Nat.mul_le_mul (show n.toNat ≤ 16 by omega) hl
  have h1 := repeatI_spec ls n.toNat (by omega) (by omega) (by omega)
  rwa [show ((n.toNat : Nat) : Int) = n by omega] at h1
theorem wvalid_spec (rows : List Int) (n : Int) : SpecP Try.prog 56 [dInts rows, dInt .i64 n] (dB (okW n rows)) := by
  refine specP_of_body Try.func56 rfl rfl (fun I M => ?_)
  refine run_seq ?_
  refine run_region ?_
  refine run_op (loc_box1 rfl) rfl ?_
  refine run_op (loc_assign rfl) rfl ?_
  refine run_nil ?_
  refine run_seq ?_
  refine run_region ?_
  refine run_op (loc_load1 rfl) rfl ?_
  refine run_op (loc_call (wwithin_spec _ _ _) rfl) rfl ?_
  refine run_op (loc_move rfl) rfl ?_
  refine run_gfirst rfl rfl (by first | exact guard_true _ | exact guard_false _ | exact guard_if (guard_true _) | exact guard_if (guard_false _)) (fun hg => loc_move rfl) rfl ?_
  refine run_gop rfl rfl (by first | exact guard_true _ | exact guard_false _ | exact guard_if (guard_true _) | exact guard_if (guard_false _)) (fun hg => loc_len rfl) rfl ?_
  refine run_gop rfl rfl (by first | exact guard_true _ | exact guard_false _ | exact guard_if (guard_true _) | exact guard_if (guard_false _)) (fun hg => loc_call (wwithin_spec _ _ _) rfl) rfl ?_
  refine run_gleave ?_
  refine run_op (loc_and rfl rfl) rfl ?_
  refine run_op (loc_move rfl) rfl ?_
  refine run_gfirst rfl rfl (by first | exact guard_true _ | exact guard_false _ | exact guard_if (guard_true _) | exact guard_if (guard_false _)) (fun hg => loc_move rfl) rfl ?_
  refine run_gop rfl rfl (by first | exact guard_true _ | exact guard_false _ | exact guard_if (guard_true _) | exact guard_if (guard_false _)) (fun hg => loc_makeFunc rfl) rfl ?_
  refine run_gop rfl rfl (by first | exact guard_true _ | exact guard_false _ | exact guard_if (guard_true _) | exact guard_if (guard_false _)) (fun hg => loc_call (cfW_spec n (by omega) _) rfl) rfl ?_
  refine run_gop rfl rfl (by first | exact guard_true _ | exact guard_false _ | exact guard_if (guard_true _) | exact guard_if (guard_false _)) (fun hg => loc_not rfl) rfl ?_
  refine run_gleave ?_
  refine run_op (loc_and rfl rfl) rfl ?_
  refine run_op (loc_assign rfl) rfl ?_
  refine run_nil ?_
  refine run_retP Try.func56 rfl rfl ?_
  exact d_B (by unfold okW; constructor; (· rintro ⟨⟨a, b⟩, c⟩; exact ⟨a, b, fun r hr => Classical.not_not.1 fun h => c ⟨r, hr, h⟩⟩); (· rintro ⟨a, b, c⟩; exact ⟨⟨a, b⟩, fun ⟨r, hr, h⟩ => h (c r hr)⟩))

theorem wpad_spec (rows : List Int) (k : Int) : SpecP Try.prog 36 [dInts rows, dInt .i64 k] (dTup [dInts (padL k rows), dInt .i64 (padE k rows)]) := by
  refine specP_of_body Try.func36 rfl rfl (fun I M => ?_)
  refine run_seq ?_
  refine run_region ?_
  refine run_op (loc_assign rfl) rfl ?_
  refine run_op (loc_assign rfl) rfl ?_
  refine run_nil ?_
  refine run_seq ?_
  refine run_seq ?_
  refine run_region ?_
  refine run_op (loc_move rfl) rfl ?_
  refine run_op (loc_call (wwithin_spec _ _ _) rfl) rfl ?_
  refine run_op (loc_not rfl) rfl ?_
  refine run_op (loc_move rfl) rfl ?_
  refine run_gfirst rfl rfl (by first | exact guard_true _ | exact guard_false _ | exact guard_if (guard_true _) | exact guard_if (guard_false _)) (fun hg => loc_move rfl) rfl ?_
  refine run_gop rfl rfl (by first | exact guard_true _ | exact guard_false _ | exact guard_if (guard_true _) | exact guard_if (guard_false _)) (fun hg => loc_len rfl) rfl ?_
  refine run_gop rfl rfl (by first | exact guard_true _ | exact guard_false _ | exact guard_if (guard_true _) | exact guard_if (guard_false _)) (fun hg => loc_move rfl) rfl ?_
  refine run_gop rfl rfl (by first | exact guard_true _ | exact guard_false _ | exact guard_if (guard_true _) | exact guard_if (guard_false _)) (fun hg => loc_gtr rfl rfl) rfl ?_
  refine run_gleave ?_
  refine run_op (loc_or rfl rfl) rfl ?_
  refine run_nil ?_
  refine run_cond rfl (fun h1 => ?_) (fun h1 => ?_)
  ·
    have c1 := h1
    refine run_seq ?_
    refine run_region ?_
    refine run_op (loc_assign rfl) rfl ?_
    refine run_op (loc_assign rfl) rfl ?_
    refine run_nil ?_
    refine run_ret2P Try.func36 rfl rfl rfl ?_
    exact d_tup2 (d_toInts (by unfold padL padE; rw [if_pos c1, if_neg (by omega)]) d_nil) (d_int (by unfold padE; rw [if_pos c1]))
  ·
    have c1 := h1
    refine run_skip ?_
    refine run_seq ?_
    refine run_region ?_
    refine run_op (loc_move rfl) rfl ?_
    refine run_callN rfl (cloneIM_spec _ (by omega)) rfl (fun v2 hv2 => ?_)
    refine run_op (loc_buildSlice rfl rfl (.one rfl (.nil)) rfl rfl) rfl ?_
    refine run_op (loc_move rfl) rfl ?_
    refine run_op (loc_move rfl) rfl ?_
    first | refine runL_fact (s := 19) rfl (fun _ _ h => dSl_len h) (fun hlen3 => ?_) | skip
    refine run_op (loc_len rfl) rfl ?_
    first | refine run_op (loc_sub rfl rfl (by first | omega | assumption)) rfl ?_ | refine run_op (loc_subW rfl rfl) rfl ?_
    refine run_op (loc_call (repLitW_spec _ _ (by omega)) rfl) rfl ?_
    refine run_append rfl (.here) rfl (by rfl) (by first | omega | (unfold lenMax; omega) | assumption | (simp; omega) | (simp [lenMax]; omega)) (by first | omega | (unfold lenMax; omega) | assumption | (simp; omega) | (simp [lenMax]; omega)) rfl (fun v4 => ?_)
    refine run_op (loc_assign rfl) rfl ?_
    refine run_op (loc_assign rfl) rfl ?_
    refine run_nil ?_
    refine run_freezeRow (s := 4) rfl (.here) ?_
    refine run_ret2P Try.func36 rfl rfl rfl ?_
    exact d_tup2 (d_toInts (by unfold padL padE; rw [if_neg c1, if_pos rfl]) (fun _ _ h => h)) (d_int (by unfold padE; rw [if_neg c1]))

theorem wlimits_spec (s : Schm) (p n k : Int) : SpecP Try.prog 37 [dSchm s, dAgg [dInt .i64 p], dInt .i64 n, dInt .i64 k] (dTup [dInts (wlimL s p n k), dInt .i64 (wlimE s p n k)]) := by
  refine specP_of_body Try.func37 rfl rfl (fun I M => ?_)
  refine run_seq ?_
  refine run_region ?_
  refine run_op (loc_boxN rfl) rfl ?_
  refine run_op (loc_boxN rfl) rfl ?_
  refine run_op (loc_assign rfl) rfl ?_
  refine run_op (loc_assign rfl) rfl ?_
  refine run_nil ?_
  refine run_seq ?_
  refine run_block ?_
  refine run_seq ?_
  refine run_region ?_
  refine run_op (loc_loadN rfl rfl) rfl ?_
  refine run_op (loc_loadN rfl rfl) rfl ?_
  refine run_op (loc_call (valid_spec _ _) rfl) rfl ?_
  refine run_op (loc_not rfl) rfl ?_
  refine run_op (loc_assign rfl) rfl ?_
  refine run_nil ?_
  refine run_cond rfl (fun h1 => ?_) (fun h1 => ?_)
  ·
    have c1 := h1
    refine run_seq ?_
    refine run_region ?_
    refine run_op (loc_assign rfl) rfl ?_
    refine run_op (loc_assign rfl) rfl ?_
    refine run_nil ?_
    refine run_ret2P Try.func37 rfl rfl rfl ?_
    exact d_tup2 (d_toInts (by unfold wlimL wlimE; rw [if_pos c1, if_neg (by omega)]) d_nil) (d_int (by unfold wlimE; rw [if_pos c1]))
  ·
    have c1 := Classical.not_not.1 h1
    refine run_seq ?_
    refine run_region ?_
    refine run_op (loc_move rfl) rfl ?_
    refine run_op (loc_call (wwithin_spec _ _ _) rfl) rfl ?_
    refine run_op (loc_not rfl) rfl ?_
    refine run_op (loc_move rfl) rfl ?_
    refine run_gfirst rfl rfl (by first | exact guard_true _ | exact guard_false _ | exact guard_if (guard_true _) | exact guard_if (guard_false _)) (fun hg => loc_move rfl) rfl ?_
    refine run_gop rfl rfl (by first | exact guard_true _ | exact guard_false _ | exact guard_if (guard_true _) | exact guard_if (guard_false _)) (fun hg => loc_call (wwithin_spec _ _ _) rfl) rfl ?_
    refine run_gop rfl rfl (by first | exact guard_true _ | exact guard_false _ | exact guard_if (guard_true _) | exact guard_if (guard_false _)) (fun hg => loc_not rfl) rfl ?_
    refine run_gleave ?_
    refine run_op (loc_or rfl rfl) rfl ?_
    refine run_op (loc_assign rfl) rfl ?_
    refine run_nil ?_
    refine run_cond rfl (fun h2 => ?_) (fun h2 => ?_)
    ·
      have c2 := h2
      refine run_seq ?_
      refine run_region ?_
      refine run_op (loc_assign rfl) rfl ?_
      refine run_op (loc_assign rfl) rfl ?_
      refine run_nil ?_
      refine run_ret2P Try.func37 rfl rfl rfl ?_
      exact d_tup2 (d_toInts (by unfold wlimL wlimE; rw [if_neg (Classical.not_not.2 c1), if_pos c2, if_neg (by omega)]) d_nil) (d_int (by unfold wlimE; rw [if_neg (Classical.not_not.2 c1), if_pos c2]))
    ·
      have c2 := h2
      refine run_skip ?_
      refine run_inBlock ?_
      refine run_seq ?_
      have hn : 1 ≤ n ∧ n ≤ 1024 := by omega
      have hwe : wlimE s p n k = 0 := by unfold wlimE; rw [if_neg (Classical.not_not.2 c1), if_neg c2]
      have hlm := lim_ok c1 hn
      have hlb := limN_bd c1 hn
      have hll : (limL s p n).length ≤ 100000 := by rw [hlm.2, List.length_replicate]; omega
      refine run_region ?_
      refine run_op (loc_loadN rfl rfl) rfl ?_
      refine run_op (loc_loadN rfl rfl) rfl ?_
      refine run_op (loc_move rfl) rfl ?_
      refine run_op (loc_call (slimits_spec _ _ _) rfl) rfl ?_
      refine run_op (loc_move rfl) rfl ?_
      refine run_op (loc_extract rfl rfl) rfl ?_
      refine run_op (loc_extract rfl rfl) rfl ?_
      refine run_op (loc_assign rfl) rfl ?_
      refine run_op (loc_assign rfl) rfl ?_
      refine run_nil ?_
      refine run_seq ?_
      refine run_seq ?_
      refine run_region ?_
      refine run_op (loc_move rfl) rfl ?_
      refine run_op (loc_neq rfl rfl) rfl ?_
      refine run_nil ?_
      refine run_cond rfl (fun h3 => ?_) (fun h3 => ?_)
      · exfalso; exact h3 hlm.1
      ·
        refine run_skip ?_
        refine run_seq ?_
        refine run_region ?_
        refine run_op (loc_move rfl) rfl ?_
        refine run_op (loc_move rfl) rfl ?_
        refine run_op (loc_call (repW_spec _ _ (by omega) hll) rfl) rfl ?_
        refine run_op (loc_assign rfl) rfl ?_
        refine run_op (loc_assign rfl) rfl ?_
        refine run_nil ?_
        refine run_ret2P Try.func37 rfl rfl rfl ?_
        exact d_tup2 (d_toInts (by unfold wlimL; rw [if_pos hwe]) (fun _ _ h => h)) (d_int hwe.symm)

theorem wqueries_spec (s : Schm) (p n : Int) (rows : List Int) (t : Tape) : SpecP Try.prog 38 [dSchm s, dAgg [dInt .i64 p], dInt .i64 n, dInts rows, dTape t] (dTup [dQs (wqL s p n rows t), dTape (wqT s p n rows t), dInt .i64 (wqE s p n rows t)]) := by
  refine specP_of_body Try.func38 rfl rfl (fun I M => ?_)
  refine run_seq ?_
  refine run_region ?_
  refine run_op (loc_boxN rfl) rfl ?_
  refine run_op (loc_boxN rfl) rfl ?_
  refine run_new (loc_boxOwnN rfl) rfl (fun b9 _ => ?_)
  refine run_op (loc_assign rfl) rfl ?_
  refine run_new (loc_allocOwn (by simp)) rfl (fun b1 _ => ?_)
  refine run_op (loc_assign rfl) rfl ?_
  refine run_nil ?_
  refine run_seq ?_
  refine run_block ?_
  refine run_seq ?_
  refine run_region ?_
  refine run_op (loc_loadN rfl rfl) rfl ?_
  refine run_op (loc_loadN rfl rfl) rfl ?_
  refine run_op (loc_call (valid_spec _ _) rfl) rfl ?_
  refine run_op (loc_not rfl) rfl ?_
  refine run_op (loc_assign rfl) rfl ?_
  refine run_nil ?_
  refine run_cond rfl (fun h2 => ?_) (fun h2 => ?_)
  ·
    have c1 := h2
    refine run_seq ?_
    refine run_region ?_
    refine run_op (loc_build (.nil)) rfl ?_
    refine run_op (loc_assign rfl) rfl ?_
    refine run_storeN (ho := (by show OneAll [_, _]; infer_instance)) rfl rfl (.here) (by rfl) ?_
    refine run_op (loc_assign rfl) rfl ?_
    refine run_nil ?_
    refine run_retGP Try.func38 rfl (.tmp rfl (.cellN rfl (by first | exact .here | exact .there .here | exact .there (.there .here) | exact .there (.there (.there .here)) | exact .there (.there (.there (.there .here))) | exact .there (.there (.there (.there (.there .here))))) (by rfl) (.tmp rfl (.nil)))) ?_ (fun _ _ h => inv_tail (inv_tail (h)))
    exact d_tup3 (d_toQs (by unfold wqL wqE; rw [if_pos c1, if_neg (by omega)]) d_nil) (d_toTape (by unfold wqT wqE; rw [if_pos c1, if_neg (by omega)]) (d_aggU (.cons d_nil (.cons (d_int rfl) .nil)))) (d_int (by unfold wqE; rw [if_pos c1]))
  ·
    have c1 := Classical.not_not.1 h2
    refine run_seq ?_
    refine run_region ?_
    refine run_op (loc_move rfl) rfl ?_
    refine run_op (loc_move rfl) rfl ?_
    refine run_op (loc_call (wvalid_spec _ _) rfl) rfl ?_
    refine run_op (loc_not rfl) rfl ?_
    refine run_op (loc_assign rfl) rfl ?_
    refine run_nil ?_
    refine run_cond rfl (fun h3 => ?_) (fun h3 => ?_)
    ·
      have c2 := h3
      refine run_seq ?_
      refine run_region ?_
      refine run_op (loc_build (.nil)) rfl ?_
      refine run_op (loc_assign rfl) rfl ?_
      refine run_storeN (ho := (by show OneAll [_, _]; infer_instance)) rfl rfl (.here) (by rfl) ?_
      refine run_op (loc_assign rfl) rfl ?_
      refine run_nil ?_
      refine run_retGP Try.func38 rfl (.tmp rfl (.cellN rfl (by first | exact .here | exact .there .here | exact .there (.there .here) | exact .there (.there (.there .here)) | exact .there (.there (.there (.there .here))) | exact .there (.there (.there (.there (.there .here))))) (by rfl) (.tmp rfl (.nil)))) ?_ (fun _ _ h => inv_tail (inv_tail (h)))
      exact d_tup3 (d_toQs (by unfold wqL wqE; rw [if_neg (Classical.not_not.2 c1), if_pos c2, if_neg (by omega)]) d_nil) (d_toTape (by unfold wqT wqE; rw [if_neg (Classical.not_not.2 c1), if_pos c2, if_neg (by omega)]) (d_aggU (.cons d_nil (.cons (d_int rfl) .nil)))) (d_int (by unfold wqE; rw [if_neg (Classical.not_not.2 c1), if_pos c2]))
    ·
      have c2 := Classical.not_not.1 h3
      refine run_skip ?_
      refine run_inBlock ?_
      refine run_seq ?_
      refine run_region ?_
      refine run_op (loc_assign rfl) rfl ?_
      refine run_nil ?_
      refine run_seq ?_
      refine run_seq ?_
      refine run_region ?_
      refine run_op (loc_move rfl) rfl ?_
      first | refine runL_fact (s := 31) rfl (fun _ _ h => dSl_len h) (fun hlen4 => ?_) | skip
      refine run_op (loc_len rfl) rfl ?_
      refine run_op (loc_move rfl) rfl ?_
      refine run_nil ?_
      refine run_block ?_
      refine run_rowNil 43 1 fQ ?_
      refine run_front (.here) ?_
      refine run_front (.there (.there (.here))) ?_
      refine run_loopF (σ := Value × Nat) (ks := [2, 5, 6, 9, 11, 31, 32]) (.cons rfl (.cons rfl (.cons rfl (.cons rfl (.cons rfl (.cons rfl (.cons rfl (.nil)))))))) (fun q => [(13, dVal q.1), (33, dInt .i64 (q.2 : Nat))]) (fun q => [rCells b9 57 (cTape (qsT s p n (rows.take q.2) t)), rRow q.1 43 1 fQ (qsL s p n (rows.take q.2) t)]) (fun q => q.2 ≤ rows.length ∧ qsE s p n (rows.take q.2) t = 0) (fun q => rows.length - q.2) ((.slice none 0 0, 0)) (⟨Nat.zero_le _, by simp [qsE]⟩) (.cons rfl (by first | exact fun _ _ h => h | exact d_int (by omega) | exact d_int (by simp) | exact d_intN (by omega) | exact d_any) (.cons rfl (by first | exact fun _ _ h => h | exact d_int (by omega) | exact d_int (by simp) | exact d_intN (by omega) | exact d_any) .nil)) (rfl) ?_
      rintro q ⟨hql, hq0⟩ ih5
      have hqn : (qsL s p n (rows.take q.2) t).length = q.2 := by rw [qsL_len, List.length_take]; omega
      have hw16 := c2.2.1
      refine run_seq ?_
      refine run_region ?_
      refine run_op (loc_lss rfl rfl) rfl ?_
      refine run_nil ?_
      refine run_seq ?_
      refine run_cond rfl (fun h6 => ?_) (fun h6 => ?_)
      ·
        refine run_skip ?_
        refine run_seq ?_
        refine run_block ?_
        refine run_seq ?_
        refine run_region ?_
        first | refine run_op (loc_index rfl rfl (by first | omega | assumption)) rfl ?_ | refine run_op (loc_indexI rfl rfl (by first | omega | assumption)) rfl ?_
        refine run_op (loc_load1 rfl) rfl ?_
        refine run_op (loc_assign rfl) rfl ?_
        refine run_nil ?_
        refine run_seq ?_
        refine run_region ?_
        refine run_op (loc_loadN rfl rfl) rfl ?_
        refine run_op (loc_loadN rfl rfl) rfl ?_
        refine run_op (loc_move rfl) rfl ?_
        refine run_op (loc_move rfl) rfl ?_
        refine run_op (loc_max rfl rfl) rfl ?_
        refine run_op (loc_loadOwnN rfl (.here) (by rfl)) rfl ?_
        refine run_op (loc_call (squeries_spec _ _ _ _ _) rfl) rfl ?_
        refine run_op (loc_move rfl) rfl ?_
        refine run_op (loc_extract rfl rfl) rfl ?_
        refine run_op (loc_extract rfl rfl) rfl ?_
        refine run_op (loc_extract rfl rfl) rfl ?_
        refine run_new (loc_allocOwn (by simp)) rfl (fun b7 _ => ?_)
        refine run_op (loc_assign rfl) rfl ?_
        refine run_storeN (ho := (by show OneAll [_, _]; infer_instance)) rfl rfl (.here) (by rfl) ?_
        refine run_op (loc_assign rfl) rfl ?_
        refine run_nil ?_
        refine run_seq ?_
        refine run_seq ?_
        refine run_region ?_
        refine run_op (loc_move rfl) rfl ?_
        refine run_op (loc_neq rfl rfl) rfl ?_
        refine run_nil ?_
        refine run_cond rfl (fun h8 => ?_) (fun h8 => ?_)
        ·
          have c5 := h8
          refine run_seq ?_
          refine run_region ?_
          refine run_op (loc_build (.nil)) rfl ?_
          refine run_op (loc_move rfl) rfl ?_
          refine run_op (loc_assign rfl) rfl ?_
          refine run_storeN (ho := (by show OneAll [_, _]; infer_instance)) rfl rfl (.there (.there (.there (.here)))) (by rfl) ?_
          refine run_op (loc_assign rfl) rfl ?_
          refine run_nil ?_
          have hE : wqE s p n rows t = qryE s p n (max (rows[q.2]?.getD default) 0) (qsT s p n (rows.take q.2) t) := by unfold wqE; rw [if_neg (Classical.not_not.2 c1), if_neg (Classical.not_not.2 c2), qs_stop (by omega) hq0 c5]
          refine run_retGP Try.func38 rfl (.tmp rfl (.cellN rfl (by first | exact .here | exact .there .here | exact .there (.there .here) | exact .there (.there (.there .here)) | exact .there (.there (.there (.there .here))) | exact .there (.there (.there (.there (.there .here))))) (by rfl) (.tmp rfl (.nil)))) ?_ (fun _ _ h => inv_tail (inv_tail (inv_tail (inv_tail (h)))))
          exact d_tup3 (d_toQs (by unfold wqL; rw [hE, if_neg c5]) d_nil) (d_toTape (by unfold wqT; rw [hE, if_neg c5]) (d_aggU (.cons d_nil (.cons (d_int rfl) .nil)))) (d_int hE.symm)
        ·
          have c5 := Classical.not_not.1 h8
          refine run_skip ?_
          refine dr_start _ (.one (σ := Value) 3 (fun _ => True)) [⟨[(13, none)], [], none⟩,
              ⟨[(16, none)], [], none⟩,
              ⟨[(53, some (1, false))], [1], none⟩,
              ⟨[(52, some (0, false)), (54, some (2, false))], [0, 1, 2], some (2, 0, true)⟩,
              ⟨[(17, none)], [], some (0, 0, false)⟩,
              ⟨[(55, some (3, false))], [0, 1, 2, 3], none⟩,
              ⟨[(9, none), (56, some (4, false))], [0, 1, 2, 3, 4, 5], some (1, 0, true)⟩] [_, _, _, _] _ rfl rfl ?_
          refine dq_pure rfl (fun s => .g rfl (.nil)) (fun s hs _ => loc_move rfl) (by exact .cons (.inr fun _ _ _ => rfl) (.nil)) ?_
          refine dq_pure rfl (fun s => .g rfl (.nil)) (fun s hs _ => loc_move rfl) (by exact .cons (.inr fun _ _ _ => rfl) (.nil)) ?_
          refine dq_pure rfl (fun s => .op rfl (.nil)) (fun s hs _ => loc_buildSlice rfl rfl (.one rfl (.nil)) rfl rfl) (by exact .cons (.inr fun _ _ _ => rfl) (.nil)) ?_
          refine dq_choose id (fun _ t => t) rfl (fun _ _ => ⟨rfl, id, trivial⟩) (fun s => .op rfl (.op rfl (.nil))) rfl rfl (fun s hs => loc_append1 _ rfl rfl rfl rfl (by first | omega | (unfold lenMax; omega) | assumption | (simp; omega) | (simp [lenMax]; omega)) (by first | omega | (unfold lenMax; omega) | assumption | (simp; omega) | (simp [lenMax]; omega))) (by exact .cons (.inl rfl) (.nil)) ?_
          refine dq_read rfl (fun s => .g rfl (.nil)) rfl rfl (fun s hs _ hm => loc_loadOwnN rfl hm (by rfl)) (by exact .cons (.inr fun _ _ _ => rfl) (.nil)) ?_
          refine dq_pure rfl (fun s => .op rfl (.nil)) (fun s hs _ => loc_assign rfl) (by exact .cons (.inl rfl) (.nil)) ?_
          refine dq_write0 rfl (fun s => .g rfl (.op rfl (.nil))) rfl rfl (fun s hs => loc_storeN (ho := (by show OneAll [_, _]; infer_instance)) rfl rfl rfl) (by exact .cons (.inl rfl) (.nil)) ?_
          refine dq_end (rs := [_, _, _, _]) (.bool true) rfl (fun _ => rfl) (.cons rfl (.nil)) rfl (fun v9 _ => ?_)
          dsimp only [outG, outM, List.map, List.set, id]
          refine run_inBlock ?_
          refine run_region ?_
          first | refine run_op (loc_add rfl rfl (by first | omega | assumption)) rfl ?_ | refine run_op (loc_addW rfl rfl) rfl ?_
          refine run_op (loc_move rfl) rfl ?_
          refine run_nil ?_
          refine run_drop (.cons _ (.refl _)) ?_
          exact run_againF ih5 ((v9, q.2 + 1)) (⟨by simp only; omega, (qs_step (by omega) hq0 c5).1⟩) (by simp only; omega) (.cons rfl (by first | exact fun _ _ h => h | exact d_int (by omega) | exact d_int (by simp) | exact d_intN (by omega) | exact d_any) (.cons rfl (by first | exact fun _ _ h => h | exact d_int (by omega) | exact d_int (by simp) | exact d_intN (by omega) | exact d_any) .nil)) (.cons rfl (fun _ _ x => x) (.cons rfl (fun _ _ x => x) (.cons rfl (fun _ _ x => x) (.cons rfl (fun _ _ x => x) (.cons rfl (fun _ _ x => x) (.cons rfl (fun _ _ x => x) (.cons rfl (fun _ _ x => x) (.nil)))))))) (by simp only [appR]; rw [(qs_step (by omega) hq0 c5).2.1, (qs_step (by omega) hq0 c5).2.2]; rfl)
      ·
        refine run_exit rfl ?_
        refine run_seq ?_
        have hall : rows.take q.2 = rows := List.take_of_length_le (by omega)
        have hE : wqE s p n rows t = 0 := by unfold wqE; rw [if_neg (Classical.not_not.2 c1), if_neg (Classical.not_not.2 c2), ← hall]; exact hq0
        refine run_freezeRow (s := 13) rfl (.there (.here)) ?_
        refine dr_start _ (.none) [⟨[(13, none)], [], none⟩,
            ⟨[(9, none)], [], some (0, 0, false)⟩,
            ⟨[(58, some (0, false))], [0], none⟩,
            ⟨[(11, none), (59, some (1, false))], [0, 1, 2], some (1, 0, true)⟩,
            ⟨[], [0, 1, 2, 3], none⟩] [_, _] _ rfl rfl ?_
        refine dq_pure rfl (fun s => .g rfl (.nil)) (fun s hs _ => loc_move rfl) (by exact .nil) ?_
        refine dq_read rfl (fun s => .g rfl (.nil)) rfl rfl (fun s hs _ hm => loc_loadOwnN rfl hm (by rfl)) (by exact .nil) ?_
        refine dq_pure rfl (fun s => .op rfl (.nil)) (fun s hs _ => loc_assign rfl) (by exact .nil) ?_
        refine dq_write0 rfl (fun s => .g rfl (.op rfl (.nil))) rfl rfl (fun s hs => loc_storeN (ho := (by show OneAll [_, _]; infer_instance)) rfl rfl rfl) (by exact .nil) ?_
        refine dq_pure rfl (fun s => .nil) (fun s hs _ => loc_assign rfl) (by exact .nil) ?_
        refine dq_end (rs := [_, _]) () rfl (fun _ => rfl) (.nil) rfl (fun _ _ => ?_)
        dsimp only [outG, outM, List.map, List.set, id]
        refine run_retGP Try.func38 rfl (.tmp rfl (.cellN rfl (by first | exact .here | exact .there .here | exact .there (.there .here) | exact .there (.there (.there .here)) | exact .there (.there (.there (.there .here))) | exact .there (.there (.there (.there (.there .here))))) (by rfl) (.tmp rfl (.nil)))) ?_ (fun _ _ h => inv_tail (inv_tail (h)))
        exact d_tup3 (d_toQs (t' := qsL s p n (rows.take q.2) t) (by unfold wqL; rw [if_pos hE, hall]) (fun _ _ h => h)) (d_toTape (t' := qsT s p n (rows.take q.2) t) (by unfold wqT; rw [if_pos hE, hall]) (fun _ _ h => h)) (d_int hE.symm)

end Go.Q

namespace Go.Q
open Go.Proofs

open Classical
theorem ints24_spec (xs ys : List Int) : SpecP Try.prog 79 [dInts xs, dInts ys] (dB (xs = ys)) := by
  refine specP_of_body Try.func79 rfl rfl (fun I M => ?_)
  refine run_seq ?_
  refine run_region ?_
  refine run_op (loc_assign rfl) rfl ?_
  refine run_nil ?_
  refine run_seq ?_
  refine run_seq ?_
  refine run_region ?_
  refine run_op (loc_move rfl) rfl ?_
  first | refine runL_fact (s := 6) rfl (fun _ _ h => dSl_len h) (fun hlen1 => ?_) | skip
  refine run_op (loc_len rfl) rfl ?_
  refine run_op (loc_move rfl) rfl ?_
  first | refine runL_fact (s := 8) rfl (fun _ _ h => dSl_len h) (fun hlen2 => ?_) | skip
  refine run_op (loc_len rfl) rfl ?_
  refine run_op (loc_neq rfl rfl) rfl ?_
  refine run_nil ?_
  refine run_cond rfl (fun h3 => ?_) (fun h3 => ?_)
  ·
    refine run_seq ?_
    refine run_region ?_
    refine run_op (loc_assign rfl) rfl ?_
    refine run_nil ?_
    refine run_retP Try.func79 rfl rfl ?_
    exact d_B ⟨False.elim, fun h => by subst h; omega⟩
  ·
    refine run_skip ?_
    refine run_seq ?_
    refine run_seq ?_
    refine run_region ?_
    refine run_op (loc_assign rfl) rfl ?_
    refine run_nil ?_
    refine run_block ?_
    refine run_loopC (σ := Nat) (ks := [0, 1]) (.cons rfl (.cons rfl (.nil))) (fun k => [(5, dInt .i64 (k : Nat))]) (fun k => k ≤ xs.length ∧ (∀ j, j < k → xs[j]?.getD default = ys[j]?.getD default)) (fun k => xs.length - k) (0) (⟨by omega, fun j hj => by omega⟩) (.cons rfl (by first | exact fun _ _ h => h | exact d_int (by omega) | exact d_int (by simp) | exact d_intN (by omega) | exact d_any) .nil) ?_
    rintro k ⟨hk, hbk⟩ ih4
    refine run_seq ?_
    refine run_seq ?_
    refine run_region ?_
    refine run_op (loc_move rfl) rfl ?_
    refine run_op (loc_move rfl) rfl ?_
    first | refine runL_fact (s := 12) rfl (fun _ _ h => dSl_len h) (fun hlen5 => ?_) | skip
    refine run_op (loc_len rfl) rfl ?_
    refine run_op (loc_lss rfl rfl) rfl ?_
    refine run_nil ?_
    refine run_cond rfl (fun h6 => ?_) (fun h6 => ?_)
    ·
      refine run_skip ?_
      refine run_seq ?_
      refine run_block ?_
      refine run_seq ?_
      refine dr_start _ (.none) [⟨[(0, none)], [], none⟩,
          ⟨[(5, none)], [], none⟩,
          ⟨[(17, some (0, false)), (18, some (1, false))], [0, 1], none⟩,
          ⟨[(19, some (2, false))], [0, 1, 2], none⟩,
          ⟨[(1, none)], [], none⟩,
          ⟨[(5, none)], [], none⟩,
          ⟨[(21, some (4, false)), (22, some (5, false))], [4, 5], none⟩,
          ⟨[(23, some (6, false))], [4, 5, 6], none⟩,
          ⟨[(20, some (3, false)), (24, some (7, false))], [0, 1, 2, 3, 4, 5, 6, 7], none⟩] [] _ rfl rfl ?_
      refine dq_pure rfl (fun s => .g rfl (.nil)) (fun s hs _ => loc_move rfl) (by exact .nil) ?_
      refine dq_pure rfl (fun s => .g rfl (.nil)) (fun s hs _ => loc_move rfl) (by exact .nil) ?_
      first | refine dq_pure rfl (fun s => .op rfl (.op rfl (.nil))) (fun s hs _ => loc_index rfl rfl (by first | omega | assumption)) (by exact .nil) ?_ | refine dq_pure rfl (fun s => .op rfl (.op rfl (.nil))) (fun s hs _ => loc_indexI rfl rfl (by first | omega | assumption)) (by exact .nil) ?_
      refine dq_pure rfl (fun s => .op rfl (.nil)) (fun s hs _ => loc_load1 rfl) (by exact .nil) ?_
      refine dq_pure rfl (fun s => .g rfl (.nil)) (fun s hs _ => loc_move rfl) (by exact .nil) ?_
      refine dq_pure rfl (fun s => .g rfl (.nil)) (fun s hs _ => loc_move rfl) (by exact .nil) ?_
      first | refine dq_pure rfl (fun s => .op rfl (.op rfl (.nil))) (fun s hs _ => loc_index rfl rfl (by first | omega | assumption)) (by exact .nil) ?_ | refine dq_pure rfl (fun s => .op rfl (.op rfl (.nil))) (fun s hs _ => loc_indexI rfl rfl (by first | omega | assumption)) (by exact .nil) ?_
      refine dq_pure rfl (fun s => .op rfl (.nil)) (fun s hs _ => loc_load1 rfl) (by exact .nil) ?_
      refine dq_pure rfl (fun s => .op rfl (.op rfl (.nil))) (fun s hs _ => loc_neq rfl rfl) (by exact .nil) ?_
      refine dq_end (rs := []) () rfl (fun _ => rfl) (.nil) rfl (fun _ _ => ?_)
      dsimp only [outG, outM, List.map, List.set, id]
      refine run_cond rfl (fun h7 => ?_) (fun h7 => ?_)
      ·
        refine run_seq ?_
        refine run_region ?_
        refine run_op (loc_assign rfl) rfl ?_
        refine run_nil ?_
        refine run_retP Try.func79 rfl rfl ?_
        exact d_B ⟨False.elim, fun h => by subst h; contradiction⟩
      ·
        refine run_skip ?_
        refine run_inBlock ?_
        refine run_region ?_
        refine run_op (loc_move rfl) rfl ?_
        first | refine run_op (loc_add rfl rfl (by first | omega | assumption)) rfl ?_ | refine run_op (loc_addW rfl rfl) rfl ?_
        refine run_op (loc_assign rfl) rfl ?_
        refine run_nil ?_
        exact run_againC ih4 (k + 1) (⟨by omega, fun j hj => by by_cases e : j = k; (· subst e; exact Classical.not_not.1 (by assumption)); (· exact hbk j (by omega))⟩) (by omega) (.cons rfl (by first | exact fun _ _ h => h | exact d_int (by omega) | exact d_int (by simp) | exact d_intN (by omega) | exact d_any) .nil) (.cons rfl (fun _ _ x => x) (.cons rfl (fun _ _ x => x) (.nil)))
    ·
      refine run_exit rfl ?_
      refine run_seq ?_
      refine run_region ?_
      refine run_op (loc_assign rfl) rfl ?_
      refine run_nil ?_
      refine run_retP Try.func79 rfl rfl ?_
      exact d_B ⟨fun _ => list_extD (by omega) (fun j hj => hbk j (by omega)), fun _ => trivial⟩

theorem rows24_spec (xs ys : List (List Int)) : SpecP Try.prog 60 [dRows xs, dRows ys] (dB (xs = ys)) := by
  refine specP_of_body Try.func60 rfl rfl (fun I M => ?_)
  refine run_seq ?_
  refine run_region ?_
  refine run_op (loc_assign rfl) rfl ?_
  refine run_nil ?_
  refine run_seq ?_
  refine run_seq ?_
  refine run_region ?_
  refine run_op (loc_move rfl) rfl ?_
  first | refine runL_fact (s := 6) rfl (fun _ _ h => dSl_len h) (fun hlen1 => ?_) | skip
  refine run_op (loc_len rfl) rfl ?_
  refine run_op (loc_move rfl) rfl ?_
  first | refine runL_fact (s := 8) rfl (fun _ _ h => dSl_len h) (fun hlen2 => ?_) | skip
  refine run_op (loc_len rfl) rfl ?_
  refine run_op (loc_neq rfl rfl) rfl ?_
  refine run_nil ?_
  refine run_cond rfl (fun h3 => ?_) (fun h3 => ?_)
  ·
    refine run_seq ?_
    refine run_region ?_
    refine run_op (loc_assign rfl) rfl ?_
    refine run_nil ?_
    refine run_retP Try.func60 rfl rfl ?_
    exact d_B ⟨False.elim, fun h => by subst h; omega⟩
  ·
    refine run_skip ?_
    refine run_seq ?_
    refine run_seq ?_
    refine run_region ?_
    refine run_op (loc_assign rfl) rfl ?_
    refine run_nil ?_
    refine run_block ?_
    refine run_loopC (σ := Nat) (ks := [0, 1]) (.cons rfl (.cons rfl (.nil))) (fun k => [(5, dInt .i64 (k : Nat))]) (fun k => k ≤ xs.length ∧ (∀ j, j < k → xs[j]?.getD default = ys[j]?.getD default)) (fun k => xs.length - k) (0) (⟨by omega, fun j hj => by omega⟩) (.cons rfl (by first | exact fun _ _ h => h | exact d_int (by omega) | exact d_int (by simp) | exact d_intN (by omega) | exact d_any) .nil) ?_
    rintro k ⟨hk, hbk⟩ ih4
    refine run_seq ?_
    refine run_seq ?_
    refine run_region ?_
    refine run_op (loc_move rfl) rfl ?_
    refine run_op (loc_move rfl) rfl ?_
    first | refine runL_fact (s := 12) rfl (fun _ _ h => dSl_len h) (fun hlen5 => ?_) | skip
    refine run_op (loc_len rfl) rfl ?_
    refine run_op (loc_lss rfl rfl) rfl ?_
    refine run_nil ?_
    refine run_cond rfl (fun h6 => ?_) (fun h6 => ?_)
    ·
      refine run_skip ?_
      refine run_seq ?_
      refine run_block ?_
      refine run_seq ?_
      refine dr_start _ (.none) [⟨[(0, none)], [], none⟩,
          ⟨[(5, none)], [], none⟩,
          ⟨[(17, some (0, false)), (18, some (1, false))], [0, 1], none⟩,
          ⟨[(19, some (2, false))], [0, 1, 2], none⟩,
          ⟨[(1, none)], [], none⟩,
          ⟨[(5, none)], [], none⟩,
          ⟨[(21, some (4, false)), (22, some (5, false))], [4, 5], none⟩,
          ⟨[(23, some (6, false))], [4, 5, 6], none⟩,
          ⟨[(20, some (3, false)), (24, some (7, false))], [0, 1, 2, 3, 4, 5, 6, 7], none⟩,
          ⟨[(25, some (8, false))], [0, 1, 2, 3, 4, 5, 6, 7, 8], none⟩] [] _ rfl rfl ?_
      refine dq_pure rfl (fun s => .g rfl (.nil)) (fun s hs _ => loc_move rfl) (by exact .nil) ?_
      refine dq_pure rfl (fun s => .g rfl (.nil)) (fun s hs _ => loc_move rfl) (by exact .nil) ?_
      first | refine dq_pure rfl (fun s => .op rfl (.op rfl (.nil))) (fun s hs _ => loc_index rfl rfl (by first | omega | assumption)) (by exact .nil) ?_ | refine dq_pure rfl (fun s => .op rfl (.op rfl (.nil))) (fun s hs _ => loc_indexI rfl rfl (by first | omega | assumption)) (by exact .nil) ?_
      refine dq_pure rfl (fun s => .op rfl (.nil)) (fun s hs _ => loc_load1 rfl) (by exact .nil) ?_
      refine dq_pure rfl (fun s => .g rfl (.nil)) (fun s hs _ => loc_move rfl) (by exact .nil) ?_
      refine dq_pure rfl (fun s => .g rfl (.nil)) (fun s hs _ => loc_move rfl) (by exact .nil) ?_
      first | refine dq_pure rfl (fun s => .op rfl (.op rfl (.nil))) (fun s hs _ => loc_index rfl rfl (by first | omega | assumption)) (by exact .nil) ?_ | refine dq_pure rfl (fun s => .op rfl (.op rfl (.nil))) (fun s hs _ => loc_indexI rfl rfl (by first | omega | assumption)) (by exact .nil) ?_
      refine dq_pure rfl (fun s => .op rfl (.nil)) (fun s hs _ => loc_load1 rfl) (by exact .nil) ?_
      refine dq_pure rfl (fun s => .op rfl (.op rfl (.nil))) (fun s hs _ => loc_call (ints24_spec _ _) rfl) (by exact .nil) ?_
      refine dq_pure rfl (fun s => .op rfl (.nil)) (fun s hs _ => loc_not rfl) (by exact .nil) ?_
      refine dq_end (rs := []) () rfl (fun _ => rfl) (.nil) rfl (fun _ _ => ?_)
      dsimp only [outG, outM, List.map, List.set, id]
      refine run_cond rfl (fun h7 => ?_) (fun h7 => ?_)
      ·
        refine run_seq ?_
        refine run_region ?_
        refine run_op (loc_assign rfl) rfl ?_
        refine run_nil ?_
        refine run_retP Try.func60 rfl rfl ?_
        exact d_B ⟨False.elim, fun h => by subst h; contradiction⟩
      ·
        refine run_skip ?_
        refine run_inBlock ?_
        refine run_region ?_
        refine run_op (loc_move rfl) rfl ?_
        first | refine run_op (loc_add rfl rfl (by first | omega | assumption)) rfl ?_ | refine run_op (loc_addW rfl rfl) rfl ?_
        refine run_op (loc_assign rfl) rfl ?_
        refine run_nil ?_
        exact run_againC ih4 (k + 1) (⟨by omega, fun j hj => by by_cases e : j = k; (· subst e; exact Classical.not_not.1 (by assumption)); (· exact hbk j (by omega))⟩) (by omega) (.cons rfl (by first | exact fun _ _ h => h | exact d_int (by omega) | exact d_int (by simp) | exact d_intN (by omega) | exact d_any) .nil) (.cons rfl (fun _ _ x => x) (.cons rfl (fun _ _ x => x) (.nil)))
    ·
      refine run_exit rfl ?_
      refine run_seq ?_
      refine run_region ?_
      refine run_op (loc_assign rfl) rfl ?_
      refine run_nil ?_
      refine run_retP Try.func60 rfl rfl ?_
      exact d_B ⟨fun _ => list_extD (by omega) (fun j hj => hbk j (by omega)), fun _ => trivial⟩

theorem sameRs_spec (xs ys : List (List Int)) : SpecP Try.prog 40 [dRows xs, dRows ys] (dB (xs = ys)) := by
  refine specP_of_body Try.func40 rfl rfl (fun I M => ?_)
  refine run_seq ?_
  refine run_region ?_
  refine run_op (loc_assign rfl) rfl ?_
  refine run_nil ?_
  refine run_seq ?_
  refine run_region ?_
  refine run_op (loc_move rfl) rfl ?_
  refine run_op (loc_move rfl) rfl ?_
  refine run_op (loc_call (rows24_spec _ _) rfl) rfl ?_
  refine run_op (loc_assign rfl) rfl ?_
  refine run_nil ?_
  refine run_retP Try.func40 rfl rfl ?_
  exact fun _ _ h => h

theorem sameQs_spec (xs ys : List (List (List Int))) : SpecP Try.prog 39 [dQs xs, dQs ys] (dB (xs = ys)) := by
  refine specP_of_body Try.func39 rfl rfl (fun I M => ?_)
  refine run_seq ?_
  refine run_region ?_
  refine run_op (loc_assign rfl) rfl ?_
  refine run_nil ?_
  refine run_seq ?_
  refine run_seq ?_
  refine run_region ?_
  refine run_op (loc_move rfl) rfl ?_
  first | refine runL_fact (s := 6) rfl (fun _ _ h => dSl_len h) (fun hlen1 => ?_) | skip
  refine run_op (loc_len rfl) rfl ?_
  refine run_op (loc_move rfl) rfl ?_
  first | refine runL_fact (s := 8) rfl (fun _ _ h => dSl_len h) (fun hlen2 => ?_) | skip
  refine run_op (loc_len rfl) rfl ?_
  refine run_op (loc_neq rfl rfl) rfl ?_
  refine run_nil ?_
  refine run_cond rfl (fun h3 => ?_) (fun h3 => ?_)
  ·
    refine run_seq ?_
    refine run_region ?_
    refine run_op (loc_assign rfl) rfl ?_
    refine run_nil ?_
    refine run_retP Try.func39 rfl rfl ?_
    exact d_B ⟨False.elim, fun h => by subst h; omega⟩
  ·
    refine run_skip ?_
    refine run_seq ?_
    refine run_seq ?_
    refine run_region ?_
    refine run_op (loc_assign rfl) rfl ?_
    refine run_nil ?_
    refine run_block ?_
    refine run_loopC (σ := Nat) (ks := [0, 1]) (.cons rfl (.cons rfl (.nil))) (fun k => [(5, dInt .i64 (k : Nat))]) (fun k => k ≤ xs.length ∧ (∀ j, j < k → xs[j]?.getD default = ys[j]?.getD default)) (fun k => xs.length - k) (0) (⟨by omega, fun j hj => by omega⟩) (.cons rfl (by first | exact fun _ _ h => h | exact d_int (by omega) | exact d_int (by simp) | exact d_intN (by omega) | exact d_any) .nil) ?_
    rintro k ⟨hk, hbk⟩ ih4
    refine run_seq ?_
    refine run_seq ?_
    refine run_region ?_
    refine run_op (loc_move rfl) rfl ?_
    refine run_op (loc_move rfl) rfl ?_
    first | refine runL_fact (s := 12) rfl (fun _ _ h => dSl_len h) (fun hlen5 => ?_) | skip
    refine run_op (loc_len rfl) rfl ?_
    refine run_op (loc_lss rfl rfl) rfl ?_
    refine run_nil ?_
    refine run_cond rfl (fun h6 => ?_) (fun h6 => ?_)
    ·
      refine run_skip ?_
      refine run_seq ?_
      refine run_block ?_
      refine run_seq ?_
      refine dr_start _ (.none) [⟨[(0, none)], [], none⟩,
          ⟨[(5, none)], [], none⟩,
          ⟨[(17, some (0, false)), (18, some (1, false))], [0, 1], none⟩,
          ⟨[(19, some (2, false))], [0, 1, 2], none⟩,
          ⟨[(1, none)], [], none⟩,
          ⟨[(5, none)], [], none⟩,
          ⟨[(21, some (4, false)), (22, some (5, false))], [4, 5], none⟩,
          ⟨[(23, some (6, false))], [4, 5, 6], none⟩,
          ⟨[(20, some (3, false)), (24, some (7, false))], [0, 1, 2, 3, 4, 5, 6, 7], none⟩,
          ⟨[(25, some (8, false))], [0, 1, 2, 3, 4, 5, 6, 7, 8], none⟩] [] _ rfl rfl ?_
      refine dq_pure rfl (fun s => .g rfl (.nil)) (fun s hs _ => loc_move rfl) (by exact .nil) ?_
      refine dq_pure rfl (fun s => .g rfl (.nil)) (fun s hs _ => loc_move rfl) (by exact .nil) ?_
      first | refine dq_pure rfl (fun s => .op rfl (.op rfl (.nil))) (fun s hs _ => loc_index rfl rfl (by first | omega | assumption)) (by exact .nil) ?_ | refine dq_pure rfl (fun s => .op rfl (.op rfl (.nil))) (fun s hs _ => loc_indexI rfl rfl (by first | omega | assumption)) (by exact .nil) ?_
      refine dq_pure rfl (fun s => .op rfl (.nil)) (fun s hs _ => loc_load1 rfl) (by exact .nil) ?_
      refine dq_pure rfl (fun s => .g rfl (.nil)) (fun s hs _ => loc_move rfl) (by exact .nil) ?_
      refine dq_pure rfl (fun s => .g rfl (.nil)) (fun s hs _ => loc_move rfl) (by exact .nil) ?_
      first | refine dq_pure rfl (fun s => .op rfl (.op rfl (.nil))) (fun s hs _ => loc_index rfl rfl (by first | omega | assumption)) (by exact .nil) ?_ | refine dq_pure rfl (fun s => .op rfl (.op rfl (.nil))) (fun s hs _ => loc_indexI rfl rfl (by first | omega | assumption)) (by exact .nil) ?_
      refine dq_pure rfl (fun s => .op rfl (.nil)) (fun s hs _ => loc_load1 rfl) (by exact .nil) ?_
      refine dq_pure rfl (fun s => .op rfl (.op rfl (.nil))) (fun s hs _ => loc_call (sameRs_spec _ _) rfl) (by exact .nil) ?_
      refine dq_pure rfl (fun s => .op rfl (.nil)) (fun s hs _ => loc_not rfl) (by exact .nil) ?_
      refine dq_end (rs := []) () rfl (fun _ => rfl) (.nil) rfl (fun _ _ => ?_)
      dsimp only [outG, outM, List.map, List.set, id]
      refine run_cond rfl (fun h7 => ?_) (fun h7 => ?_)
      ·
        refine run_seq ?_
        refine run_region ?_
        refine run_op (loc_assign rfl) rfl ?_
        refine run_nil ?_
        refine run_retP Try.func39 rfl rfl ?_
        exact d_B ⟨False.elim, fun h => by subst h; contradiction⟩
      ·
        refine run_skip ?_
        refine run_inBlock ?_
        refine run_region ?_
        refine run_op (loc_move rfl) rfl ?_
        first | refine run_op (loc_add rfl rfl (by first | omega | assumption)) rfl ?_ | refine run_op (loc_addW rfl rfl) rfl ?_
        refine run_op (loc_assign rfl) rfl ?_
        refine run_nil ?_
        exact run_againC ih4 (k + 1) (⟨by omega, fun j hj => by by_cases e : j = k; (· subst e; exact Classical.not_not.1 (by assumption)); (· exact hbk j (by omega))⟩) (by omega) (.cons rfl (by first | exact fun _ _ h => h | exact d_int (by omega) | exact d_int (by simp) | exact d_intN (by omega) | exact d_any) .nil) (.cons rfl (fun _ _ x => x) (.cons rfl (fun _ _ x => x) (.nil)))
    ·
      refine run_exit rfl ?_
      refine run_seq ?_
      refine run_region ?_
      refine run_op (loc_assign rfl) rfl ?_
      refine run_nil ?_
      refine run_retP Try.func39 rfl rfl ?_
      exact d_B ⟨fun _ => list_extD (by omega) (fun j hj => hbk j (by omega)), fun _ => trivial⟩

theorem tape_ext24 {a b : Tape} (h1 : a.numbers = b.numbers) (h2 : a.at' = b.at') : a = b := by cases a; cases b; simp_all
theorem tsame24_spec (a b : Tape) : SpecP Try.prog 41 [dTape a, dTape b] (dB (a = b)) := by
  refine specP_of_body Try.func41 rfl rfl (fun I M => ?_)
  refine run_seq ?_
  refine run_region ?_
  refine run_op (loc_boxN rfl) rfl ?_
  refine run_op (loc_boxN rfl) rfl ?_
  refine run_op (loc_assign rfl) rfl ?_
  refine run_nil ?_
  refine run_seq ?_
  refine run_seq ?_
  refine run_region ?_
  refine run_op (loc_fieldAddr rfl) rfl ?_
  refine run_op (loc_load1 rfl) rfl ?_
  refine run_op (loc_fieldAddr rfl) rfl ?_
  refine run_op (loc_load1 rfl) rfl ?_
  refine run_op (loc_neq rfl rfl) rfl ?_
  refine run_op (loc_move rfl) rfl ?_
  refine run_gfirst rfl rfl (by first | exact guard_true _ | exact guard_false _ | exact guard_if (guard_true _) | exact guard_if (guard_false _)) (fun hg => loc_fieldAddr rfl) rfl ?_
  refine run_gop rfl rfl (by first | exact guard_true _ | exact guard_false _ | exact guard_if (guard_true _) | exact guard_if (guard_false _)) (fun hg => loc_load1 rfl) rfl ?_
  refine run_gop rfl rfl (by first | exact guard_true _ | exact guard_false _ | exact guard_if (guard_true _) | exact guard_if (guard_false _)) (fun hg => loc_len rfl) rfl ?_
  refine run_gop rfl rfl (by first | exact guard_true _ | exact guard_false _ | exact guard_if (guard_true _) | exact guard_if (guard_false _)) (fun hg => loc_fieldAddr rfl) rfl ?_
  refine run_gop rfl rfl (by first | exact guard_true _ | exact guard_false _ | exact guard_if (guard_true _) | exact guard_if (guard_false _)) (fun hg => loc_load1 rfl) rfl ?_
  refine run_gop rfl rfl (by first | exact guard_true _ | exact guard_false _ | exact guard_if (guard_true _) | exact guard_if (guard_false _)) (fun hg => loc_len rfl) rfl ?_
  refine run_gop rfl rfl (by first | exact guard_true _ | exact guard_false _ | exact guard_if (guard_true _) | exact guard_if (guard_false _)) (fun hg => loc_neq rfl rfl) rfl ?_
  refine run_gleave ?_
  refine run_op (loc_or rfl rfl) rfl ?_
  refine run_nil ?_
  refine run_cond rfl (fun h1 => ?_) (fun h1 => ?_)
  ·
    refine run_seq ?_
    refine run_region ?_
    refine run_op (loc_assign rfl) rfl ?_
    refine run_nil ?_
    refine run_retP Try.func41 rfl rfl ?_
    exact d_B ⟨False.elim, fun h => by subst h; omega⟩
  ·
    refine run_skip ?_
    refine run_seq ?_
    refine run_seq ?_
    refine run_region ?_
    refine run_op (loc_fieldAddr rfl) rfl ?_
    refine run_op (loc_load1 rfl) rfl ?_
    first | refine runL_fact (s := 21) rfl (fun _ _ h => dSl_len h) (fun hlen2 => ?_) | skip
    refine run_op (loc_len rfl) rfl ?_
    refine run_op (loc_move rfl) rfl ?_
    refine run_nil ?_
    refine run_block ?_
    refine run_loopC (σ := Nat) (ks := [2, 3, 22]) (.cons rfl (.cons rfl (.cons rfl (.nil)))) (fun k => [(23, dInt .i64 (k : Nat))]) (fun k => k ≤ a.numbers.length ∧ (∀ j, j < k → a.numbers[j]?.getD default = b.numbers[j]?.getD default)) (fun k => a.numbers.length - k) (0) (⟨by omega, fun j hj => by omega⟩) (.cons rfl (by first | exact fun _ _ h => h | exact d_int (by omega) | exact d_int (by simp) | exact d_intN (by omega) | exact d_any) .nil) ?_
    rintro k ⟨hk, hbk⟩ ih3
    refine run_seq ?_
    refine run_region ?_
    refine run_op (loc_lss rfl rfl) rfl ?_
    refine run_nil ?_
    refine run_seq ?_
    refine run_cond rfl (fun h4 => ?_) (fun h4 => ?_)
    ·
      refine run_skip ?_
      refine run_seq ?_
      refine run_block ?_
      refine run_seq ?_
      refine run_region ?_
      refine run_op (loc_move rfl) rfl ?_
      refine run_op (loc_assign rfl) rfl ?_
      refine run_nil ?_
      refine run_seq ?_
      refine dr_start _ (.none) [⟨[(2, none)], [], none⟩,
          ⟨[(26, some (0, false))], [0], none⟩,
          ⟨[(5, none)], [], none⟩,
          ⟨[(27, some (1, false)), (28, some (2, false))], [0, 1, 2], none⟩,
          ⟨[(29, some (3, false))], [0, 1, 2, 3], none⟩,
          ⟨[(3, none)], [], none⟩,
          ⟨[(31, some (5, false))], [5], none⟩,
          ⟨[(5, none)], [], none⟩,
          ⟨[(32, some (6, false)), (33, some (7, false))], [5, 6, 7], none⟩,
          ⟨[(34, some (8, false))], [5, 6, 7, 8], none⟩,
          ⟨[(30, some (4, false)), (35, some (9, false))], [0, 1, 2, 3, 4, 5, 6, 7, 8, 9], none⟩] [] _ rfl rfl ?_
      refine dq_pure rfl (fun s => .g rfl (.nil)) (fun s hs _ => loc_fieldAddr rfl) (by exact .nil) ?_
      refine dq_pure rfl (fun s => .op rfl (.nil)) (fun s hs _ => loc_load1 rfl) (by exact .nil) ?_
      refine dq_pure rfl (fun s => .g rfl (.nil)) (fun s hs _ => loc_move rfl) (by exact .nil) ?_
      first | refine dq_pure rfl (fun s => .op rfl (.op rfl (.nil))) (fun s hs _ => loc_index rfl rfl (by first | omega | assumption)) (by exact .nil) ?_ | refine dq_pure rfl (fun s => .op rfl (.op rfl (.nil))) (fun s hs _ => loc_indexI rfl rfl (by first | omega | assumption)) (by exact .nil) ?_
      refine dq_pure rfl (fun s => .op rfl (.nil)) (fun s hs _ => loc_load1 rfl) (by exact .nil) ?_
      refine dq_pure rfl (fun s => .g rfl (.nil)) (fun s hs _ => loc_fieldAddr rfl) (by exact .nil) ?_
      refine dq_pure rfl (fun s => .op rfl (.nil)) (fun s hs _ => loc_load1 rfl) (by exact .nil) ?_
      refine dq_pure rfl (fun s => .g rfl (.nil)) (fun s hs _ => loc_move rfl) (by exact .nil) ?_
      first | refine dq_pure rfl (fun s => .op rfl (.op rfl (.nil))) (fun s hs _ => loc_index rfl rfl (by first | omega | assumption)) (by exact .nil) ?_ | refine dq_pure rfl (fun s => .op rfl (.op rfl (.nil))) (fun s hs _ => loc_indexI rfl rfl (by first | omega | assumption)) (by exact .nil) ?_
      refine dq_pure rfl (fun s => .op rfl (.nil)) (fun s hs _ => loc_load1 rfl) (by exact .nil) ?_
      refine dq_pure rfl (fun s => .op rfl (.op rfl (.nil))) (fun s hs _ => loc_neq rfl rfl) (by exact .nil) ?_
      refine dq_end (rs := []) () rfl (fun _ => rfl) (.nil) rfl (fun _ _ => ?_)
      dsimp only [outG, outM, List.map, List.set, id]
      refine run_cond rfl (fun h5 => ?_) (fun h5 => ?_)
      ·
        refine run_seq ?_
        refine run_region ?_
        refine run_op (loc_assign rfl) rfl ?_
        refine run_nil ?_
        refine run_retP Try.func41 rfl rfl ?_
        exact d_B ⟨False.elim, fun h => by subst h; contradiction⟩
      ·
        refine run_skip ?_
        refine run_inBlock ?_
        refine run_region ?_
        first | refine run_op (loc_add rfl rfl (by first | omega | assumption)) rfl ?_ | refine run_op (loc_addW rfl rfl) rfl ?_
        refine run_op (loc_move rfl) rfl ?_
        refine run_nil ?_
        exact run_againC ih3 (k + 1) (⟨by omega, fun j hj => by by_cases e : j = k; (· subst e; exact Classical.not_not.1 (by assumption)); (· exact hbk j (by omega))⟩) (by omega) (.cons rfl (by first | exact fun _ _ h => h | exact d_int (by omega) | exact d_int (by simp) | exact d_intN (by omega) | exact d_any) .nil) (.cons rfl (fun _ _ x => x) (.cons rfl (fun _ _ x => x) (.cons rfl (fun _ _ x => x) (.nil))))
    ·
      refine run_exit rfl ?_
      refine run_seq ?_
      refine run_region ?_
      refine run_op (loc_assign rfl) rfl ?_
      refine run_nil ?_
      refine run_retP Try.func41 rfl rfl ?_
      exact d_B ⟨fun _ => tape_ext24 (list_extD (by omega) (fun j hj => hbk j (by omega))) (by omega), fun _ => trivial⟩

theorem wvalidNil_spec (n : Int) : SpecP Try.prog 56 [dVal (.slice none 0 0), dInt .i64 n] (dB (okW n [])) :=
  specP_pre (wvalid_spec [] n) (fun I vs hr => by
    match vs, hr with
    | [a, b], hr => exact ⟨d_nil _ _ hr.1, hr.2.1, trivial⟩)
theorem egW_pad : padE 3 [4, 2] = 0 ∧ padL 3 [4, 2] = [4, 2, -1] := by
  have e : padE 3 [4, 2] = 0 := by unfold padE; rw [if_neg (by simp)]
  exact ⟨e, by unfold padL; rw [if_pos e]; rfl⟩
theorem sane24_spec  : SpecP Try.prog 35 [] (dB True) := by
  have hpl : (padL 3 [4, 2]).length = 3 := by rw [egW_pad.2]; rfl
  refine specP_of_body Try.func35 rfl rfl (fun I M => ?_)
  refine run_seq ?_
  refine run_region ?_
  refine run_op (loc_assign rfl) rfl ?_
  refine run_nil ?_
  refine run_seq ?_
  refine run_region ?_
  refine run_op (loc_buildSlice rfl rfl (.one rfl (.one rfl (.nil))) rfl rfl) rfl ?_
  refine runL_recast (s := 4) rfl (d_sl (ys := [4, 2]) (h := fI) rfl) ?_
  refine run_op (loc_call (wpad_spec [4, 2] 3) rfl) rfl ?_
  refine run_op (loc_move rfl) rfl ?_
  refine run_op (loc_extract rfl rfl) rfl ?_
  refine run_op (loc_extract rfl rfl) rfl ?_
  refine run_op (loc_assign rfl) rfl ?_
  refine run_op (loc_assign rfl) rfl ?_
  refine run_nil ?_
  refine run_seq ?_
  refine run_region ?_
  refine run_op (loc_move rfl) rfl ?_
  refine run_op (loc_eql rfl rfl) rfl ?_
  refine run_op (loc_move rfl) rfl ?_
  refine run_gfirst rfl rfl (by first | exact guard_true _ | exact guard_false _ | exact guard_if (guard_true _) | exact guard_if (guard_false _)) (fun hg => loc_move rfl) rfl ?_
  refine run_gop rfl rfl (by first | exact guard_true _ | exact guard_false _ | exact guard_if (guard_true _) | exact guard_if (guard_false _)) (fun hg => loc_len rfl) rfl ?_
  refine run_gop rfl rfl (by first | exact guard_true _ | exact guard_false _ | exact guard_if (guard_true _) | exact guard_if (guard_false _)) (fun hg => loc_eql rfl rfl) rfl ?_
  refine run_gleave ?_
  refine run_op (loc_and rfl rfl) rfl ?_
  refine run_op (loc_move rfl) rfl ?_
  refine run_gfirst rfl rfl (by first | exact guard_true _ | exact guard_false _ | exact guard_if (guard_true _) | exact guard_if (guard_false _)) (fun hg => loc_move rfl) rfl ?_
  first | refine run_gop rfl rfl (by first | exact guard_true _ | exact guard_false _ | exact guard_if (guard_true _) | exact guard_if (guard_false _)) (fun hg => loc_index rfl rfl (by first | omega | assumption)) rfl ?_ | refine run_gop rfl rfl (by first | exact guard_true _ | exact guard_false _ | exact guard_if (guard_true _) | exact guard_if (guard_false _)) (fun hg => loc_indexI rfl rfl (by first | omega | assumption)) rfl ?_
  refine run_gop rfl rfl (by first | exact guard_true _ | exact guard_false _ | exact guard_if (guard_true _) | exact guard_if (guard_false _)) (fun hg => loc_load1 rfl) rfl ?_
  refine run_gop rfl rfl (by first | exact guard_true _ | exact guard_false _ | exact guard_if (guard_true _) | exact guard_if (guard_false _)) (fun hg => loc_eql rfl rfl) rfl ?_
  refine run_gleave ?_
  refine run_op (loc_and rfl rfl) rfl ?_
  refine run_op (loc_move rfl) rfl ?_
  refine run_gfirst rfl rfl (by first | exact guard_true _ | exact guard_false _ | exact guard_if (guard_true _) | exact guard_if (guard_false _)) (fun hg => loc_move rfl) rfl ?_
  first | refine run_gop rfl rfl (by first | exact guard_true _ | exact guard_false _ | exact guard_if (guard_true _) | exact guard_if (guard_false _)) (fun hg => loc_index rfl rfl (by first | omega | assumption)) rfl ?_ | refine run_gop rfl rfl (by first | exact guard_true _ | exact guard_false _ | exact guard_if (guard_true _) | exact guard_if (guard_false _)) (fun hg => loc_indexI rfl rfl (by first | omega | assumption)) rfl ?_
  refine run_gop rfl rfl (by first | exact guard_true _ | exact guard_false _ | exact guard_if (guard_true _) | exact guard_if (guard_false _)) (fun hg => loc_load1 rfl) rfl ?_
  refine run_gop rfl rfl (by first | exact guard_true _ | exact guard_false _ | exact guard_if (guard_true _) | exact guard_if (guard_false _)) (fun hg => loc_eql rfl rfl) rfl ?_
  refine run_gleave ?_
  refine run_op (loc_and rfl rfl) rfl ?_
  refine run_op (loc_move rfl) rfl ?_
  refine run_gfirst rfl rfl (by first | exact guard_true _ | exact guard_false _ | exact guard_if (guard_true _) | exact guard_if (guard_false _)) (fun hg => loc_move rfl) rfl ?_
  refine run_gop rfl rfl (by first | exact guard_true _ | exact guard_false _ | exact guard_if (guard_true _) | exact guard_if (guard_false _)) (fun hg => loc_call (wvalid_spec _ _) rfl) rfl ?_
  refine run_gleave ?_
  refine run_op (loc_and rfl rfl) rfl ?_
  refine run_op (loc_move rfl) rfl ?_
  refine run_gfirst rfl rfl (by first | exact guard_true _ | exact guard_false _ | exact guard_if (guard_true _) | exact guard_if (guard_false _)) (fun hg => loc_move rfl) rfl ?_
  refine run_gop rfl rfl (by first | exact guard_true _ | exact guard_false _ | exact guard_if (guard_true _) | exact guard_if (guard_false _)) (fun hg => loc_call (wvalid_spec _ _) rfl) rfl ?_
  refine run_gop rfl rfl (by first | exact guard_true _ | exact guard_false _ | exact guard_if (guard_true _) | exact guard_if (guard_false _)) (fun hg => loc_not rfl) rfl ?_
  refine run_gleave ?_
  refine run_op (loc_and rfl rfl) rfl ?_
  refine run_op (loc_move rfl) rfl ?_
  refine run_gfirst rfl rfl (by first | exact guard_true _ | exact guard_false _ | exact guard_if (guard_true _) | exact guard_if (guard_false _)) (fun hg => loc_call (wvalidNil_spec 4) rfl) rfl ?_
  refine run_gop rfl rfl (by first | exact guard_true _ | exact guard_false _ | exact guard_if (guard_true _) | exact guard_if (guard_false _)) (fun hg => loc_not rfl) rfl ?_
  refine run_gleave ?_
  refine run_op (loc_and rfl rfl) rfl ?_
  refine run_op (loc_assign rfl) rfl ?_
  refine run_nil ?_
  refine run_retP Try.func35 rfl rfl ?_
  exact d_B ⟨fun _ => trivial, fun _ => ⟨⟨⟨⟨⟨⟨egW_pad.1, by omega⟩, by rw [egW_pad.2]; rfl⟩, by rw [egW_pad.2]; rfl⟩, ⟨by omega, by omega, by rw [egW_pad.2]; simp⟩⟩, fun h => by have := h.2.2 4 (by rw [egW_pad.2]; simp); omega⟩, fun h => by have := h.2.1; simp at this⟩⟩

end Go.Q
