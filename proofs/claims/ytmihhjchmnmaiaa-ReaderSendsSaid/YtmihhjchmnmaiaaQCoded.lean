/- Contracts of queries that add up. -/
import Derived.Test.YtmihhjchmnmaiaaQPlainS3
set_option linter.unusedVariables false
set_option linter.unusedSimpArgs false
namespace Go.Q
open Go.Proofs

open Classical
theorem pcheck_spec (p rows s : Int) : SpecP Try.prog 132 [dAgg [dInt .i64 p], dInt .i64 rows, dInt .i64 s] (dInt .i64 (parE p rows s)) := by
  refine specP_of_body Try.func132 rfl rfl (fun I M => ?_)
  refine run_seq ?_
  refine run_region ?_
  refine run_op (loc_boxN rfl) rfl ?_
  refine run_op (loc_assign rfl) rfl ?_
  refine run_nil ?_
  refine run_seq ?_
  refine run_seq ?_
  refine run_region ?_
  refine run_op (loc_loadN rfl rfl) rfl ?_
  refine run_op (loc_call (of_spec _) rfl) rfl ?_
  refine run_op (loc_move rfl) rfl ?_
  refine run_op (loc_extract rfl rfl) rfl ?_
  refine run_op (loc_extract rfl rfl) rfl ?_
  refine run_op (loc_assign rfl) rfl ?_
  refine run_op (loc_assign rfl) rfl ?_
  refine run_nil ?_
  refine run_seq ?_
  refine run_region ?_
  refine run_op (loc_move rfl) rfl ?_
  refine run_op (loc_not rfl) rfl ?_
  refine run_nil ?_
  refine run_cond rfl (fun h1 => ?_) (fun h1 => ?_)
  ·
    have c1 := h1
    refine run_seq ?_
    refine run_region ?_
    refine run_op (loc_assign rfl) rfl ?_
    refine run_nil ?_
    refine run_retP Try.func132 rfl rfl ?_
    exact d_int (by unfold parE; rw [if_pos c1])
  ·
    have c1 := h1
    refine run_skip ?_
    refine run_seq ?_
    refine run_seq ?_
    refine run_region ?_
    refine run_op (loc_move rfl) rfl ?_
    refine run_op (loc_lss rfl rfl) rfl ?_
    refine run_op (loc_move rfl) rfl ?_
    refine run_gfirst rfl rfl (by first | exact guard_true _ | exact guard_false _ | exact guard_if (guard_true _) | exact guard_if (guard_false _)) (fun hg => loc_move rfl) rfl ?_
    refine run_gop rfl rfl (by first | exact guard_true _ | exact guard_false _ | exact guard_if (guard_true _) | exact guard_if (guard_false _)) (fun hg => loc_gtr rfl rfl) rfl ?_
    refine run_gleave ?_
    refine run_op (loc_or rfl rfl) rfl ?_
    refine run_op (loc_move rfl) rfl ?_
    refine run_gfirst rfl rfl (by first | exact guard_true _ | exact guard_false _ | exact guard_if (guard_true _) | exact guard_if (guard_false _)) (fun hg => loc_move rfl) rfl ?_
    refine run_gop rfl rfl (by first | exact guard_true _ | exact guard_false _ | exact guard_if (guard_true _) | exact guard_if (guard_false _)) (fun hg => loc_lss rfl rfl) rfl ?_
    refine run_gleave ?_
    refine run_op (loc_or rfl rfl) rfl ?_
    refine run_op (loc_move rfl) rfl ?_
    refine run_gfirst rfl rfl (by first | exact guard_true _ | exact guard_false _ | exact guard_if (guard_true _) | exact guard_if (guard_false _)) (fun hg => loc_move rfl) rfl ?_
    refine run_gop rfl rfl (by first | exact guard_true _ | exact guard_false _ | exact guard_if (guard_true _) | exact guard_if (guard_false _)) (fun hg => loc_gtr rfl rfl) rfl ?_
    refine run_gleave ?_
    refine run_op (loc_or rfl rfl) rfl ?_
    refine run_nil ?_
    refine run_cond rfl (fun h2 => ?_) (fun h2 => ?_)
    ·
      have c2 := h2
      refine run_seq ?_
      refine run_region ?_
      refine run_op (loc_assign rfl) rfl ?_
      refine run_nil ?_
      refine run_retP Try.func132 rfl rfl ?_
      exact d_int (by unfold parE; rw [if_neg c1, if_pos (by omega)])
    ·
      have c2 := h2
      refine run_skip ?_
      refine run_seq ?_
      refine run_region ?_
      refine run_op (loc_assign rfl) rfl ?_
      refine run_nil ?_
      refine run_retP Try.func132 rfl rfl ?_
      exact d_int (by unfold parE; rw [if_neg c1, if_neg (by omega)])

theorem plimits_spec (p rows s : Int) : SpecP Try.prog 130 [dAgg [dInt .i64 p], dInt .i64 rows, dInt .i64 s] (dTup [dInts (limsP p rows s), dInt .i64 (parE p rows s)]) := by
  refine specP_of_body Try.func130 rfl rfl (fun I M => ?_)
  refine run_seq ?_
  refine run_region ?_
  refine run_op (loc_boxN rfl) rfl ?_
  refine run_op (loc_assign rfl) rfl ?_
  refine run_op (loc_assign rfl) rfl ?_
  refine run_nil ?_
  refine run_seq ?_
  refine run_seq ?_
  refine run_region ?_
  refine run_op (loc_loadN rfl rfl) rfl ?_
  refine run_op (loc_move rfl) rfl ?_
  refine run_op (loc_move rfl) rfl ?_
  refine run_op (loc_call (pcheck_spec _ _ _) rfl) rfl ?_
  refine run_op (loc_assign rfl) rfl ?_
  refine run_nil ?_
  refine run_seq ?_
  refine run_region ?_
  refine run_op (loc_move rfl) rfl ?_
  refine run_op (loc_neq rfl rfl) rfl ?_
  refine run_nil ?_
  refine run_cond rfl (fun h1 => ?_) (fun h1 => ?_)
  ·
    have c1 := h1
    refine run_seq ?_
    refine run_region ?_
    refine run_op (loc_move rfl) rfl ?_
    refine run_op (loc_assign rfl) rfl ?_
    refine run_op (loc_assign rfl) rfl ?_
    refine run_nil ?_
    refine run_ret2P Try.func130 rfl rfl rfl ?_
    exact d_tup2 (d_toInts (by unfold limsP; rw [if_neg c1]) d_nil) (d_int rfl)
  ·
    have c1 := Classical.not_not.1 h1
    refine run_skip ?_
    refine run_seq ?_
    refine run_region ?_
    refine run_op (loc_assign rfl) rfl ?_
    refine run_nil ?_
    refine run_seq ?_
    refine run_seq ?_
    obtain ⟨hp, hs, hr⟩ := parE_zero c1
    have hm := mul_bd (a := rows) (b := s - 1) (A := 1024) (B := 10) (by omega) (by omega) (by omega) (by omega)
    refine run_region ?_
    refine run_op (loc_move rfl) rfl ?_
    refine run_op (loc_move rfl) rfl ?_
    first | refine run_op (loc_sub rfl rfl (by first | omega | assumption)) rfl ?_ | refine run_op (loc_subW rfl rfl) rfl ?_
    first | refine run_op (loc_mul rfl rfl (by first | omega | assumption)) rfl ?_ | refine run_op (loc_mulW rfl rfl) rfl ?_
    refine run_op (loc_move rfl) rfl ?_
    refine run_nil ?_
    refine run_block ?_
    refine run_rowNil 3 1 fI ?_
    refine run_loopF (σ := Value × Nat) (ks := [3, 20]) (.cons rfl (.cons rfl (.nil))) (fun q => [(9, dVal q.1), (21, dInt .i64 (q.2 : Nat))]) (fun q => [rRow q.1 3 1 fI (List.replicate q.2 p)]) (fun q => q.2 ≤ (rows * (s - 1)).toNat) (fun q => (rows * (s - 1)).toNat - q.2) ((.slice none 0 0, 0)) (Nat.zero_le _) (.cons rfl (by first | exact fun _ _ h => h | exact d_int (by omega) | exact d_int (by simp) | exact d_intN (by omega) | exact d_any) (.cons rfl (by first | exact fun _ _ h => h | exact d_int (by omega) | exact d_int (by simp) | exact d_intN (by omega) | exact d_any) .nil)) (rfl) ?_
    intro q hq ih2
    have hql : (List.replicate q.2 p).length = q.2 := List.length_replicate
    refine run_seq ?_
    refine run_region ?_
    refine run_op (loc_lss rfl rfl) rfl ?_
    refine run_nil ?_
    refine run_seq ?_
    refine run_cond rfl (fun h3 => ?_) (fun h3 => ?_)
    ·
      refine run_skip ?_
      refine run_seq ?_
      refine run_block ?_
      refine run_region ?_
      refine run_op (loc_move rfl) rfl ?_
      refine run_op (loc_fieldAddr rfl) rfl ?_
      refine run_op (loc_load1 rfl) rfl ?_
      refine run_op (loc_buildSlice rfl rfl (.one rfl (.nil)) rfl rfl) rfl ?_
      refine run_append1 rfl (.here) rfl (by rfl) (by rfl) (by first | omega | (unfold lenMax; omega) | assumption | (simp; omega) | (simp [lenMax]; omega)) (by first | omega | (unfold lenMax; omega) | assumption | (simp; omega) | (simp [lenMax]; omega)) rfl (fun v4 => ?_)
      refine run_op (loc_assign rfl) rfl ?_
      refine run_nil ?_
      refine run_inBlock ?_
      refine run_region ?_
      first | refine run_op (loc_add rfl rfl (by first | omega | assumption)) rfl ?_ | refine run_op (loc_addW rfl rfl) rfl ?_
      refine run_op (loc_move rfl) rfl ?_
      refine run_nil ?_
      exact run_againF ih2 ((v4, q.2 + 1)) (by simp only; omega) (by simp only; omega) (.cons rfl (by first | exact fun _ _ h => h | exact d_int (by omega) | exact d_int (by simp) | exact d_intN (by omega) | exact d_any) (.cons rfl (by first | exact fun _ _ h => h | exact d_int (by omega) | exact d_int (by simp) | exact d_intN (by omega) | exact d_any) .nil)) (.cons rfl (fun _ _ x => x) (.cons rfl (fun _ _ x => x) (.nil))) (by simp only [appR]; rw [rep_snoc])
    ·
      refine run_exit rfl ?_
      refine run_seq ?_
      refine run_freezeRow (s := 9) rfl (.here) ?_
      refine run_region ?_
      refine run_op (loc_move rfl) rfl ?_
      refine run_op (loc_assign rfl) rfl ?_
      refine run_op (loc_assign rfl) rfl ?_
      refine run_nil ?_
      refine run_ret2P Try.func130 rfl rfl rfl ?_
      exact d_tup2 (d_eq (by unfold limsP; rw [if_pos c1, show q.2 = (rows * (s - 1)).toNat by omega])) (d_int c1.symm)

theorem each1_iter (v : Value) (ls : List (List Int)) (hv : ls.length ≤ 100000) : ∀ (I : Imm) (lb : List Value), relL [dBox [dSlV v]] I lb → IterOk Try.prog 136 lb (α := List Int) (fR) (ls) ([rRow v 40 1 fR ls]) I := by
  refine iter_of_body Try.func136 rfl rfl (fun l σ φ Mo F s0 I h0 hy => ?_)
  refine run_seq ?_
  refine run_inv (fun I w h => h.perm List.perm_middle) ?_
  refine run_region ?_
  refine run_op (loc_load1 rfl) rfl ?_
  refine runL_recast (s := 5) rfl (d' := dVal v) (fun _ _ h => h.1) ?_
  refine run_op (loc_lenRow rfl (.here)) rfl ?_
  refine run_op (loc_move rfl) rfl ?_
  refine run_nil ?_
  refine run_block ?_
  refine run_loopE (σ := Nat × σ) (ks := [0, 5, 6]) (.cons rfl (.cons rfl (.cons rfl (.nil)))) (fun t => [(7, dInt .i64 (t.1 : Nat))]) (fun t => rRow v 40 1 fR ls :: (Mo t.1 t.2 ++ F)) (fun t => t.1 ≤ ls.length ∧ φ t.1 t.2) (fun t => ls.length - t.1) ((0, s0)) (⟨Nat.zero_le _, h0⟩) (.cons rfl (by first | exact fun _ _ h => h | exact d_int (by omega) | exact d_int (by simp) | exact d_intN (by omega) | exact d_any) .nil) (rfl) ?_
  rintro t ⟨hi, hs⟩ ih1
  refine run_seq ?_
  refine run_region ?_
  refine run_op (loc_lss rfl rfl) rfl ?_
  refine run_nil ?_
  refine run_seq ?_
  refine run_cond rfl (fun h2 => ?_) (fun h2 => ?_)
  ·
    refine run_skip ?_
    refine run_seq ?_
    refine run_block ?_
    refine run_seq ?_
    refine run_rowForm .here (by omega) (fun b cap hvb => ?_)
    subst hvb
    refine run_region ?_
    first | refine run_op (loc_indexRow rfl rfl (by first | omega | assumption)) rfl ?_ | refine run_op (loc_indexRowI rfl rfl (by first | omega | assumption)) rfl ?_
    refine run_op (loc_loadRow1 rfl (.here) (by first | omega | assumption)) rfl ?_
    refine run_op (loc_assign rfl) rfl ?_
    refine run_nil ?_
    refine run_seq ?_
    refine run_region ?_
    refine run_op (loc_move rfl) rfl ?_
    refine run_op (loc_move rfl) rfl ?_
    refine runL_inv (fun I w h => h.perm List.perm_middle.symm) ?_
    refine run_yieldOp hy (i := t.1) (x := ls[t.1]?.getD default) (s := t.2) (F := rRow _ 40 1 fR ls :: F) rfl rfl rfl (by rw [List.getElem?_eq_getElem (by omega)]; rfl) hs rfl (fun I us hr => hr) (fun s9 hs9 => ?_)
    refine runL_inv (fun I w h => h.perm List.perm_middle) ?_
    refine run_op (loc_not rfl) rfl ?_
    refine run_nil ?_
    refine run_cond rfl (fun h3 => ?_) (fun h3 => ?_)
    · exfalso; simp at h3
    ·
      refine run_skip ?_
      refine run_inBlock ?_
      refine run_region ?_
      first | refine run_op (loc_add rfl rfl (by first | omega | assumption)) rfl ?_ | refine run_op (loc_addW rfl rfl) rfl ?_
      refine run_op (loc_move rfl) rfl ?_
      refine run_nil ?_
      exact run_againE ih1 ((t.1 + 1, s9)) (⟨by simp only; omega, hs9⟩) (by simp only; omega) (.cons rfl (by first | exact fun _ _ h => h | exact d_int (by omega) | exact d_int (by simp) | exact d_intN (by omega) | exact d_any) .nil) (.cons rfl (fun _ _ x => x) (.cons rfl (fun _ _ x => x) (.cons rfl (fun _ _ x => x) (.nil)))) (rfl)
  ·
    skip
    refine run_exit rfl ?_
    refine run_ret0End (t.2) Try.func136 rfl  ?_ (by rw [show ls.length = t.1 by omega]; exact hs) (fun _ _ h => by rw [show ls.length = t.1 by omega]; exact h.perm List.perm_middle.symm)
    exact fun _ _ _ => trivial

theorem each_spec (v : Value) (ls : List (List Int)) (hl : ls.length ≤ 100000) : SpecP Try.prog 135 [dSlV v] (dSeqR Try.prog fR ls [rRow v 40 1 fR ls]) := by
  refine specP_of_body Try.func135 rfl rfl (fun I M => ?_)
  refine run_seq ?_
  refine run_region ?_
  refine run_op (loc_box1 rfl) rfl ?_
  refine run_op (loc_assign rfl) rfl ?_
  refine run_nil ?_
  refine run_seq ?_
  refine run_region ?_
  refine run_op (loc_makeFunc rfl) rfl ?_
  refine run_op (loc_assign rfl) rfl ?_
  refine run_nil ?_
  refine run_retP Try.func135 rfl rfl ?_
  exact clo_seq (each1_iter v ls hl)
theorem sumM_spec (p : Int) (n : Nat) (ls : List (List Int)) (Rs : List Res) (h : 2 ≤ p ∧ p ≤ 65521) (hn : n ≤ 1024) (hls : ∀ l ∈ ls, l.length = n ∧ ∀ x ∈ l, hasP p x) : Spec Try.prog 134 [dInt .i64 p, dInt .i64 (n : Nat), dSeqR Try.prog fR ls Rs] Rs (σ := Value) (fun _ => True) (fun v => dVal v) (fun v => rRow v 3 1 fI (sumL p n ls) :: Rs) := by
  refine spec_of_body Try.func134 rfl rfl (fun I F => ?_)
  refine run_seq ?_
  refine run_region ?_
  refine run_op (loc_box1 rfl) rfl ?_
  refine run_op (loc_assign rfl) rfl ?_
  refine run_nil ?_
  refine run_seq ?_
  refine run_region ?_
  refine run_op (loc_move rfl) rfl ?_
  refine run_new (loc_makeSlice rfl rfl (by first | omega | assumption) (by first | omega | assumption) _ _ rfl (by simp)) rfl (fun b10 _ => ?_)
  refine run_new (loc_allocOwn (by simp)) rfl (fun b7 _ => ?_)
  refine run_store1 rfl rfl (.here) (by rfl) ?_
  refine run_nil ?_
  refine run_seq ?_
  refine run_seq ?_
  refine run_region ?_
  refine run_op (loc_move rfl) rfl ?_
  refine run_nil ?_
  refine run_block ?_
  rw [show ((n : Nat) : Int).toNat = n from rfl]
  refine run_rangeFunc (σ := Unit) (ps := [12]) (fun i s => True) (fun i s => [rCells b7 40 [dVal (.slice (some ⟨b10, 0, none⟩) n n)], rRow (.slice (some ⟨b10, 0, none⟩) n n) 3 1 fI ((ls.take i).foldl (fun a l => addT p 1 a l) (List.replicate n 0))]) (()) rfl rfl rfl (fun _ => rfl) rfl (trivial) rfl (fun i x1 s l1 r1 F1 J hx1 hφ => ?_) (fun D s hφ => ?_)
  ·
    dsimp only [setP]
    have hac := sumL_ok h.1 (n := n) (ls := ls.take i) (a := List.replicate n 0) (by simp) (rep0_has h.1 n)
    have hii := (List.getElem?_eq_some_iff.1 hx1).1
    refine run_region ?_
    refine run_op (loc_assign rfl) rfl ?_
    refine run_nil ?_
    refine run_beginR (.here) ?_
    refine run_block ?_
    refine run_region ?_
    refine run_op (loc_load1 rfl) rfl ?_
    first | refine run_op (LocP.upV (loc_loadOwn1 rfl (.there (.here)) (by rfl))) rfl ?_ | refine run_op (loc_loadOwn1 rfl (.there (.here)) (by rfl)) rfl ?_
    refine run_op (loc_move rfl) rfl ?_
    refine run_callM rfl (.there (.there (.here))) (addTimes_spec _ _ _ _ _ h (by omega) hac.2 (hls x1 (List.mem_of_getElem? hx1)).2 (by rw [hac.1, (hls x1 (List.mem_of_getElem? hx1)).1]; exact Nat.le_refl _)) rfl (fun s2 hs2 => ?_)
    refine run_nil ?_
    refine run_inBlock ?_
    refine run_inv (M' := rBusy l1 r1 :: rCells b7 40 [dVal (.slice (some ⟨b10, 0, none⟩) n n)] :: rRow (.slice (some ⟨b10, 0, none⟩) n n) 3 1 fI ((ls.take (i + 1)).foldl (fun a l => addT p 1 a l) (List.replicate n 0)) :: F1) (fun I w h => by rw [foldl_take _ _ _ _ hii, hx1]; exact h) ?_
    exact run_roundEnd (()) (trivial) .here rfl
  ·
    refine run_inBlock ?_
    refine run_seq ?_
    refine run_region ?_
    first | refine run_op (LocP.upV (loc_loadOwn1 rfl (.there (.here)) (by rfl))) rfl ?_ | refine run_op (loc_loadOwn1 rfl (.there (.here)) (by rfl)) rfl ?_
    refine run_op (loc_assign rfl) rfl ?_
    refine run_nil ?_
    refine run_retMk (.slice (some ⟨b10, 0, none⟩) n n) (.here) Try.func134 rfl (.tmp rfl (.nil)) ?_ (trivial) (fun I w h => by have h2 := h.sub (.cons _ (.refl _)); rw [List.take_of_length_le (Nat.le_refl _)] at h2; exact h2)
    exact fun _ _ h => h
theorem sum_spec (p : Int) (n : Nat) (ls : List (List Int)) (Rs : List Res) (h : 2 ≤ p ∧ p ≤ 65521) (hn : n ≤ 1024) (hls : ∀ l ∈ ls, l.length = n ∧ ∀ x ∈ l, hasP p x) : Spec Try.prog 134 [dInt .i64 p, dInt .i64 (n : Nat), dSeqR Try.prog fR ls Rs] Rs (σ := Unit) (fun _ => True) (fun _ => dInts (sumL p n ls)) (fun _ => Rs) := spec_freezeS (sumM_spec p n ls Rs h hn hls)
theorem unit_spec (p n k : Int) : Spec Try.prog 133 [dAgg [dInt .i64 p], dInt .i64 n, dInt .i64 k] [] (σ := Value) (fun _ => True) (fun v => dTup [dVal v, dInt .i64 (unitE p n k)]) (fun v => [rRow v 3 1 fI (if unitE p n k = 0 then unitL n.toNat k.toNat else [])]) := by
  refine spec_of_body Try.func133 rfl rfl (fun I F => ?_)
  refine run_seq ?_
  refine run_region ?_
  refine run_op (loc_boxN rfl) rfl ?_
  refine run_op (loc_assign rfl) rfl ?_
  refine run_op (loc_assign rfl) rfl ?_
  refine run_nil ?_
  refine run_seq ?_
  refine run_seq ?_
  refine run_region ?_
  refine run_op (loc_loadN rfl rfl) rfl ?_
  refine run_op (loc_call (of_spec _) rfl) rfl ?_
  refine run_op (loc_move rfl) rfl ?_
  refine run_op (loc_extract rfl rfl) rfl ?_
  refine run_op (loc_extract rfl rfl) rfl ?_
  refine run_op (loc_assign rfl) rfl ?_
  refine run_op (loc_assign rfl) rfl ?_
  refine run_nil ?_
  refine run_seq ?_
  refine run_region ?_
  refine run_op (loc_move rfl) rfl ?_
  refine run_op (loc_not rfl) rfl ?_
  refine run_nil ?_
  refine run_cond rfl (fun h1 => ?_) (fun h1 => ?_)
  ·
    have c1 := h1
    refine run_seq ?_
    refine run_region ?_
    refine run_op (loc_assign rfl) rfl ?_
    refine run_op (loc_assign rfl) rfl ?_
    refine run_nil ?_
    have hE : unitE p n k = 9 := by unfold unitE; rw [if_pos c1]
    refine run_ret2 (.slice none 0 0) Try.func133 rfl rfl rfl ?_ (trivial) (fun I w h => by rw [hE]; exact nil_ok h)
    exact d_tup2 (fun _ _ h => h) (d_int hE.symm)
  ·
    have c1 := h1
    refine run_skip ?_
    refine run_seq ?_
    refine run_seq ?_
    refine run_region ?_
    refine run_op (loc_move rfl) rfl ?_
    refine run_op (loc_lss rfl rfl) rfl ?_
    refine run_op (loc_move rfl) rfl ?_
    refine run_gfirst rfl rfl (by first | exact guard_true _ | exact guard_false _ | exact guard_if (guard_true _) | exact guard_if (guard_false _)) (fun hg => loc_move rfl) rfl ?_
    refine run_gop rfl rfl (by first | exact guard_true _ | exact guard_false _ | exact guard_if (guard_true _) | exact guard_if (guard_false _)) (fun hg => loc_gtr rfl rfl) rfl ?_
    refine run_gleave ?_
    refine run_op (loc_or rfl rfl) rfl ?_
    refine run_nil ?_
    refine run_cond rfl (fun h2 => ?_) (fun h2 => ?_)
    ·
      have c2 := h2
      refine run_seq ?_
      refine run_region ?_
      refine run_op (loc_assign rfl) rfl ?_
      refine run_op (loc_assign rfl) rfl ?_
      refine run_nil ?_
      have hE : unitE p n k = 4 := by unfold unitE; rw [if_neg c1, if_pos c2]
      refine run_ret2 (.slice none 0 0) Try.func133 rfl rfl rfl ?_ (trivial) (fun I w h => by rw [hE]; exact nil_ok h)
      exact d_tup2 (fun _ _ h => h) (d_int hE.symm)
    ·
      have c2 := h2
      refine run_skip ?_
      refine run_seq ?_
      refine run_seq ?_
      refine run_region ?_
      refine run_op (loc_move rfl) rfl ?_
      refine run_op (loc_lss rfl rfl) rfl ?_
      refine run_op (loc_move rfl) rfl ?_
      refine run_gfirst rfl rfl (by first | exact guard_true _ | exact guard_false _ | exact guard_if (guard_true _) | exact guard_if (guard_false _)) (fun hg => loc_move rfl) rfl ?_
      refine run_gop rfl rfl (by first | exact guard_true _ | exact guard_false _ | exact guard_if (guard_true _) | exact guard_if (guard_false _)) (fun hg => loc_move rfl) rfl ?_
      refine run_gop rfl rfl (by first | exact guard_true _ | exact guard_false _ | exact guard_if (guard_true _) | exact guard_if (guard_false _)) (fun hg => loc_geq rfl rfl) rfl ?_
      refine run_gleave ?_
      refine run_op (loc_or rfl rfl) rfl ?_
      refine run_nil ?_
      refine run_cond rfl (fun h3 => ?_) (fun h3 => ?_)
      ·
        have c3 := h3
        refine run_seq ?_
        refine run_region ?_
        refine run_op (loc_assign rfl) rfl ?_
        refine run_op (loc_assign rfl) rfl ?_
        refine run_nil ?_
        have hE : unitE p n k = 1 := by unfold unitE; rw [if_neg c1, if_neg c2, if_pos (by omega)]
        refine run_ret2 (.slice none 0 0) Try.func133 rfl rfl rfl ?_ (trivial) (fun I w h => by rw [hE]; exact nil_ok h)
        exact d_tup2 (fun _ _ h => h) (d_int hE.symm)
      ·
        have c3 := h3
        refine run_skip ?_
        refine run_seq ?_
        refine run_region ?_
        refine run_op (loc_move rfl) rfl ?_
        refine run_new (loc_makeSlice rfl rfl (by first | omega | assumption) (by first | omega | assumption) _ _ rfl (by simp)) rfl (fun b10 _ => ?_)
        refine run_op (loc_assign rfl) rfl ?_
        refine run_nil ?_
        refine run_seq ?_
        have hrl : (List.replicate n.toNat (0 : Int)).length = n.toNat := List.length_replicate
        refine run_region ?_
        refine run_op (loc_move rfl) rfl ?_
        refine run_op (loc_move rfl) rfl ?_
        first | refine run_op (loc_indexRow rfl rfl (by first | omega | assumption)) rfl ?_ | refine run_op (loc_indexRowI rfl rfl (by first | omega | assumption)) rfl ?_
        refine run_storeRow1 rfl (.here) rfl (by rfl) (by first | omega | assumption) ?_
        refine run_nil ?_
        refine run_seq ?_
        refine run_region ?_
        refine run_op (loc_move rfl) rfl ?_
        refine run_op (loc_assign rfl) rfl ?_
        refine run_op (loc_assign rfl) rfl ?_
        refine run_nil ?_
        have hE : unitE p n k = 0 := by unfold unitE; rw [if_neg c1, if_neg c2, if_neg (by omega)]
        refine run_ret2 (.slice (some ⟨b10, 0, none⟩) n.toNat n.toNat) Try.func133 rfl rfl rfl ?_ (trivial) (fun I w h => by rw [hE]; exact h)
        exact d_tup2 (fun _ _ h => h) (d_int hE.symm)

theorem pqueriesM_spec (p rows s index : Int) (t : Tape) : Spec Try.prog 131 [dAgg [dInt .i64 p], dInt .i64 rows, dInt .i64 s, dInt .i64 index, dTape t] [] (σ := Value) (fun _ => True) (fun v => dTup [dVal v, dTape (pqT p rows s index t), dInt .i64 (pqE p rows s index t)]) (fun v => [rRow v 40 1 fR (pqL p rows s index t)]) := by
  refine spec_of_body Try.func131 rfl rfl (fun I F => ?_)
  refine run_seq ?_
  refine run_region ?_
  refine run_op (loc_boxN rfl) rfl ?_
  refine run_new (loc_boxOwnN rfl) rfl (fun b9 _ => ?_)
  refine run_op (loc_assign rfl) rfl ?_
  refine run_new (loc_allocOwn (by simp)) rfl (fun b11 _ => ?_)
  refine run_op (loc_assign rfl) rfl ?_
  refine run_nil ?_
  refine run_seq ?_
  refine run_seq ?_
  refine run_region ?_
  refine run_op (loc_loadN rfl rfl) rfl ?_
  refine run_op (loc_move rfl) rfl ?_
  refine run_op (loc_move rfl) rfl ?_
  refine run_op (loc_call (pcheck_spec _ _ _) rfl) rfl ?_
  refine run_op (loc_assign rfl) rfl ?_
  refine run_nil ?_
  refine run_seq ?_
  refine run_region ?_
  refine run_op (loc_move rfl) rfl ?_
  refine run_op (loc_neq rfl rfl) rfl ?_
  refine run_nil ?_
  refine run_cond rfl (fun h1 => ?_) (fun h1 => ?_)
  ·
    have c1 := h1
    refine run_seq ?_
    refine run_region ?_
    refine run_op (loc_build (.nil)) rfl ?_
    refine run_op (loc_move rfl) rfl ?_
    refine run_op (loc_assign rfl) rfl ?_
    refine run_storeN (ho := (by show OneAll [_, _]; infer_instance)) rfl rfl (.here) (by rfl) ?_
    refine run_op (loc_assign rfl) rfl ?_
    refine run_nil ?_
    have hE : pqE p rows s index t = parE p rows s := by unfold pqE; rw [if_pos c1]
    refine run_retG (.slice none 0 0) Try.func131 rfl (.tmp rfl (.cellN rfl (by first | exact .here | exact .there .here | exact .there (.there .here) | exact .there (.there (.there .here)) | exact .there (.there (.there (.there .here))) | exact .there (.there (.there (.there (.there .here))))) (by rfl) (.tmp rfl (.nil)))) ?_ (trivial) (fun I w h => by rw [show pqL p rows s index t = [] by unfold pqL; rw [if_neg (by rw [hE]; omega)]]; exact nil_ok ((fun _ _ h => h.sub (.cons _ (.cons _ (.refl _)))) I w h))
    exact d_tup3 (fun _ _ h => h) (d_toTape (by unfold pqT; rw [if_neg (by rw [hE]; omega)]) (d_aggU (.cons d_nil (.cons (d_int rfl) .nil)))) (d_int hE.symm)
  ·
    have c1 := Classical.not_not.1 h1
    refine run_skip ?_
    refine run_seq ?_
    refine run_seq ?_
    refine run_region ?_
    refine run_op (loc_move rfl) rfl ?_
    refine run_op (loc_lss rfl rfl) rfl ?_
    refine run_op (loc_move rfl) rfl ?_
    refine run_gfirst rfl rfl (by first | exact guard_true _ | exact guard_false _ | exact guard_if (guard_true _) | exact guard_if (guard_false _)) (fun hg => loc_move rfl) rfl ?_
    refine run_gop rfl rfl (by first | exact guard_true _ | exact guard_false _ | exact guard_if (guard_true _) | exact guard_if (guard_false _)) (fun hg => loc_move rfl) rfl ?_
    refine run_gop rfl rfl (by first | exact guard_true _ | exact guard_false _ | exact guard_if (guard_true _) | exact guard_if (guard_false _)) (fun hg => loc_geq rfl rfl) rfl ?_
    refine run_gleave ?_
    refine run_op (loc_or rfl rfl) rfl ?_
    refine run_nil ?_
    refine run_cond rfl (fun h2 => ?_) (fun h2 => ?_)
    ·
      have c2 := h2
      refine run_seq ?_
      refine run_region ?_
      refine run_op (loc_build (.nil)) rfl ?_
      refine run_op (loc_assign rfl) rfl ?_
      refine run_storeN (ho := (by show OneAll [_, _]; infer_instance)) rfl rfl (.here) (by rfl) ?_
      refine run_op (loc_assign rfl) rfl ?_
      refine run_nil ?_
      have hE : pqE p rows s index t = 6 := by unfold pqE; rw [if_neg (Classical.not_not.2 c1), if_pos (by omega)]
      refine run_retG (.slice none 0 0) Try.func131 rfl (.tmp rfl (.cellN rfl (by first | exact .here | exact .there .here | exact .there (.there .here) | exact .there (.there (.there .here)) | exact .there (.there (.there (.there .here))) | exact .there (.there (.there (.there (.there .here))))) (by rfl) (.tmp rfl (.nil)))) ?_ (trivial) (fun I w h => by rw [show pqL p rows s index t = [] by unfold pqL; rw [if_neg (by rw [hE]; omega)]]; exact nil_ok ((fun _ _ h => h.sub (.cons _ (.cons _ (.refl _)))) I w h))
      exact d_tup3 (fun _ _ h => h) (d_toTape (by unfold pqT; rw [if_neg (by rw [hE]; omega)]) (d_aggU (.cons d_nil (.cons (d_int rfl) .nil)))) (d_int hE.symm)
    ·
      have c2 := h2
      refine run_skip ?_
      refine run_seq ?_
      obtain ⟨hp, hs, hr⟩ := parE_zero c1
      have hpb := hp.1
      have hpb2 := hp.2.1
      refine run_region ?_
      refine run_op (loc_assign rfl) rfl ?_
      refine run_nil ?_
      refine run_seq ?_
      refine run_seq ?_
      refine run_region ?_
      refine run_op (loc_move rfl) rfl ?_
      first | refine run_op (loc_sub rfl rfl (by first | omega | assumption)) rfl ?_ | refine run_op (loc_subW rfl rfl) rfl ?_
      refine run_op (loc_move rfl) rfl ?_
      refine run_nil ?_
      refine run_block ?_
      refine run_rowNil 40 1 fR ?_
      refine run_front (.there (.there (.here))) ?_
      refine run_front (.there (.here)) ?_
      refine run_loopF (σ := Value × Nat) (ks := [1, 3, 5, 9, 11, 38]) (.cons rfl (.cons rfl (.cons rfl (.cons rfl (.cons rfl (.cons rfl (.nil))))))) (fun q => [(14, dVal q.1), (39, dInt .i64 (q.2 : Nat))]) (fun q => [rRow q.1 40 1 fR (pQs (pBase t) rows.toNat q.2), rCells b9 57 (cTape (tpK t p rows q.2))]) (fun q => q.2 ≤ (s - 1).toNat ∧ (q.2 = 0 ∨ drawE t p (rows * q.2) = 0)) (fun q => (s - 1).toNat - q.2) ((.slice none 0 0, 0)) (⟨Nat.zero_le _, .inl rfl⟩) (.cons rfl (by first | exact fun _ _ h => h | exact d_int (by omega) | exact d_int (by simp) | exact d_intN (by omega) | exact d_any) (.cons rfl (by first | exact fun _ _ h => h | exact d_int (by omega) | exact d_int (by simp) | exact d_intN (by omega) | exact d_any) .nil)) (rfl) ?_
      rintro q ⟨hq, hqd⟩ ih3
      have hql := pQs_len (pBase t) rows.toNat q.2
      refine run_seq ?_
      refine run_region ?_
      refine run_op (loc_lss rfl rfl) rfl ?_
      refine run_nil ?_
      refine run_seq ?_
      refine run_cond rfl (fun h4 => ?_) (fun h4 => ?_)
      ·
        refine run_skip ?_
        refine run_seq ?_
        refine run_block ?_
        refine run_seq ?_
        refine run_region ?_
        refine run_op (loc_loadOwnN rfl (.there (.here)) (by rfl)) rfl ?_
        refine run_op (loc_fieldAddr rfl) rfl ?_
        refine run_op (loc_load1 rfl) rfl ?_
        refine run_op (loc_move rfl) rfl ?_
        refine run_op (loc_call (draws_spec _ _ _) rfl) rfl ?_
        refine run_op (loc_move rfl) rfl ?_
        refine run_op (loc_extract rfl rfl) rfl ?_
        refine run_op (loc_extract rfl rfl) rfl ?_
        refine run_op (loc_extract rfl rfl) rfl ?_
        refine run_new (loc_allocOwn (by simp)) rfl (fun b5 _ => ?_)
        refine run_storeN (ho := (by show OneAll [_, _]; infer_instance)) rfl rfl (.here) (by rfl) ?_
        refine run_op (loc_assign rfl) rfl ?_
        refine run_op (loc_assign rfl) rfl ?_
        refine run_nil ?_
        refine run_seq ?_
        refine run_seq ?_
        refine run_region ?_
        refine run_op (loc_move rfl) rfl ?_
        refine run_op (loc_neq rfl rfl) rfl ?_
        refine run_nil ?_
        refine run_cond rfl (fun h6 => ?_) (fun h6 => ?_)
        ·
          have c3 := h6
          have hpos : 0 ≤ rows * (s - 1 - ((q.2 : Int) + 1)) := Int.mul_nonneg (by omega) (by omega)
          have hpos2 : 0 ≤ rows * ((q.2 : Int) + 1) := Int.mul_nonneg (by omega) (by omega)
          have hEs := tpK_E (t := t) (p := p) hr.1 hqd
          refine run_seq ?_
          refine run_region ?_
          refine run_op (loc_build (.nil)) rfl ?_
          refine run_op (loc_move rfl) rfl ?_
          refine run_op (loc_assign rfl) rfl ?_
          refine run_storeN (ho := (by show OneAll [_, _]; infer_instance)) rfl rfl (.there (.there (.there (.here)))) (by rfl) ?_
          refine run_op (loc_assign rfl) rfl ?_
          refine run_nil ?_
          have hE : pqE p rows s index t = drawE (tpK t p rows q.2) p rows := by unfold pqE; rw [if_neg (Classical.not_not.2 c1), if_neg (by omega), show rows * (s - 1) = rows * ((q.2 : Int) + 1) + rows * (s - 1 - ((q.2 : Int) + 1)) by rw [← Int.mul_add]; congr 1; omega, drawE_stop hpos2 hpos (by rw [← hEs]; exact c3), hEs]
          refine run_retG (.slice none 0 0) Try.func131 rfl (.tmp rfl (.cellN rfl (by first | exact .here | exact .there .here | exact .there (.there .here) | exact .there (.there (.there .here)) | exact .there (.there (.there (.there .here))) | exact .there (.there (.there (.there (.there .here))))) (by rfl) (.tmp rfl (.nil)))) ?_ (trivial) (fun I w h => by rw [show pqL p rows s index t = [] by unfold pqL; rw [if_neg (by rw [hE]; omega)]]; exact nil_ok ((fun _ _ h => h.sub (.cons _ (.cons _ (.cons _ (.cons _ (.refl _)))))) I w h))
          exact d_tup3 (fun _ _ h => h) (d_toTape (by unfold pqT; rw [if_neg (by rw [hE]; omega)]) (d_aggU (.cons d_nil (.cons (d_int rfl) .nil)))) (d_int hE.symm)
        ·
          have c3 := tpK_ok hr.1 hqd (Classical.not_not.1 h6)
          refine run_skip ?_
          refine dr_start _ (.one (σ := Value) 4 (fun _ => True)) [⟨[(15, none)], [], some (0, 0, false)⟩,
              ⟨[(14, none)], [], none⟩,
              ⟨[(16, none)], [], none⟩,
              ⟨[(56, some (2, false))], [2], none⟩,
              ⟨[(55, some (1, false)), (57, some (3, false))], [1, 2, 3], some (1, 0, true)⟩,
              ⟨[(9, none), (54, some (0, false))], [0, 1, 2, 3, 4], some (2, 0, true)⟩,
              ⟨[(58, some (4, false))], [0, 1, 2, 3, 4, 5], none⟩] [_, _, _, _] _ rfl rfl ?_
          refine dq_read rfl (fun s => .g rfl (.nil)) rfl rfl (fun s hs _ hm => loc_loadOwnN rfl hm (by rfl)) (by exact .cons (.inr fun _ _ _ => rfl) (.nil)) ?_
          refine dq_pure rfl (fun s => .g rfl (.nil)) (fun s hs _ => loc_move rfl) (by exact .cons (.inr fun _ _ _ => rfl) (.nil)) ?_
          refine dq_pure rfl (fun s => .g rfl (.nil)) (fun s hs _ => loc_move rfl) (by exact .cons (.inr fun _ _ _ => rfl) (.nil)) ?_
          refine dq_pure rfl (fun s => .op rfl (.nil)) (fun s hs _ => loc_buildSlice rfl rfl (.one rfl (.nil)) rfl rfl) (by exact .cons (.inr fun _ _ _ => rfl) (.nil)) ?_
          refine dq_choose id (fun _ t => t) rfl (fun _ _ => ⟨rfl, id, trivial⟩) (fun s => .op rfl (.op rfl (.nil))) rfl rfl (fun s hs => loc_append1 _ rfl rfl rfl rfl (by first | omega | (unfold lenMax; omega) | assumption | (simp; omega) | (simp [lenMax]; omega)) (by first | omega | (unfold lenMax; omega) | assumption | (simp; omega) | (simp [lenMax]; omega))) (by exact .cons (.inl rfl) (.nil)) ?_
          refine dq_write0 rfl (fun s => .g rfl (.op rfl (.nil))) rfl rfl (fun s hs => loc_storeN (ho := (by show OneAll [_, _]; infer_instance)) rfl rfl rfl) (by exact .cons (.inl rfl) (.nil)) ?_
          refine dq_pure rfl (fun s => .op rfl (.nil)) (fun s hs _ => loc_assign rfl) (by exact .cons (.inl rfl) (.nil)) ?_
          refine dq_end (rs := [_, _, _, _]) (.bool true) rfl (fun _ => rfl) (.cons rfl (.nil)) rfl (fun v9 _ => ?_)
          dsimp only [outG, outM, List.map, List.set, id]
          refine run_inBlock ?_
          refine run_region ?_
          first | refine run_op (loc_add rfl rfl (by first | omega | assumption)) rfl ?_ | refine run_op (loc_addW rfl rfl) rfl ?_
          refine run_op (loc_move rfl) rfl ?_
          refine run_nil ?_
          refine run_drop (.cons _ (.refl _)) ?_
          exact run_againF ih3 ((v9, q.2 + 1)) (⟨by simp only; omega, .inr c3.2.2⟩) (by simp only; omega) (.cons rfl (by first | exact fun _ _ h => h | exact d_int (by omega) | exact d_int (by simp) | exact d_intN (by omega) | exact d_any) (.cons rfl (by first | exact fun _ _ h => h | exact d_int (by omega) | exact d_int (by simp) | exact d_intN (by omega) | exact d_any) .nil)) (.cons rfl (fun _ _ x => x) (.cons rfl (fun _ _ x => x) (.cons rfl (fun _ _ x => x) (.cons rfl (fun _ _ x => x) (.cons rfl (fun _ _ x => x) (.cons rfl (fun _ _ x => x) (.nil))))))) (by simp only [appR]; rw [pQs_snoc, ← c3.1, ← c3.2.1]; rfl)
      ·
        refine run_exit rfl ?_
        refine run_seq ?_
        have hqs : ((q.2 : Nat) : Int) = s - 1 := by omega
        have hz : drawE t p (rows * q.2) = 0 := hqd.resolve_left (by omega)
        have hE : pqE p rows s index t = 0 := by unfold pqE; rw [if_neg (Classical.not_not.2 c1), if_neg (by omega), ← hqs]; exact hz
        have hall := pQs_all hr.1 hz
        have hu : unitE p rows index = 0 := by unfold unitE; rw [if_neg (Classical.not_not.2 hp), if_neg (by omega), if_neg (by omega)]
        have hsum := sumL_ok hpb (n := rows.toNat) (ls := pQs (pBase t) rows.toNat q.2) (a := List.replicate rows.toNat 0) (by simp) (rep0_has hpb _)
        refine run_region ?_
        refine run_op (loc_fieldAddr rfl) rfl ?_
        refine run_op (loc_load1 rfl) rfl ?_
        refine run_op (loc_assign rfl) rfl ?_
        refine run_nil ?_
        refine run_seq ?_
        refine run_region ?_
        refine run_op (loc_loadN rfl rfl) rfl ?_
        refine run_op (loc_move rfl) rfl ?_
        refine run_op (loc_move rfl) rfl ?_
        refine run_callN rfl (unit_spec _ _ _) rfl (fun v7 hv7 => ?_)
        refine run_op (loc_move rfl) rfl ?_
        refine run_op (loc_extract rfl rfl) rfl ?_
        refine run_op (loc_extract rfl rfl) rfl ?_
        refine run_op (loc_assign rfl) rfl ?_
        refine run_op (loc_assign rfl) rfl ?_
        refine run_nil ?_
        rw [if_pos hu]
        refine run_seq ?_
        refine run_rowV (s := 14) rfl (.there (.here)) ?_
        refine run_recast (s := 1) rfl (d_int (n := ((rows.toNat : Nat) : Int)) (by omega)) ?_
        refine dr_start _ (.none) [⟨[(18, none)], [], none⟩,
            ⟨[(19, none)], [], none⟩,
            ⟨[(5, none)], [], none⟩,
            ⟨[(71, some (2, false))], [2], none⟩,
            ⟨[(72, some (3, false))], [2, 3], none⟩,
            ⟨[(18, none)], [], none⟩,
            ⟨[(1, none)], [], none⟩,
            ⟨[(14, none)], [], none⟩,
            ⟨[(76, some (7, false))], [7], none⟩,
            ⟨[(74, some (5, false)), (75, some (6, false)), (77, some (8, false))], [5, 6, 7, 8], some (1, 0, true)⟩,
            ⟨[(69, some (0, false)), (70, some (1, false)), (73, some (4, false)), (78, some (9, false))], [0, 1, 2, 3, 4, 5, 6, 7, 8, 9], some (0, 0, true)⟩] [_, _, _, _] _ rfl rfl ?_
        refine dq_pure rfl (fun s => .g rfl (.nil)) (fun s hs _ => loc_move rfl) (by exact .nil) ?_
        refine dq_pure rfl (fun s => .g rfl (.nil)) (fun s hs _ => loc_move rfl) (by exact .nil) ?_
        refine dq_pure rfl (fun s => .g rfl (.nil)) (fun s hs _ => loc_fieldAddr rfl) (by exact .nil) ?_
        refine dq_pure rfl (fun s => .op rfl (.nil)) (fun s hs _ => loc_load1 rfl) (by exact .nil) ?_
        first | refine dq_pure rfl (fun s => .op rfl (.nil)) (fun s hs _ => loc_sub rfl rfl (by first | omega | assumption)) (by exact .nil) ?_ | refine dq_pure rfl (fun s => .op rfl (.nil)) (fun s hs _ => loc_subW rfl rfl) (by exact .nil) ?_
        refine dq_pure rfl (fun s => .g rfl (.nil)) (fun s hs _ => loc_move rfl) (by exact .nil) ?_
        refine dq_pure rfl (fun s => .g rfl (.nil)) (fun s hs _ => loc_move rfl) (by exact .nil) ?_
        refine dq_pure rfl (fun s => .g rfl (.nil)) (fun s hs _ => loc_move rfl) (by exact .nil) ?_
        refine dq_pure rfl (fun s => .op rfl (.nil)) (fun s hs _ => loc_call (each_spec _ (pQs (pBase t) rows.toNat q.2) (by omega)) rfl) (by exact .nil) ?_
        refine dq_write rfl (fun s => .op rfl (.op rfl (.op rfl (.nil)))) rfl rfl (fun s hs => loc_callM (sum_spec p rows.toNat _ _ ⟨hpb, hpb2⟩ (by omega) hall) rfl) (by exact .nil) ?_
        refine dq_write rfl (fun s => .op rfl (.op rfl (.op rfl (.op rfl (.nil))))) rfl rfl (fun s hs => loc_callM (addTimes_spec _ _ _ _ _ ⟨hpb, hpb2⟩ ⟨by omega, by omega⟩ (unitL_has hpb) hsum.2 (by rw [hsum.1, unitL_len]; exact Nat.le_refl _)) rfl) (by exact .nil) ?_
        refine dq_end (rs := [_, _, _, _]) () rfl (fun _ => rfl) (.nil) rfl (fun _ _ => ?_)
        dsimp only [outG, outM, List.map, List.set, id]
        refine run_seq ?_
        refine run_freezeRow (s := 19) rfl (.here) ?_
        refine dr_start _ (.one (σ := Value) 3 (fun _ => True)) [⟨[(14, none)], [], none⟩,
            ⟨[(19, none)], [], none⟩,
            ⟨[(81, some (1, false))], [1], none⟩,
            ⟨[(80, some (0, false)), (82, some (2, false))], [0, 1, 2], some (0, 0, true)⟩,
            ⟨[(9, none)], [], some (1, 0, false)⟩,
            ⟨[(83, some (3, false))], [0, 1, 2, 3], none⟩,
            ⟨[(11, none), (84, some (4, false))], [0, 1, 2, 3, 4, 5], some (2, 0, true)⟩,
            ⟨[], [0, 1, 2, 3, 4, 5, 6], none⟩] [_, _, _] _ rfl rfl ?_
        refine dq_pure rfl (fun s => .g rfl (.nil)) (fun s hs _ => loc_move rfl) (by exact .cons (.inr fun _ _ _ => rfl) (.nil)) ?_
        refine dq_pure rfl (fun s => .g rfl (.nil)) (fun s hs _ => loc_move rfl) (by exact .cons (.inr fun _ _ _ => rfl) (.nil)) ?_
        refine dq_pure rfl (fun s => .op rfl (.nil)) (fun s hs _ => loc_buildSlice rfl rfl (.one rfl (.nil)) rfl rfl) (by exact .cons (.inr fun _ _ _ => rfl) (.nil)) ?_
        refine dq_choose id (fun _ t => t) rfl (fun _ _ => ⟨rfl, id, trivial⟩) (fun s => .op rfl (.op rfl (.nil))) rfl rfl (fun s hs => loc_append1V _ rfl rfl rfl rfl (by first | omega | (unfold lenMax; omega) | assumption | (simp; omega) | (simp [lenMax]; omega)) (by first | omega | (unfold lenMax; omega) | assumption | (simp; omega) | (simp [lenMax]; omega))) (by exact .cons (.inl rfl) (.nil)) ?_
        refine dq_read rfl (fun s => .g rfl (.nil)) rfl rfl (fun s hs _ hm => loc_loadOwnN rfl hm (by rfl)) (by exact .cons (.inr fun _ _ _ => rfl) (.nil)) ?_
        refine dq_pure rfl (fun s => .op rfl (.nil)) (fun s hs _ => loc_assign rfl) (by exact .cons (.inl rfl) (.nil)) ?_
        refine dq_write0 rfl (fun s => .g rfl (.op rfl (.nil))) rfl rfl (fun s hs => loc_storeN (ho := (by show OneAll [_, _]; infer_instance)) rfl rfl rfl) (by exact .cons (.inl rfl) (.nil)) ?_
        refine dq_pure rfl (fun s => .nil) (fun s hs _ => loc_assign rfl) (by exact .cons (.inl rfl) (.nil)) ?_
        refine dq_end (rs := [_, _, _]) (.bool true) rfl (fun _ => rfl) (.cons rfl (.nil)) rfl (fun v8 _ => ?_)
        dsimp only [outG, outM, List.map, List.set, id]
        refine run_retG (v8) Try.func131 rfl (.tmp rfl (.cellN rfl (by first | exact .here | exact .there .here | exact .there (.there .here) | exact .there (.there (.there .here)) | exact .there (.there (.there (.there .here))) | exact .there (.there (.there (.there (.there .here))))) (by rfl) (.tmp rfl (.nil)))) ?_ (trivial) (fun I w h => by rw [show pqL p rows s index t = pQs (pBase t) rows.toNat q.2 ++ [pLast p index rows (pQs (pBase t) rows.toNat q.2)] by unfold pqL; rw [if_pos hE, show (s - 1).toNat = q.2 by omega]]; exact (fun _ _ h => h.sub (.cons_cons _ (.cons _ (.cons _ (.refl _))))) I w h)
        exact d_tup3 (fun _ _ h => h.1) (d_toTape (t' := tpK t p rows q.2) (by unfold pqT tpK; rw [if_pos hE, if_neg (by omega), hqs]) (fun _ _ h => h)) (d_int hE.symm)

theorem pqueries_spec (p rows s index : Int) (t : Tape) : SpecP Try.prog 131 [dAgg [dInt .i64 p], dInt .i64 rows, dInt .i64 s, dInt .i64 index, dTape t] (dTup [dRows (pqL p rows s index t), dTape (pqT p rows s index t), dInt .i64 (pqE p rows s index t)]) := spec_freeze3 (pqueriesM_spec p rows s index t)
end Go.Q

namespace Go.Q
open Go.Proofs

open Classical
theorem wide_spec (n : Int) : SpecP Try.prog 82 [dInt .i64 n] (dB (0 ≤ n ∧ n ≤ 64)) := by
  refine specP_of_body Try.func82 rfl rfl (fun I M => ?_)
  refine run_seq ?_
  refine run_region ?_
  refine run_op (loc_assign rfl) rfl ?_
  refine run_nil ?_
  refine run_seq ?_
  refine run_region ?_
  refine run_op (loc_move rfl) rfl ?_
  refine run_op (loc_geq rfl rfl) rfl ?_
  refine run_op (loc_move rfl) rfl ?_
  refine run_gfirst rfl rfl (by first | exact guard_true _ | exact guard_false _ | exact guard_if (guard_true _) | exact guard_if (guard_false _)) (fun hg => loc_move rfl) rfl ?_
  refine run_gop rfl rfl (by first | exact guard_true _ | exact guard_false _ | exact guard_if (guard_true _) | exact guard_if (guard_false _)) (fun hg => loc_leq rfl rfl) rfl ?_
  refine run_gleave ?_
  refine run_op (loc_and rfl rfl) rfl ?_
  refine run_op (loc_assign rfl) rfl ?_
  refine run_nil ?_
  refine run_retP Try.func82 rfl rfl ?_
  exact fun _ _ h => h

theorem gcheck_spec (p s d g : Int) : SpecP Try.prog 81 [dAgg [dInt .i64 p], dAgg [dInt .i64 s, dInt .i64 d, dInt .i64 g]] (dInt .i64 (codE p s d g)) := by
  refine specP_of_body Try.func81 rfl rfl (fun I M => ?_)
  refine run_seq ?_
  refine run_region ?_
  refine run_op (loc_boxN rfl) rfl ?_
  refine run_op (loc_boxN rfl) rfl ?_
  refine run_op (loc_assign rfl) rfl ?_
  refine run_nil ?_
  refine run_seq ?_
  refine run_seq ?_
  refine run_region ?_
  refine run_op (loc_loadN rfl rfl) rfl ?_
  refine run_op (loc_call (of_spec _) rfl) rfl ?_
  refine run_op (loc_move rfl) rfl ?_
  refine run_op (loc_extract rfl rfl) rfl ?_
  refine run_op (loc_extract rfl rfl) rfl ?_
  refine run_op (loc_assign rfl) rfl ?_
  refine run_op (loc_assign rfl) rfl ?_
  refine run_nil ?_
  refine run_seq ?_
  refine run_region ?_
  refine run_op (loc_move rfl) rfl ?_
  refine run_op (loc_not rfl) rfl ?_
  refine run_nil ?_
  refine run_cond rfl (fun h1 => ?_) (fun h1 => ?_)
  ·
    have c1 := h1
    refine run_seq ?_
    refine run_region ?_
    refine run_op (loc_assign rfl) rfl ?_
    refine run_nil ?_
    refine run_retP Try.func81 rfl rfl ?_
    exact d_int (by unfold codE; rw [if_pos c1])
  ·
    have c1 := h1
    refine run_skip ?_
    refine run_seq ?_
    refine run_seq ?_
    refine run_region ?_
    refine run_op (loc_fieldAddr rfl) rfl ?_
    refine run_op (loc_load1 rfl) rfl ?_
    refine run_op (loc_lss rfl rfl) rfl ?_
    refine run_op (loc_move rfl) rfl ?_
    refine run_gfirst rfl rfl (by first | exact guard_true _ | exact guard_false _ | exact guard_if (guard_true _) | exact guard_if (guard_false _)) (fun hg => loc_fieldAddr rfl) rfl ?_
    refine run_gop rfl rfl (by first | exact guard_true _ | exact guard_false _ | exact guard_if (guard_true _) | exact guard_if (guard_false _)) (fun hg => loc_load1 rfl) rfl ?_
    refine run_gop rfl rfl (by first | exact guard_true _ | exact guard_false _ | exact guard_if (guard_true _) | exact guard_if (guard_false _)) (fun hg => loc_gtr rfl rfl) rfl ?_
    refine run_gleave ?_
    refine run_op (loc_or rfl rfl) rfl ?_
    refine run_op (loc_move rfl) rfl ?_
    refine run_gfirst rfl rfl (by first | exact guard_true _ | exact guard_false _ | exact guard_if (guard_true _) | exact guard_if (guard_false _)) (fun hg => loc_fieldAddr rfl) rfl ?_
    refine run_gop rfl rfl (by first | exact guard_true _ | exact guard_false _ | exact guard_if (guard_true _) | exact guard_if (guard_false _)) (fun hg => loc_load1 rfl) rfl ?_
    refine run_gop rfl rfl (by first | exact guard_true _ | exact guard_false _ | exact guard_if (guard_true _) | exact guard_if (guard_false _)) (fun hg => loc_fieldAddr rfl) rfl ?_
    refine run_gop rfl rfl (by first | exact guard_true _ | exact guard_false _ | exact guard_if (guard_true _) | exact guard_if (guard_false _)) (fun hg => loc_load1 rfl) rfl ?_
    refine run_gop rfl rfl (by first | exact guard_true _ | exact guard_false _ | exact guard_if (guard_true _) | exact guard_if (guard_false _)) (fun hg => loc_geq rfl rfl) rfl ?_
    refine run_gleave ?_
    refine run_op (loc_or rfl rfl) rfl ?_
    refine run_op (loc_move rfl) rfl ?_
    refine run_gfirst rfl rfl (by first | exact guard_true _ | exact guard_false _ | exact guard_if (guard_true _) | exact guard_if (guard_false _)) (fun hg => loc_fieldAddr rfl) rfl ?_
    refine run_gop rfl rfl (by first | exact guard_true _ | exact guard_false _ | exact guard_if (guard_true _) | exact guard_if (guard_false _)) (fun hg => loc_load1 rfl) rfl ?_
    refine run_gop rfl rfl (by first | exact guard_true _ | exact guard_false _ | exact guard_if (guard_true _) | exact guard_if (guard_false _)) (fun hg => loc_lss rfl rfl) rfl ?_
    refine run_gleave ?_
    refine run_op (loc_or rfl rfl) rfl ?_
    refine run_op (loc_move rfl) rfl ?_
    refine run_gfirst rfl rfl (by first | exact guard_true _ | exact guard_false _ | exact guard_if (guard_true _) | exact guard_if (guard_false _)) (fun hg => loc_fieldAddr rfl) rfl ?_
    refine run_gop rfl rfl (by first | exact guard_true _ | exact guard_false _ | exact guard_if (guard_true _) | exact guard_if (guard_false _)) (fun hg => loc_load1 rfl) rfl ?_
    refine run_gop rfl rfl (by first | exact guard_true _ | exact guard_false _ | exact guard_if (guard_true _) | exact guard_if (guard_false _)) (fun hg => loc_lss rfl rfl) rfl ?_
    refine run_gleave ?_
    refine run_op (loc_or rfl rfl) rfl ?_
    refine run_op (loc_move rfl) rfl ?_
    refine run_gfirst rfl rfl (by first | exact guard_true _ | exact guard_false _ | exact guard_if (guard_true _) | exact guard_if (guard_false _)) (fun hg => loc_fieldAddr rfl) rfl ?_
    refine run_gop rfl rfl (by first | exact guard_true _ | exact guard_false _ | exact guard_if (guard_true _) | exact guard_if (guard_false _)) (fun hg => loc_load1 rfl) rfl ?_
    refine run_gop rfl rfl (by first | exact guard_true _ | exact guard_false _ | exact guard_if (guard_true _) | exact guard_if (guard_false _)) (fun hg => loc_fieldAddr rfl) rfl ?_
    refine run_gop rfl rfl (by first | exact guard_true _ | exact guard_false _ | exact guard_if (guard_true _) | exact guard_if (guard_false _)) (fun hg => loc_load1 rfl) rfl ?_
    refine run_gop rfl rfl (by first | exact guard_true _ | exact guard_false _ | exact guard_if (guard_true _) | exact guard_if (guard_false _)) (fun hg => loc_gtr rfl rfl) rfl ?_
    refine run_gleave ?_
    refine run_op (loc_or rfl rfl) rfl ?_
    refine run_op (loc_move rfl) rfl ?_
    refine run_gfirst rfl rfl (by first | exact guard_true _ | exact guard_false _ | exact guard_if (guard_true _) | exact guard_if (guard_false _)) (fun hg => loc_fieldAddr rfl) rfl ?_
    refine run_gop rfl rfl (by first | exact guard_true _ | exact guard_false _ | exact guard_if (guard_true _) | exact guard_if (guard_false _)) (fun hg => loc_load1 rfl) rfl ?_
    refine run_gop rfl rfl (by first | exact guard_true _ | exact guard_false _ | exact guard_if (guard_true _) | exact guard_if (guard_false _)) (fun hg => loc_fieldAddr rfl) rfl ?_
    refine run_gop rfl rfl (by first | exact guard_true _ | exact guard_false _ | exact guard_if (guard_true _) | exact guard_if (guard_false _)) (fun hg => loc_load1 rfl) rfl ?_
    refine run_gop rfl rfl (by first | exact guard_true _ | exact guard_false _ | exact guard_if (guard_true _) | exact guard_if (guard_false _)) (fun hg => loc_gtr rfl rfl) rfl ?_
    refine run_gleave ?_
    refine run_op (loc_or rfl rfl) rfl ?_
    refine run_op (loc_move rfl) rfl ?_
    refine run_gfirst rfl rfl (by first | exact guard_true _ | exact guard_false _ | exact guard_if (guard_true _) | exact guard_if (guard_false _)) (fun hg => loc_fieldAddr rfl) rfl ?_
    refine run_gop rfl rfl (by first | exact guard_true _ | exact guard_false _ | exact guard_if (guard_true _) | exact guard_if (guard_false _)) (fun hg => loc_load1 rfl) rfl ?_
    first | refine run_gop rfl rfl (by first | exact guard_true _ | exact guard_false _ | exact guard_if (guard_true _) | exact guard_if (guard_false _)) (fun hg => loc_mul rfl rfl (by first | omega | assumption | (refine ⟨?_, ?_⟩ <;> omega))) rfl ?_ | refine run_gop rfl rfl (by first | exact guard_true _ | exact guard_false _ | exact guard_if (guard_true _) | exact guard_if (guard_false _)) (fun hg => loc_mulW rfl rfl) rfl ?_
    refine run_gop rfl rfl (by first | exact guard_true _ | exact guard_false _ | exact guard_if (guard_true _) | exact guard_if (guard_false _)) (fun hg => loc_fieldAddr rfl) rfl ?_
    refine run_gop rfl rfl (by first | exact guard_true _ | exact guard_false _ | exact guard_if (guard_true _) | exact guard_if (guard_false _)) (fun hg => loc_load1 rfl) rfl ?_
    first | refine run_gop rfl rfl (by first | exact guard_true _ | exact guard_false _ | exact guard_if (guard_true _) | exact guard_if (guard_false _)) (fun hg => loc_add rfl rfl (by first | omega | assumption | (refine ⟨?_, ?_⟩ <;> omega))) rfl ?_ | refine run_gop rfl rfl (by first | exact guard_true _ | exact guard_false _ | exact guard_if (guard_true _) | exact guard_if (guard_false _)) (fun hg => loc_addW rfl rfl) rfl ?_
    first | refine run_gop rfl rfl (by first | exact guard_true _ | exact guard_false _ | exact guard_if (guard_true _) | exact guard_if (guard_false _)) (fun hg => loc_sub rfl rfl (by first | omega | assumption | (refine ⟨?_, ?_⟩ <;> omega))) rfl ?_ | refine run_gop rfl rfl (by first | exact guard_true _ | exact guard_false _ | exact guard_if (guard_true _) | exact guard_if (guard_false _)) (fun hg => loc_subW rfl rfl) rfl ?_
    refine run_gop rfl rfl (by first | exact guard_true _ | exact guard_false _ | exact guard_if (guard_true _) | exact guard_if (guard_false _)) (fun hg => loc_fieldAddr rfl) rfl ?_
    refine run_gop rfl rfl (by first | exact guard_true _ | exact guard_false _ | exact guard_if (guard_true _) | exact guard_if (guard_false _)) (fun hg => loc_load1 rfl) rfl ?_
    refine run_gop rfl rfl (by first | exact guard_true _ | exact guard_false _ | exact guard_if (guard_true _) | exact guard_if (guard_false _)) (fun hg => loc_gtr rfl rfl) rfl ?_
    refine run_gleave ?_
    refine run_op (loc_or rfl rfl) rfl ?_
    refine run_nil ?_
    refine run_cond rfl (fun h2 => ?_) (fun h2 => ?_)
    ·
      have c2 := h2
      refine run_seq ?_
      refine run_region ?_
      refine run_op (loc_assign rfl) rfl ?_
      refine run_nil ?_
      refine run_retP Try.func81 rfl rfl ?_
      exact d_int (by unfold codE; rw [if_neg c1, if_pos (by omega)])
    ·
      have c2 := h2
      refine run_skip ?_
      refine run_seq ?_
      refine run_region ?_
      refine run_op (loc_assign rfl) rfl ?_
      refine run_nil ?_
      refine run_retP Try.func81 rfl rfl ?_
      exact d_int (by unfold codE; rw [if_neg c1, if_neg (by omega)])

theorem gcheckR_spec (p s d g n : Int) : SpecP Try.prog 118 [dAgg [dInt .i64 p], dAgg [dInt .i64 s, dInt .i64 d, dInt .i64 g], dInt .i64 n] (dInt .i64 (codRE p s d g n)) := by
  refine specP_of_body Try.func118 rfl rfl (fun I M => ?_)
  refine run_seq ?_
  refine run_region ?_
  refine run_op (loc_boxN rfl) rfl ?_
  refine run_op (loc_boxN rfl) rfl ?_
  refine run_op (loc_assign rfl) rfl ?_
  refine run_nil ?_
  refine run_seq ?_
  refine run_region ?_
  refine run_op (loc_loadN rfl rfl) rfl ?_
  refine run_op (loc_loadN rfl rfl) rfl ?_
  refine run_op (loc_call (gcheck_spec _ _ _ _) rfl) rfl ?_
  refine run_op (loc_assign rfl) rfl ?_
  refine run_nil ?_
  refine run_seq ?_
  refine run_seq ?_
  refine run_region ?_
  refine run_op (loc_move rfl) rfl ?_
  refine run_op (loc_eql rfl rfl) rfl ?_
  refine run_op (loc_move rfl) rfl ?_
  refine run_gfirst rfl rfl (by first | exact guard_true _ | exact guard_false _ | exact guard_if (guard_true _) | exact guard_if (guard_false _)) (fun hg => loc_move rfl) rfl ?_
  refine run_gop rfl rfl (by first | exact guard_true _ | exact guard_false _ | exact guard_if (guard_true _) | exact guard_if (guard_false _)) (fun hg => loc_lss rfl rfl) rfl ?_
  refine run_gop rfl rfl (by first | exact guard_true _ | exact guard_false _ | exact guard_if (guard_true _) | exact guard_if (guard_false _)) (fun hg => loc_move rfl) rfl ?_
  refine run_gleave ?_
  refine run_gfirst rfl rfl (by first | exact guard_true _ | exact guard_false _ | exact guard_if (guard_true _) | exact guard_if (guard_false _)) (fun hg => loc_move rfl) rfl ?_
  refine run_gop rfl rfl (by first | exact guard_true _ | exact guard_false _ | exact guard_if (guard_true _) | exact guard_if (guard_false _)) (fun hg => loc_gtr rfl rfl) rfl ?_
  refine run_gleave ?_
  first | refine run_gfirst rfl rfl (by first | exact guard_true _ | exact guard_false _ | exact guard_if (guard_true _) | exact guard_if (guard_false _)) (fun hg => loc_or rfl rfl) rfl ?_ | refine run_gfirst rfl rfl (by first | exact guard_true _ | exact guard_false _ | exact guard_if (guard_true _) | exact guard_if (guard_false _)) (fun hg => loc_orG hg rfl rfl) rfl ?_ | refine run_gfirst rfl rfl (by first | exact guard_true _ | exact guard_false _ | exact guard_if (guard_true _) | exact guard_if (guard_false _)) (fun hg => loc_orH hg rfl rfl) rfl ?_
  refine run_gleave ?_
  refine run_op (loc_and rfl rfl) rfl ?_
  refine run_nil ?_
  refine run_cond rfl (fun h1 => ?_) (fun h1 => ?_)
  ·
    have c1 := h1
    refine run_seq ?_
    refine run_region ?_
    refine run_op (loc_assign rfl) rfl ?_
    refine run_nil ?_
    refine run_retP Try.func118 rfl rfl ?_
    exact d_int (by unfold codRE; rw [if_pos c1])
  ·
    have c1 := h1
    refine run_skip ?_
    refine run_seq ?_
    refine run_region ?_
    refine run_op (loc_move rfl) rfl ?_
    refine run_op (loc_assign rfl) rfl ?_
    refine run_nil ?_
    refine run_retP Try.func118 rfl rfl ?_
    exact d_int (by unfold codRE; rw [if_neg c1])

theorem glimits_spec (p s d g n : Int) : SpecP Try.prog 116 [dAgg [dInt .i64 p], dAgg [dInt .i64 s, dInt .i64 d, dInt .i64 g], dInt .i64 n] (dTup [dInts (limsG p s d g n), dInt .i64 (codRE p s d g n)]) := by
  refine specP_of_body Try.func116 rfl rfl (fun I M => ?_)
  refine run_seq ?_
  refine run_region ?_
  refine run_op (loc_boxN rfl) rfl ?_
  refine run_op (loc_boxN rfl) rfl ?_
  refine run_op (loc_assign rfl) rfl ?_
  refine run_op (loc_assign rfl) rfl ?_
  refine run_nil ?_
  refine run_seq ?_
  refine run_seq ?_
  refine run_region ?_
  refine run_op (loc_loadN rfl rfl) rfl ?_
  refine run_op (loc_loadN rfl rfl) rfl ?_
  refine run_op (loc_move rfl) rfl ?_
  refine run_op (loc_call (gcheckR_spec _ _ _ _ _) rfl) rfl ?_
  refine run_op (loc_assign rfl) rfl ?_
  refine run_nil ?_
  refine run_seq ?_
  refine run_region ?_
  refine run_op (loc_move rfl) rfl ?_
  refine run_op (loc_neq rfl rfl) rfl ?_
  refine run_nil ?_
  refine run_cond rfl (fun h1 => ?_) (fun h1 => ?_)
  ·
    have c1 := h1
    refine run_seq ?_
    refine run_region ?_
    refine run_op (loc_move rfl) rfl ?_
    refine run_op (loc_assign rfl) rfl ?_
    refine run_op (loc_assign rfl) rfl ?_
    refine run_nil ?_
    refine run_ret2P Try.func116 rfl rfl rfl ?_
    exact d_tup2 (d_toInts (by unfold limsG; rw [if_neg c1]) d_nil) (d_int rfl)
  ·
    have c1 := Classical.not_not.1 h1
    refine run_skip ?_
    refine run_seq ?_
    refine run_region ?_
    refine run_op (loc_assign rfl) rfl ?_
    refine run_nil ?_
    refine run_seq ?_
    refine run_seq ?_
    obtain ⟨hce, hn⟩ := codRE_zero c1
    obtain ⟨hp, hs, hsp, hd, hg, hgd⟩ := codE_zero hce
    have hm := mul_bd (a := n) (b := d) (A := 1024) (B := 10) (by omega) (by omega) (by omega) (by omega)
    refine run_region ?_
    refine run_op (loc_move rfl) rfl ?_
    refine run_op (loc_fieldAddr rfl) rfl ?_
    refine run_op (loc_load1 rfl) rfl ?_
    first | refine run_op (loc_mul rfl rfl (by first | omega | assumption)) rfl ?_ | refine run_op (loc_mulW rfl rfl) rfl ?_
    refine run_op (loc_move rfl) rfl ?_
    refine run_nil ?_
    refine run_block ?_
    refine run_rowNil 3 1 fI ?_
    refine run_loopF (σ := Value × Nat) (ks := [3, 20]) (.cons rfl (.cons rfl (.nil))) (fun q => [(9, dVal q.1), (21, dInt .i64 (q.2 : Nat))]) (fun q => [rRow q.1 3 1 fI (List.replicate q.2 p)]) (fun q => q.2 ≤ (n * d).toNat) (fun q => (n * d).toNat - q.2) ((.slice none 0 0, 0)) (Nat.zero_le _) (.cons rfl (by first | exact fun _ _ h => h | exact d_int (by omega) | exact d_int (by simp) | exact d_intN (by omega) | exact d_any) (.cons rfl (by first | exact fun _ _ h => h | exact d_int (by omega) | exact d_int (by simp) | exact d_intN (by omega) | exact d_any) .nil)) (rfl) ?_
    intro q hq ih2
    have hql : (List.replicate q.2 p).length = q.2 := List.length_replicate
    refine run_seq ?_
    refine run_region ?_
    refine run_op (loc_lss rfl rfl) rfl ?_
    refine run_nil ?_
    refine run_seq ?_
    refine run_cond rfl (fun h3 => ?_) (fun h3 => ?_)
    ·
      refine run_skip ?_
      refine run_seq ?_
      refine run_block ?_
      refine run_region ?_
      refine run_op (loc_move rfl) rfl ?_
      refine run_op (loc_fieldAddr rfl) rfl ?_
      refine run_op (loc_load1 rfl) rfl ?_
      refine run_op (loc_buildSlice rfl rfl (.one rfl (.nil)) rfl rfl) rfl ?_
      refine run_append1 rfl (.here) rfl (by rfl) (by rfl) (by first | omega | (unfold lenMax; omega) | assumption | (simp; omega) | (simp [lenMax]; omega)) (by first | omega | (unfold lenMax; omega) | assumption | (simp; omega) | (simp [lenMax]; omega)) rfl (fun v4 => ?_)
      refine run_op (loc_assign rfl) rfl ?_
      refine run_nil ?_
      refine run_inBlock ?_
      refine run_region ?_
      first | refine run_op (loc_add rfl rfl (by first | omega | assumption)) rfl ?_ | refine run_op (loc_addW rfl rfl) rfl ?_
      refine run_op (loc_move rfl) rfl ?_
      refine run_nil ?_
      exact run_againF ih2 ((v4, q.2 + 1)) (by simp only; omega) (by simp only; omega) (.cons rfl (by first | exact fun _ _ h => h | exact d_int (by omega) | exact d_int (by simp) | exact d_intN (by omega) | exact d_any) (.cons rfl (by first | exact fun _ _ h => h | exact d_int (by omega) | exact d_int (by simp) | exact d_intN (by omega) | exact d_any) .nil)) (.cons rfl (fun _ _ x => x) (.cons rfl (fun _ _ x => x) (.nil))) (by simp only [appR]; rw [rep_snoc])
    ·
      refine run_exit rfl ?_
      refine run_seq ?_
      refine run_freezeRow (s := 9) rfl (.here) ?_
      refine run_region ?_
      refine run_op (loc_move rfl) rfl ?_
      refine run_op (loc_assign rfl) rfl ?_
      refine run_op (loc_assign rfl) rfl ?_
      refine run_nil ?_
      refine run_ret2P Try.func116 rfl rfl rfl ?_
      exact d_tup2 (d_eq (by unfold limsG; rw [if_pos c1, show q.2 = (n * d).toNat by omega])) (d_int c1.symm)

theorem powerI_spec (p a g : Int) (h : 2 ≤ p ∧ p ≤ 65521) (ha : 0 ≤ a ∧ a ≤ 65521) (hg : 0 ≤ g ∧ g ≤ 65521) : SpecP Try.prog 85 [dInt .i64 p, dInt .i64 a, dInt .i64 g] (dInt .i64 (powM p a g.toNat)) := by
  have h1 := power_spec p a g.toNat h ha (by omega)
  rw [show ((g.toNat : Nat) : Int) = g by omega] at h1
  exact h1
theorem gqueriesM_spec (p s d g n group : Int) (t : Tape) : Spec Try.prog 117 [dAgg [dInt .i64 p], dAgg [dInt .i64 s, dInt .i64 d, dInt .i64 g], dInt .i64 n, dInt .i64 group, dTape t] [] (σ := Value) (fun _ => True) (fun v => dTup [dVal v, dTape (gqT p s d g n group t), dInt .i64 (gqE p s d g n group t)]) (fun v => [rRow v 40 1 fR (gqL p s d g n group t)]) := by
  refine spec_of_body Try.func117 rfl rfl (fun I F => ?_)
  refine run_seq ?_
  refine run_region ?_
  refine run_op (loc_boxN rfl) rfl ?_
  refine run_op (loc_boxN rfl) rfl ?_
  refine run_new (loc_boxOwnN rfl) rfl (fun b9 _ => ?_)
  refine run_op (loc_assign rfl) rfl ?_
  refine run_new (loc_allocOwn (by simp)) rfl (fun b11 _ => ?_)
  refine run_op (loc_assign rfl) rfl ?_
  refine run_nil ?_
  refine run_seq ?_
  refine run_seq ?_
  refine run_region ?_
  refine run_op (loc_loadN rfl rfl) rfl ?_
  refine run_op (loc_loadN rfl rfl) rfl ?_
  refine run_op (loc_move rfl) rfl ?_
  refine run_op (loc_call (gcheckR_spec _ _ _ _ _) rfl) rfl ?_
  refine run_op (loc_assign rfl) rfl ?_
  refine run_nil ?_
  refine run_seq ?_
  refine run_region ?_
  refine run_op (loc_move rfl) rfl ?_
  refine run_op (loc_neq rfl rfl) rfl ?_
  refine run_nil ?_
  refine run_cond rfl (fun h1 => ?_) (fun h1 => ?_)
  ·
    have c1 := h1
    refine run_seq ?_
    refine run_region ?_
    refine run_op (loc_build (.nil)) rfl ?_
    refine run_op (loc_move rfl) rfl ?_
    refine run_op (loc_assign rfl) rfl ?_
    refine run_storeN (ho := (by show OneAll [_, _]; infer_instance)) rfl rfl (.here) (by rfl) ?_
    refine run_op (loc_assign rfl) rfl ?_
    refine run_nil ?_
    have hE : gqE p s d g n group t = codRE p s d g n := by unfold gqE; rw [if_pos c1]
    refine run_retG (.slice none 0 0) Try.func117 rfl (.tmp rfl (.cellN rfl (by first | exact .here | exact .there .here | exact .there (.there .here) | exact .there (.there (.there .here)) | exact .there (.there (.there (.there .here))) | exact .there (.there (.there (.there (.there .here))))) (by rfl) (.tmp rfl (.nil)))) ?_ (trivial) (fun I w h => by rw [show gqL p s d g n group t = [] by unfold gqL; rw [if_neg (by rw [hE]; omega)]]; exact nil_ok ((fun _ _ h => h.sub (.cons _ (.cons _ (.refl _)))) I w h))
    exact d_tup3 (fun _ _ h => h) (d_toTape (by unfold gqT; rw [if_neg (by rw [hE]; omega)]) (d_aggU (.cons d_nil (.cons (d_int rfl) .nil)))) (d_int hE.symm)
  ·
    have c1 := Classical.not_not.1 h1
    refine run_skip ?_
    refine run_seq ?_
    refine run_seq ?_
    refine run_region ?_
    refine run_op (loc_move rfl) rfl ?_
    refine run_op (loc_lss rfl rfl) rfl ?_
    refine run_op (loc_move rfl) rfl ?_
    refine run_gfirst rfl rfl (by first | exact guard_true _ | exact guard_false _ | exact guard_if (guard_true _) | exact guard_if (guard_false _)) (fun hg => loc_move rfl) rfl ?_
    refine run_gop rfl rfl (by first | exact guard_true _ | exact guard_false _ | exact guard_if (guard_true _) | exact guard_if (guard_false _)) (fun hg => loc_move rfl) rfl ?_
    refine run_gop rfl rfl (by first | exact guard_true _ | exact guard_false _ | exact guard_if (guard_true _) | exact guard_if (guard_false _)) (fun hg => loc_geq rfl rfl) rfl ?_
    refine run_gleave ?_
    refine run_op (loc_or rfl rfl) rfl ?_
    refine run_nil ?_
    refine run_cond rfl (fun h2 => ?_) (fun h2 => ?_)
    ·
      have c2 := h2
      refine run_seq ?_
      refine run_region ?_
      refine run_op (loc_build (.nil)) rfl ?_
      refine run_op (loc_assign rfl) rfl ?_
      refine run_storeN (ho := (by show OneAll [_, _]; infer_instance)) rfl rfl (.here) (by rfl) ?_
      refine run_op (loc_assign rfl) rfl ?_
      refine run_nil ?_
      have hE : gqE p s d g n group t = 6 := by unfold gqE; rw [if_neg (Classical.not_not.2 c1), if_pos (by omega)]
      refine run_retG (.slice none 0 0) Try.func117 rfl (.tmp rfl (.cellN rfl (by first | exact .here | exact .there .here | exact .there (.there .here) | exact .there (.there (.there .here)) | exact .there (.there (.there (.there .here))) | exact .there (.there (.there (.there (.there .here))))) (by rfl) (.tmp rfl (.nil)))) ?_ (trivial) (fun I w h => by rw [show gqL p s d g n group t = [] by unfold gqL; rw [if_neg (by rw [hE]; omega)]]; exact nil_ok ((fun _ _ h => h.sub (.cons _ (.cons _ (.refl _)))) I w h))
      exact d_tup3 (fun _ _ h => h) (d_toTape (by unfold gqT; rw [if_neg (by rw [hE]; omega)]) (d_aggU (.cons d_nil (.cons (d_int rfl) .nil)))) (d_int hE.symm)
    ·
      have c2 := h2
      refine run_skip ?_
      refine run_seq ?_
      obtain ⟨hce, hn⟩ := codRE_zero c1
      obtain ⟨hp, hs, hsp, hd, hg, hgd⟩ := codE_zero hce
      have hpb := hp.1
      have hpb2 := hp.2.1
      have hm := mul_bd (a := n) (b := d) (A := 1024) (B := 10) (by omega) (by omega) (by omega) (by omega)
      refine run_region ?_
      refine run_op (loc_loadOwnN rfl (.there (.here)) (by rfl)) rfl ?_
      refine run_op (loc_fieldAddr rfl) rfl ?_
      refine run_op (loc_load1 rfl) rfl ?_
      refine run_op (loc_move rfl) rfl ?_
      refine run_op (loc_fieldAddr rfl) rfl ?_
      refine run_op (loc_load1 rfl) rfl ?_
      first | refine run_op (loc_mul rfl rfl (by first | omega | assumption)) rfl ?_ | refine run_op (loc_mulW rfl rfl) rfl ?_
      refine run_op (loc_call (draws_spec _ _ _) rfl) rfl ?_
      refine run_op (loc_move rfl) rfl ?_
      refine run_op (loc_extract rfl rfl) rfl ?_
      refine run_op (loc_extract rfl rfl) rfl ?_
      refine run_op (loc_extract rfl rfl) rfl ?_
      refine run_storeN (ho := (by show OneAll [_, _]; infer_instance)) rfl rfl (.there (.here)) (by rfl) ?_
      refine run_op (loc_assign rfl) rfl ?_
      refine run_op (loc_assign rfl) rfl ?_
      refine run_nil ?_
      have hE : gqE p s d g n group t = drawE t p (n * d) := by unfold gqE; rw [if_neg (Classical.not_not.2 c1), if_neg (by omega)]
      refine run_seq ?_
      refine run_seq ?_
      refine run_region ?_
      refine run_op (loc_move rfl) rfl ?_
      refine run_op (loc_neq rfl rfl) rfl ?_
      refine run_nil ?_
      refine run_cond rfl (fun h3 => ?_) (fun h3 => ?_)
      ·
        have c3 := h3
        refine run_seq ?_
        refine run_region ?_
        refine run_op (loc_build (.nil)) rfl ?_
        refine run_op (loc_move rfl) rfl ?_
        refine run_op (loc_assign rfl) rfl ?_
        refine run_storeN (ho := (by show OneAll [_, _]; infer_instance)) rfl rfl (.here) (by rfl) ?_
        refine run_op (loc_assign rfl) rfl ?_
        refine run_nil ?_
        skip
        refine run_retG (.slice none 0 0) Try.func117 rfl (.tmp rfl (.cellN rfl (by first | exact .here | exact .there .here | exact .there (.there .here) | exact .there (.there (.there .here)) | exact .there (.there (.there (.there .here))) | exact .there (.there (.there (.there (.there .here))))) (by rfl) (.tmp rfl (.nil)))) ?_ (trivial) (fun I w h => by rw [show gqL p s d g n group t = [] by unfold gqL; rw [if_neg (by rw [hE]; omega)]]; exact nil_ok ((fun _ _ h => h.sub (.cons _ (.cons _ (.refl _)))) I w h))
        exact d_tup3 (fun _ _ h => h) (d_toTape (by unfold gqT; rw [if_neg (by rw [hE]; omega)]) (d_aggU (.cons d_nil (.cons (d_int rfl) .nil)))) (d_int hE.symm)
      ·
        have c3 := Classical.not_not.1 h3
        refine run_skip ?_
        refine run_seq ?_
        have hdz := drawE_zero c3
        have hdl := hdz.2.2.2.2.1
        have hda := hdz.2.2.2.2.2
        refine run_region ?_
        refine run_op (loc_fieldAddr rfl) rfl ?_
        refine run_op (loc_load1 rfl) rfl ?_
        refine run_op (loc_assign rfl) rfl ?_
        refine run_nil ?_
        refine run_seq ?_
        refine run_region ?_
        refine run_op (loc_assign rfl) rfl ?_
        refine run_nil ?_
        refine run_seq ?_
        refine run_seq ?_
        refine run_region ?_
        refine run_op (loc_assign rfl) rfl ?_
        refine run_nil ?_
        refine run_block ?_
        refine run_rowNil 40 1 fR ?_
        refine run_loopF (σ := Value × Nat) (ks := [2, 3, 6, 9, 11, 14, 16]) (.cons rfl (.cons rfl (.cons rfl (.cons rfl (.cons rfl (.cons rfl (.cons rfl (.nil)))))))) (fun q => [(17, dVal q.1), (18, dInt .i64 ((q.2 : Int) + 1))]) (fun q => [rRow q.1 40 1 fR (gQs p d g group (drawL t p (n * d)) n.toNat q.2)]) (fun q => q.2 ≤ s.toNat) (fun q => s.toNat - q.2) ((.slice none 0 0, 0)) (Nat.zero_le _) (.cons rfl (by first | exact fun _ _ h => h | exact d_int (by omega) | exact d_int (by simp) | exact d_intN (by omega) | exact d_any) (.cons rfl (by first | exact fun _ _ h => h | exact d_int (by omega) | exact d_int (by simp) | exact d_intN (by omega) | exact d_any) .nil)) (rfl) ?_
        rintro q hq ih4
        have hql : (gQs p d g group (drawL t p (n * d)) n.toNat q.2).length = q.2 := by simp [gQs]
        refine run_seq ?_
        refine run_seq ?_
        refine run_region ?_
        refine run_op (loc_move rfl) rfl ?_
        refine run_op (loc_fieldAddr rfl) rfl ?_
        refine run_op (loc_load1 rfl) rfl ?_
        refine run_op (loc_leq rfl rfl) rfl ?_
        refine run_nil ?_
        refine run_cond rfl (fun h5 => ?_) (fun h5 => ?_)
        ·
          refine run_skip ?_
          refine run_seq ?_
          refine run_block ?_
          refine run_seq ?_
          refine run_region ?_
          refine run_op (loc_assign rfl) rfl ?_
          refine run_nil ?_
          refine run_seq ?_
          refine run_seq ?_
          refine run_region ?_
          refine run_op (loc_move rfl) rfl ?_
          refine run_op (loc_move rfl) rfl ?_
          refine run_nil ?_
          refine run_block ?_
          refine run_rowNil 3 1 fI ?_
          refine run_loopF (σ := Value × Nat) (ks := [2, 3, 6, 9, 11, 14, 16, 17, 18, 62]) (.cons rfl (.cons rfl (.cons rfl (.cons rfl (.cons rfl (.cons rfl (.cons rfl (.cons rfl (.cons rfl (.cons rfl (.nil))))))))))) (fun u => [(19, dVal u.1), (63, dInt .i64 (u.2 : Nat))]) (fun u => [rRow u.1 3 1 fI (gRow p d g group (drawL t p (n * d)) ((q.2 : Int) + 1) u.2)]) (fun u => u.2 ≤ n.toNat) (fun u => n.toNat - u.2) ((.slice none 0 0, 0)) (Nat.zero_le _) (.cons rfl (by first | exact fun _ _ h => h | exact d_int (by omega) | exact d_int (by simp) | exact d_intN (by omega) | exact d_any) (.cons rfl (by first | exact fun _ _ h => h | exact d_int (by omega) | exact d_int (by simp) | exact d_intN (by omega) | exact d_any) .nil)) (rfl) ?_
          rintro u hu ih6
          have hul : (gRow p d g group (drawL t p (n * d)) ((q.2 : Int) + 1) u.2).length = u.2 := by simp [gRow]
          refine run_seq ?_
          refine run_region ?_
          refine run_op (loc_lss rfl rfl) rfl ?_
          refine run_nil ?_
          refine run_seq ?_
          refine run_cond rfl (fun h7 => ?_) (fun h7 => ?_)
          ·
            refine run_skip ?_
            refine run_seq ?_
            refine run_block ?_
            refine run_seq ?_
            refine run_region ?_
            refine run_op (loc_move rfl) rfl ?_
            refine run_op (loc_assign rfl) rfl ?_
            refine run_nil ?_
            refine run_seq ?_
            have hqd := mul_bd (a := (u.2 : Int)) (b := d) (A := 1024) (B := 10) (by omega) (by omega) (by omega) (by omega)
            have hqd1 : ((u.2 : Int) + 1) * d = (u.2 : Int) * d + d := by rw [Int.add_mul, Int.one_mul]
            have hqd2 : ((u.2 : Int) + 1) * d ≤ n * d := Int.mul_le_mul_of_nonneg_right (by omega) (by omega)
            have hw1 := valP_bd (x := (q.2 : Int) + 1) (show 0 < p by omega) (((drawL t p (n * d)).take (((u.2 : Int) + 1) * d).toNat).drop ((u.2 : Int) * d).toNat)
            have hw2 : 0 ≤ powM p ((q.2 : Int) + 1) g.toNat ∧ powM p ((q.2 : Int) + 1) g.toNat < p := mod_bd _ (by omega)
            have hw3 := mod_bd (powM p ((q.2 : Int) + 1) g.toNat * valP p (((drawL t p (n * d)).take (((u.2 : Int) + 1) * d).toNat).drop ((u.2 : Int) * d).toNat) ((q.2 : Int) + 1)) (show 0 < p by omega)
            refine dr_start _ (.none) [⟨[(16, none)], [], none⟩,
                ⟨[(16, none)], [], none⟩,
                ⟨[(18, none)], [], none⟩,
                ⟨[(6, none)], [], none⟩,
                ⟨[(69, some (3, false))], [3], none⟩,
                ⟨[(67, some (1, false)), (68, some (2, false)), (70, some (4, false))], [1, 2, 3, 4], none⟩,
                ⟨[(16, none)], [], none⟩,
                ⟨[(14, none)], [], none⟩,
                ⟨[(20, none)], [], none⟩,
                ⟨[(6, none)], [], none⟩,
                ⟨[(75, some (9, false))], [9], none⟩,
                ⟨[(74, some (8, false)), (76, some (10, false))], [8, 9, 10], none⟩,
                ⟨[(20, none)], [], none⟩,
                ⟨[(78, some (12, false))], [12], none⟩,
                ⟨[(6, none)], [], none⟩,
                ⟨[(80, some (14, false))], [14], none⟩,
                ⟨[(79, some (13, false)), (81, some (15, false))], [12, 13, 14, 15], none⟩,
                ⟨[(73, some (7, false)), (77, some (11, false)), (82, some (16, false))], [7, 8, 9, 10, 11, 12, 13, 14, 15, 16], none⟩,
                ⟨[(18, none)], [], none⟩,
                ⟨[(72, some (6, false)), (83, some (17, false)), (84, some (18, false))], [1, 2, 3, 4, 5, 6, 7, 8, 9, 10, 11, 12, 13, 14, 15, 16, 17, 18], none⟩,
                ⟨[(66, some (0, false)), (71, some (5, false)), (85, some (19, false))], [0, 1, 2, 3, 4, 5, 6, 7, 8, 9, 10, 11, 12, 13, 14, 15, 16, 17, 18, 19], none⟩,
                ⟨[(86, some (20, false))], [0, 1, 2, 3, 4, 5, 6, 7, 8, 9, 10, 11, 12, 13, 14, 15, 16, 17, 18, 19, 20], none⟩] [] _ rfl rfl ?_
            refine dq_pure rfl (fun s => .g rfl (.nil)) (fun s hs _ => loc_move rfl) (by exact .nil) ?_
            refine dq_pure rfl (fun s => .g rfl (.nil)) (fun s hs _ => loc_move rfl) (by exact .nil) ?_
            refine dq_pure rfl (fun s => .g rfl (.nil)) (fun s hs _ => loc_move rfl) (by exact .nil) ?_
            refine dq_pure rfl (fun s => .g rfl (.nil)) (fun s hs _ => loc_fieldAddr rfl) (by exact .nil) ?_
            refine dq_pure rfl (fun s => .op rfl (.nil)) (fun s hs _ => loc_load1 rfl) (by exact .nil) ?_
            refine dq_pure rfl (fun s => .op rfl (.op rfl (.op rfl (.nil)))) (fun s hs _ => loc_call (powerI_spec _ _ _ ⟨hpb, hpb2⟩ ⟨by omega, by omega⟩ ⟨by omega, by omega⟩) rfl) (by exact .nil) ?_
            refine dq_pure rfl (fun s => .g rfl (.nil)) (fun s hs _ => loc_move rfl) (by exact .nil) ?_
            refine dq_pure rfl (fun s => .g rfl (.nil)) (fun s hs _ => loc_move rfl) (by exact .nil) ?_
            refine dq_pure rfl (fun s => .g rfl (.nil)) (fun s hs _ => loc_move rfl) (by exact .nil) ?_
            refine dq_pure rfl (fun s => .g rfl (.nil)) (fun s hs _ => loc_fieldAddr rfl) (by exact .nil) ?_
            refine dq_pure rfl (fun s => .op rfl (.nil)) (fun s hs _ => loc_load1 rfl) (by exact .nil) ?_
            first | refine dq_pure rfl (fun s => .op rfl (.op rfl (.nil))) (fun s hs _ => loc_mul rfl rfl (by first | omega | assumption)) (by exact .nil) ?_ | refine dq_pure rfl (fun s => .op rfl (.op rfl (.nil))) (fun s hs _ => loc_mulW rfl rfl) (by exact .nil) ?_
            refine dq_pure rfl (fun s => .g rfl (.nil)) (fun s hs _ => loc_move rfl) (by exact .nil) ?_
            first | refine dq_pure rfl (fun s => .op rfl (.nil)) (fun s hs _ => loc_add rfl rfl (by first | omega | assumption)) (by exact .nil) ?_ | refine dq_pure rfl (fun s => .op rfl (.nil)) (fun s hs _ => loc_addW rfl rfl) (by exact .nil) ?_
            refine dq_pure rfl (fun s => .g rfl (.nil)) (fun s hs _ => loc_fieldAddr rfl) (by exact .nil) ?_
            refine dq_pure rfl (fun s => .op rfl (.nil)) (fun s hs _ => loc_load1 rfl) (by exact .nil) ?_
            first | refine dq_pure rfl (fun s => .op rfl (.op rfl (.nil))) (fun s hs _ => loc_mul rfl rfl (by first | omega | assumption)) (by exact .nil) ?_ | refine dq_pure rfl (fun s => .op rfl (.op rfl (.nil))) (fun s hs _ => loc_mulW rfl rfl) (by exact .nil) ?_
            refine dq_pure rfl (fun s => .op rfl (.op rfl (.op rfl (.nil)))) (fun s hs _ => loc_slice rfl rfl rfl (by first | omega | assumption)) (by exact .nil) ?_
            refine dq_pure rfl (fun s => .g rfl (.nil)) (fun s hs _ => loc_move rfl) (by exact .nil) ?_
            refine dq_pure rfl (fun s => .op rfl (.op rfl (.op rfl (.nil)))) (fun s hs _ => loc_call (value_spec _ _ _ ⟨hpb, hpb2⟩ ⟨by omega, by omega⟩ (sl_all hda)) rfl) (by exact .nil) ?_
            refine dq_pure rfl (fun s => .op rfl (.op rfl (.op rfl (.nil)))) (fun s hs _ => loc_call (fmul_spec _ _ _ ⟨hpb, hpb2⟩ ⟨by omega, by omega⟩ ⟨by omega, by omega⟩) rfl) (by exact .nil) ?_
            refine dq_pure rfl (fun s => .op rfl (.nil)) (fun s hs _ => loc_assign rfl) (by exact .nil) ?_
            refine dq_end (rs := []) () rfl (fun _ => rfl) (.nil) rfl (fun _ _ => ?_)
            dsimp only [outG, outM, List.map, List.set, id]
            refine run_seq ?_
            refine run_seq ?_
            refine run_region ?_
            refine run_op (loc_move rfl) rfl ?_
            refine run_op (loc_move rfl) rfl ?_
            refine run_op (loc_eql rfl rfl) rfl ?_
            refine run_nil ?_
            refine run_joinC (σ := Unit) (ks := [2, 3, 6, 9, 11, 14, 16, 17, 18, 19, 62, 63]) (.cons rfl (.cons rfl (.cons rfl (.cons rfl (.cons rfl (.cons rfl (.cons rfl (.cons rfl (.cons rfl (.cons rfl (.cons rfl (.cons rfl (.nil))))))))))))) (fun _u => [(21, dInt .i64 (gV p d g group (drawL t p (n * d)) ((q.2 : Int) + 1) u.2))]) (fun _u => True) (fun j8 => ?_) ?_
            ·
              refine run_cond rfl (fun h9 => ?_) (fun h9 => ?_)
              ·
                refine run_region ?_
                refine run_op (loc_move rfl) rfl ?_
                refine run_op (loc_move rfl) rfl ?_
                refine run_op (loc_call (fadd_spec _ _ _ ⟨hpb, hpb2⟩ ⟨by omega, by omega⟩ ⟨by omega, by omega⟩) rfl) rfl ?_
                refine run_op (loc_assign rfl) rfl ?_
                refine run_nil ?_
                exact run_atC j8 (()) (trivial) (.cons rfl (d_int (by unfold gV; rw [if_pos (by omega)]; rfl)) .nil) (.cons rfl (fun _ _ x => x) (.cons rfl (fun _ _ x => x) (.cons rfl (fun _ _ x => x) (.cons rfl (fun _ _ x => x) (.cons rfl (fun _ _ x => x) (.cons rfl (fun _ _ x => x) (.cons rfl (fun _ _ x => x) (.cons rfl (fun _ _ x => x) (.cons rfl (fun _ _ x => x) (.cons rfl (fun _ _ x => x) (.cons rfl (fun _ _ x => x) (.cons rfl (fun _ _ x => x) (.nil)))))))))))))
              ·
                refine run_skip ?_
                exact run_atC j8 (()) (trivial) (.cons rfl (d_int (by unfold gV; rw [if_neg (by omega)]; rfl)) .nil) (.cons rfl (fun _ _ x => x) (.cons rfl (fun _ _ x => x) (.cons rfl (fun _ _ x => x) (.cons rfl (fun _ _ x => x) (.cons rfl (fun _ _ x => x) (.cons rfl (fun _ _ x => x) (.cons rfl (fun _ _ x => x) (.cons rfl (fun _ _ x => x) (.cons rfl (fun _ _ x => x) (.cons rfl (fun _ _ x => x) (.cons rfl (fun _ _ x => x) (.cons rfl (fun _ _ x => x) (.nil)))))))))))))
            intro _u _
            refine run_region ?_
            refine run_op (loc_move rfl) rfl ?_
            refine run_op (loc_move rfl) rfl ?_
            refine run_op (loc_buildSlice rfl rfl (.one rfl (.nil)) rfl rfl) rfl ?_
            refine run_append1 rfl (.here) rfl (by rfl) (by rfl) (by first | omega | (unfold lenMax; omega) | assumption | (simp; omega) | (simp [lenMax]; omega)) (by first | omega | (unfold lenMax; omega) | assumption | (simp; omega) | (simp [lenMax]; omega)) rfl (fun v10 => ?_)
            refine run_op (loc_assign rfl) rfl ?_
            refine run_nil ?_
            refine run_inBlock ?_
            refine run_region ?_
            first | refine run_op (loc_add rfl rfl (by first | omega | assumption)) rfl ?_ | refine run_op (loc_addW rfl rfl) rfl ?_
            refine run_op (loc_move rfl) rfl ?_
            refine run_nil ?_
            exact run_againF ih6 ((v10, u.2 + 1)) (by simp only; omega) (by simp only; omega) (.cons rfl (by first | exact fun _ _ h => h | exact d_int (by omega) | exact d_int (by simp) | exact d_intN (by omega) | exact d_any) (.cons rfl (by first | exact fun _ _ h => h | exact d_int (by omega) | exact d_int (by simp) | exact d_intN (by omega) | exact d_any) .nil)) (.cons rfl (fun _ _ x => x) (.cons rfl (fun _ _ x => x) (.cons rfl (fun _ _ x => x) (.cons rfl (fun _ _ x => x) (.cons rfl (fun _ _ x => x) (.cons rfl (fun _ _ x => x) (.cons rfl (fun _ _ x => x) (.cons rfl (fun _ _ x => x) (.cons rfl (fun _ _ x => x) (.cons rfl (fun _ _ x => x) (.nil))))))))))) (by simp only [appR]; rw [gRow_snoc])
          ·
            refine run_exit rfl ?_
            refine run_freezeRow (s := 19) rfl (.here) ?_
            refine run_region ?_
            refine run_op (loc_move rfl) rfl ?_
            refine run_op (loc_move rfl) rfl ?_
            refine run_op (loc_buildSlice rfl rfl (.one rfl (.nil)) rfl rfl) rfl ?_
            refine run_append1 rfl (.here) rfl (by rfl) (by rfl) (by first | omega | (unfold lenMax; omega) | assumption | (simp; omega) | (simp [lenMax]; omega)) (by first | omega | (unfold lenMax; omega) | assumption | (simp; omega) | (simp [lenMax]; omega)) rfl (fun v11 => ?_)
            refine run_op (loc_assign rfl) rfl ?_
            refine run_nil ?_
            refine run_inBlock ?_
            refine run_region ?_
            refine run_op (loc_move rfl) rfl ?_
            first | refine run_op (loc_add rfl rfl (by first | omega | assumption)) rfl ?_ | refine run_op (loc_addW rfl rfl) rfl ?_
            refine run_op (loc_assign rfl) rfl ?_
            refine run_nil ?_
            exact run_againF ih4 ((v11, q.2 + 1)) (by simp only; omega) (by simp only; omega) (.cons rfl (by first | exact fun _ _ h => h | exact d_int (by omega) | exact d_int (by simp) | exact d_intN (by omega) | exact d_any) (.cons rfl (by first | exact fun _ _ h => h | exact d_int (by omega) | exact d_int (by simp) | exact d_intN (by omega) | exact d_any) .nil)) (.cons rfl (fun _ _ x => x) (.cons rfl (fun _ _ x => x) (.cons rfl (fun _ _ x => x) (.cons rfl (fun _ _ x => x) (.cons rfl (fun _ _ x => x) (.cons rfl (fun _ _ x => x) (.cons rfl (fun _ _ x => x) (.nil)))))))) (by simp only [appR]; rw [gQs_snoc, show n.toNat = u.2 by omega])
        ·
          refine run_exit rfl ?_
          refine run_seq ?_
          refine dr_start _ (.none) [⟨[(17, none)], [], none⟩,
              ⟨[(9, none)], [], some (2, 0, false)⟩,
              ⟨[(102, some (0, false))], [0], none⟩,
              ⟨[(11, none), (103, some (1, false))], [0, 1, 2], some (1, 0, true)⟩,
              ⟨[], [0, 1, 2, 3], none⟩] [_, _, _] _ rfl rfl ?_
          refine dq_pure rfl (fun s => .g rfl (.nil)) (fun s hs _ => loc_move rfl) (by exact .nil) ?_
          refine dq_read rfl (fun s => .g rfl (.nil)) rfl rfl (fun s hs _ hm => loc_loadOwnN rfl hm (by rfl)) (by exact .nil) ?_
          refine dq_pure rfl (fun s => .op rfl (.nil)) (fun s hs _ => loc_assign rfl) (by exact .nil) ?_
          refine dq_write0 rfl (fun s => .g rfl (.op rfl (.nil))) rfl rfl (fun s hs => loc_storeN (ho := (by show OneAll [_, _]; infer_instance)) rfl rfl rfl) (by exact .nil) ?_
          refine dq_pure rfl (fun s => .nil) (fun s hs _ => loc_assign rfl) (by exact .nil) ?_
          refine dq_end (rs := [_, _, _]) () rfl (fun _ => rfl) (.nil) rfl (fun _ _ => ?_)
          dsimp only [outG, outM, List.map, List.set, id]
          refine run_retG (q.1) Try.func117 rfl (.tmp rfl (.cellN rfl (by first | exact .here | exact .there .here | exact .there (.there .here) | exact .there (.there (.there .here)) | exact .there (.there (.there (.there .here))) | exact .there (.there (.there (.there (.there .here))))) (by rfl) (.tmp rfl (.nil)))) ?_ (trivial) (fun I w h => by rw [show gqL p s d g n group t = gQs p d g group (drawL t p (n * d)) n.toNat q.2 by unfold gqL; rw [if_pos (hE.trans c3), show s.toNat = q.2 by omega]]; exact (fun _ _ h => h.sub (.cons_cons _ (.cons _ (.cons _ (.refl _))))) I w h)
          exact d_tup3 (fun _ _ h => h) (d_toTape (by unfold gqT; rw [if_pos (hE.trans c3)]) (fun _ _ h => h)) (d_int (hE.trans c3).symm)

theorem gqueries_spec (p s d g n group : Int) (t : Tape) : SpecP Try.prog 117 [dAgg [dInt .i64 p], dAgg [dInt .i64 s, dInt .i64 d, dInt .i64 g], dInt .i64 n, dInt .i64 group, dTape t] (dTup [dRows (gqL p s d g n group t), dTape (gqT p s d g n group t), dInt .i64 (gqE p s d g n group t)]) := spec_freeze3 (gqueriesM_spec p s d g n group t)
end Go.Q
