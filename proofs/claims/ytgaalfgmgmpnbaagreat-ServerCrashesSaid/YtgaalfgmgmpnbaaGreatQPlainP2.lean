/- Contracts of what servers hold, and of tables. -/
import Derived.Test.YtgaalfgmgmpnbaaGreatQCoded
import Derived.Test.YtgaalfgmgmpnbaaGreatQOwn5
import Derived.MapKept
set_option linter.unusedVariables false
set_option linter.unusedSimpArgs false
namespace Go.Q
open Go.Proofs

open Classical
theorem groups1_iter (rows : List (List Int)) (g : Int) (hg : 1 ≤ g ∧ g ≤ 100) (hl : rows.length ≤ 1024) : ∀ (I : Imm) (lb : List Value), relL [dBox [dInt .i64 g], dBox [dRows rows]] I lb → IterOk Tryz.prog 176 lb (α := Nat × List (List Int)) (fun q => [dInt .i64 (q.1 : Nat), dRows q.2]) (grpL rows g.toNat) ([]) I := by
  refine iter_of_body Tryz.func176 rfl rfl (fun l σ φ Mo F s0 I h0 hy => ?_)
  refine run_seq ?_
  refine run_region ?_
  refine run_op (loc_assign rfl) rfl ?_
  refine run_nil ?_
  refine run_block ?_
  refine run_loopE (σ := Nat × σ) (ks := [0, 1, 2]) (.cons rfl (.cons rfl (.cons rfl (.nil)))) (fun t => [(4, dInt .i64 (t.1 : Nat))]) (fun t => Mo t.1 t.2 ++ F) (fun t => t.1 ≤ grpN rows.length g.toNat ∧ φ t.1 t.2) (fun t => rows.length - t.1) ((0, s0)) (⟨Nat.zero_le _, h0⟩) (.cons rfl (by first | exact fun _ _ h => h | exact d_int (by omega) | exact d_int (by simp) | exact d_intN (by omega) | exact d_any) .nil) (rfl) ?_
  rintro t ⟨hi, hs⟩ ih1
  have hgn : grpN rows.length g.toNat ≤ rows.length := by by_cases h : grpN rows.length g.toNat ≤ rows.length; (· exact h); (· exfalso; have := (grpN_lt (n := rows.length) (g := g.toNat) (i := rows.length) (by omega)).1 (by omega); have := Nat.le_mul_of_pos_right rows.length (show 0 < g.toNat by omega); omega)
  have hm := mul_bd (a := (t.1 : Int)) (b := g) (A := 1024) (B := 100) (by omega) (by omega) (by omega) (by omega)
  have hmn : ((t.1 * g.toNat : Nat) : Int) = (t.1 : Int) * g := by rw [Int.natCast_mul, show ((g.toNat : Nat) : Int) = g by omega]
  have hm1 : ((t.1 : Int) + 1) * g = (t.1 : Int) * g + g := by rw [Int.add_mul, Int.one_mul]
  refine run_seq ?_
  refine run_seq ?_
  refine run_region ?_
  refine run_op (loc_move rfl) rfl ?_
  refine run_op (loc_load1 rfl) rfl ?_
  first | refine run_op (loc_mul rfl rfl (by first | omega | assumption | (refine ⟨?_, ?_⟩ <;> omega))) rfl ?_ | refine run_op (loc_mulW rfl rfl) rfl ?_
  refine run_op (loc_load1 rfl) rfl ?_
  first | refine runL_fact (s := 8) rfl (fun _ _ h => dSl_len h) (fun hlen2 => ?_) | skip
  refine run_op (loc_len rfl) rfl ?_
  refine run_op (loc_lss rfl rfl) rfl ?_
  refine run_nil ?_
  refine run_cond rfl (fun h3 => ?_) (fun h3 => ?_)
  ·
    have hlt := (grpN_lt (n := rows.length) (g := g.toNat) (i := t.1) (by omega)).2 (by omega)
    have hlo : ((t.1 : Int) * g).toNat = t.1 * g.toNat := by omega
    have hmin : (min (((t.1 : Int) + 1) * g) (rows.length : Int)).toNat = min ((t.1 + 1) * g.toNat) rows.length := by rw [Nat.add_mul, Nat.one_mul]; omega
    refine run_skip ?_
    refine run_seq ?_
    refine run_block ?_
    refine run_seq ?_
    refine run_region ?_
    refine run_op (loc_move rfl) rfl ?_
    refine run_op (loc_move rfl) rfl ?_
    refine run_op (loc_load1 rfl) rfl ?_
    refine run_op (loc_move rfl) rfl ?_
    refine run_op (loc_load1 rfl) rfl ?_
    first | refine run_op (loc_mul rfl rfl (by first | omega | assumption | (refine ⟨?_, ?_⟩ <;> omega))) rfl ?_ | refine run_op (loc_mulW rfl rfl) rfl ?_
    refine run_op (loc_move rfl) rfl ?_
    first | refine run_op (loc_add rfl rfl (by first | omega | assumption | (refine ⟨?_, ?_⟩ <;> omega))) rfl ?_ | refine run_op (loc_addW rfl rfl) rfl ?_
    refine run_op (loc_load1 rfl) rfl ?_
    first | refine run_op (loc_mul rfl rfl (by first | omega | assumption | (refine ⟨?_, ?_⟩ <;> omega))) rfl ?_ | refine run_op (loc_mulW rfl rfl) rfl ?_
    refine run_op (loc_load1 rfl) rfl ?_
    first | refine runL_fact (s := 23) rfl (fun _ _ h => dSl_len h) (fun hlen4 => ?_) | skip
    refine run_op (loc_len rfl) rfl ?_
    refine run_op (loc_min rfl rfl) rfl ?_
    refine run_op (loc_slice rfl rfl rfl (by first | omega | assumption | (refine ⟨?_, ?_⟩ <;> omega))) rfl ?_
    refine run_yieldOp hy (i := t.1) (x := (t.1, (rows.take (min ((t.1 + 1) * g.toNat) rows.length)).drop (t.1 * g.toNat))) (s := t.2) rfl rfl rfl (grpL_get (by omega) (by omega)) hs rfl (fun I us hr => by match us, hr with | [u1, u2], hr => exact ⟨hr.1, d_toRows (by rw [hlo, hmin]) (fun _ _ h => h) _ _ hr.2.1, trivial⟩) (fun s9 hs9 => ?_)
    refine run_op (loc_not rfl) rfl ?_
    refine run_nil ?_
    refine run_cond rfl (fun h5 => ?_) (fun h5 => ?_)
    · exfalso; simp at h5
    ·
      refine run_skip ?_
      refine run_inBlock ?_
      refine run_region ?_
      refine run_op (loc_move rfl) rfl ?_
      first | refine run_op (loc_add rfl rfl (by first | omega | assumption | (refine ⟨?_, ?_⟩ <;> omega))) rfl ?_ | refine run_op (loc_addW rfl rfl) rfl ?_
      refine run_op (loc_assign rfl) rfl ?_
      refine run_nil ?_
      exact run_againE ih1 ((t.1 + 1, s9)) (⟨by simp only; omega, hs9⟩) (by simp only; omega) (.cons rfl (by first | exact fun _ _ h => h | exact d_int (by omega) | exact d_int (by simp) | exact d_intN (by omega) | exact d_any) .nil) (.cons rfl (fun _ _ x => x) (.cons rfl (fun _ _ x => x) (.cons rfl (fun _ _ x => x) (.nil)))) (rfl)
  ·
    have hnl : ¬ t.1 < grpN rows.length g.toNat := fun h => by have := (grpN_lt (n := rows.length) (g := g.toNat) (i := t.1) (by omega)).1 h; omega
    refine run_exit rfl ?_
    refine run_ret0End (t.2) Tryz.func176 rfl  ?_ (by rw [grpL_len, show grpN rows.length g.toNat = t.1 by omega]; exact hs) (fun _ _ h => by rw [grpL_len, show grpN rows.length g.toNat = t.1 by omega]; exact h)
    exact fun _ _ _ => trivial

theorem groups_spec (rows : List (List Int)) (g : Int) (hg : 1 ≤ g ∧ g ≤ 100) (hl : rows.length ≤ 1024) : SpecP Tryz.prog 147 [dRows rows, dInt .i64 g] (dSeq Tryz.prog (fun q : Nat × List (List Int) => [dInt .i64 (q.1 : Nat), dRows q.2]) (grpL rows g.toNat)) := by
  refine specP_of_body Tryz.func147 rfl rfl (fun I M => ?_)
  refine run_seq ?_
  refine run_region ?_
  refine run_op (loc_box1 rfl) rfl ?_
  refine run_op (loc_box1 rfl) rfl ?_
  refine run_op (loc_assign rfl) rfl ?_
  refine run_nil ?_
  refine run_seq ?_
  refine run_region ?_
  refine run_op (loc_makeFunc rfl) rfl ?_
  refine run_op (loc_assign rfl) rfl ?_
  refine run_nil ?_
  refine run_retP Tryz.func147 rfl rfl ?_
  exact clo_seq (groups1_iter rows g hg hl)

theorem holdM_spec (p s d g wd j : Int) (rows : List (List Int)) : Spec Tryz.prog 109 [dAgg [dInt .i64 p], dAgg [dInt .i64 s, dInt .i64 d, dInt .i64 g], dInt .i64 wd, dRows rows, dInt .i64 j] [] (σ := Value) (fun _ => True) (fun v => dTup [dVal v, dInt .i64 (holdE p s d g wd rows j)]) (fun v => [rRow v 44 1 fR (holdG p s d g wd rows j)]) := by
  refine spec_of_body Tryz.func109 rfl rfl (fun I F => ?_)
  refine run_seq ?_
  refine run_region ?_
  refine run_op (loc_boxN rfl) rfl ?_
  refine run_op (loc_boxN rfl) rfl ?_
  refine run_op (loc_box1 rfl) rfl ?_
  refine run_op (loc_box1 rfl) rfl ?_
  refine run_op (loc_assign rfl) rfl ?_
  refine run_op (loc_assign rfl) rfl ?_
  refine run_nil ?_
  refine run_seq ?_
  refine run_seq ?_
  refine run_region ?_
  refine run_op (loc_loadN rfl rfl) rfl ?_
  refine run_op (loc_loadN rfl rfl) rfl ?_
  refine run_op (loc_call (gcheck_spec _ _ _ _) rfl) rfl ?_
  refine run_op (loc_assign rfl) rfl ?_
  refine run_nil ?_
  refine run_seq ?_
  refine run_region ?_
  refine run_op (loc_move rfl) rfl ?_
  refine run_op (loc_neq rfl rfl) rfl ?_
  refine run_nil ?_
  refine run_cond rfl (fun h1 => ?_) (fun h1 => ?_)
  ·
    have c1 := h1
    refine run_seq ?_
    refine run_region ?_
    refine run_op (loc_move rfl) rfl ?_
    refine run_op (loc_assign rfl) rfl ?_
    refine run_op (loc_assign rfl) rfl ?_
    refine run_nil ?_
    have hE : holdE p s d g wd rows j = codE p s d g := by unfold holdE; rw [if_pos c1]
    refine run_ret2 (.slice none 0 0) Tryz.func109 rfl rfl rfl ?_ (trivial) (fun I w h => by rw [show holdG p s d g wd rows j = [] by unfold holdG; rw [if_neg (by rw [hE]; omega)]]; exact nil_ok ((fun _ _ h => h.sub (.refl _)) I w h))
    exact d_tup2 (fun _ _ h => h) (d_int hE.symm)
  ·
    have c1 := Classical.not_not.1 h1
    refine run_skip ?_
    refine run_seq ?_
    refine run_seq ?_
    refine run_region ?_
    refine run_op (loc_load1 rfl) rfl ?_
    refine run_op (loc_lss rfl rfl) rfl ?_
    refine run_op (loc_move rfl) rfl ?_
    refine run_gfirst rfl rfl (by first | exact guard_true _ | exact guard_false _ | exact guard_if (guard_true _) | exact guard_if (guard_false _)) (fun hg => loc_load1 rfl) rfl ?_
    refine run_gop rfl rfl (by first | exact guard_true _ | exact guard_false _ | exact guard_if (guard_true _) | exact guard_if (guard_false _)) (fun hg => loc_fieldAddr rfl) rfl ?_
    refine run_gop rfl rfl (by first | exact guard_true _ | exact guard_false _ | exact guard_if (guard_true _) | exact guard_if (guard_false _)) (fun hg => loc_load1 rfl) rfl ?_
    refine run_gop rfl rfl (by first | exact guard_true _ | exact guard_false _ | exact guard_if (guard_true _) | exact guard_if (guard_false _)) (fun hg => loc_gtr rfl rfl) rfl ?_
    refine run_gleave ?_
    refine run_op (loc_or rfl rfl) rfl ?_
    refine run_nil ?_
    refine run_cond rfl (fun h2 => ?_) (fun h2 => ?_)
    ·
      have c2 := h2
      refine run_seq ?_
      refine run_region ?_
      refine run_op (loc_assign rfl) rfl ?_
      refine run_op (loc_assign rfl) rfl ?_
      refine run_nil ?_
      have hE : holdE p s d g wd rows j = 1 := by unfold holdE; rw [if_neg (Classical.not_not.2 c1), if_pos (by omega)]
      refine run_ret2 (.slice none 0 0) Tryz.func109 rfl rfl rfl ?_ (trivial) (fun I w h => by rw [show holdG p s d g wd rows j = [] by unfold holdG; rw [if_neg (by rw [hE]; omega)]]; exact nil_ok ((fun _ _ h => h.sub (.refl _)) I w h))
      exact d_tup2 (fun _ _ h => h) (d_int hE.symm)
    ·
      have c2 := h2
      refine run_skip ?_
      refine run_seq ?_
      refine run_seq ?_
      refine run_region ?_
      refine run_op (loc_load1 rfl) rfl ?_
      refine run_op (loc_call (wide_spec _) rfl) rfl ?_
      refine run_op (loc_not rfl) rfl ?_
      refine run_op (loc_move rfl) rfl ?_
      refine run_gfirst rfl rfl (by first | exact guard_true _ | exact guard_false _ | exact guard_if (guard_true _) | exact guard_if (guard_false _)) (fun hg => loc_move rfl) rfl ?_
      refine run_gop rfl rfl (by first | exact guard_true _ | exact guard_false _ | exact guard_if (guard_true _) | exact guard_if (guard_false _)) (fun hg => loc_len rfl) rfl ?_
      refine run_gop rfl rfl (by first | exact guard_true _ | exact guard_false _ | exact guard_if (guard_true _) | exact guard_if (guard_false _)) (fun hg => loc_gtr rfl rfl) rfl ?_
      refine run_gleave ?_
      refine run_op (loc_or rfl rfl) rfl ?_
      refine run_nil ?_
      refine run_cond rfl (fun h3 => ?_) (fun h3 => ?_)
      ·
        have c3 := h3
        refine run_seq ?_
        refine run_region ?_
        refine run_op (loc_assign rfl) rfl ?_
        refine run_op (loc_assign rfl) rfl ?_
        refine run_nil ?_
        have hE : holdE p s d g wd rows j = 4 := by unfold holdE; rw [if_neg (Classical.not_not.2 c1), if_neg (by omega), if_pos (by omega)]
        refine run_ret2 (.slice none 0 0) Tryz.func109 rfl rfl rfl ?_ (trivial) (fun I w h => by rw [show holdG p s d g wd rows j = [] by unfold holdG; rw [if_neg (by rw [hE]; omega)]]; exact nil_ok ((fun _ _ h => h.sub (.refl _)) I w h))
        exact d_tup2 (fun _ _ h => h) (d_int hE.symm)
      ·
        have c3 := h3
        refine run_skip ?_
        refine run_seq ?_
        obtain ⟨hp, hs, hsp, hd, hg, hgd⟩ := codE_zero c1
        have hpb := hp.1
        have hpb2 := hp.2.1
        have hof : okP p := hp
        refine run_region ?_
        refine run_op (loc_fieldAddr rfl) rfl ?_
        refine run_op (loc_load1 rfl) rfl ?_
        refine run_new (loc_allocOwn (by simp)) rfl (fun b4 _ => ?_)
        refine run_store1 rfl rfl (.here) (by rfl) ?_
        refine run_nil ?_
        refine run_seq ?_
        refine run_seq ?_
        refine run_region ?_
        refine run_op (loc_move rfl) rfl ?_
        first | refine runL_fact (s := 46) rfl (fun _ _ h => dSl_len h) (fun hlen5 => ?_) | skip
        refine run_op (loc_len rfl) rfl ?_
        refine run_op (loc_move rfl) rfl ?_
        refine run_nil ?_
        refine run_block ?_
        refine run_loopC (σ := Nat) (ks := [3, 6, 7, 9, 13, 46, 47]) (.cons rfl (.cons rfl (.cons rfl (.cons rfl (.cons rfl (.cons rfl (.cons rfl (.nil)))))))) (fun k => [(48, dInt .i64 (k : Nat))]) (fun k => k ≤ rows.length ∧ (∀ i, i < k → rowErr p wd (rows[i]?.getD default) = 0)) (fun k => rows.length - k) (0) (⟨by omega, fun i hi => by omega⟩) (.cons rfl (by first | exact fun _ _ h => h | exact d_int (by omega) | exact d_int (by simp) | exact d_intN (by omega) | exact d_any) .nil) ?_
        rintro k ⟨hk, hbk⟩ ih6
        refine run_seq ?_
        refine run_region ?_
        refine run_op (loc_lss rfl rfl) rfl ?_
        refine run_nil ?_
        refine run_seq ?_
        refine run_cond rfl (fun h7 => ?_) (fun h7 => ?_)
        ·
          refine run_skip ?_
          refine run_seq ?_
          refine run_block ?_
          refine run_seq ?_
          refine run_region ?_
          first | refine run_op (loc_index rfl rfl (by first | omega | assumption)) rfl ?_ | refine run_op (loc_indexI rfl rfl (by first | omega | assumption)) rfl ?_
          refine run_op (loc_load1 rfl) rfl ?_
          refine run_op (loc_assign rfl) rfl ?_
          refine run_nil ?_
          refine run_seq ?_
          refine run_seq ?_
          refine run_region ?_
          refine run_op (loc_move rfl) rfl ?_
          first | refine runL_fact (s := 52) rfl (fun _ _ h => dSl_len h) (fun hlen8 => ?_) | skip
          refine run_op (loc_len rfl) rfl ?_
          refine run_op (loc_load1 rfl) rfl ?_
          refine run_op (loc_neq rfl rfl) rfl ?_
          refine run_nil ?_
          refine run_cond rfl (fun h9 => ?_) (fun h9 => ?_)
          ·
            refine run_seq ?_
            refine run_region ?_
            refine run_op (loc_assign rfl) rfl ?_
            refine run_op (loc_assign rfl) rfl ?_
            refine run_nil ?_
            have hE : holdE p s d g wd rows j = 2 := by unfold holdE; rw [if_neg (Classical.not_not.2 c1), if_neg (by omega), if_neg (by omega), firstErr_at (i := k) (by omega) hbk (by unfold rowErr; rw [if_pos (by omega)]; omega), rowErr, if_pos (by omega)]
            refine run_ret2 (.slice none 0 0) Tryz.func109 rfl rfl rfl ?_ (trivial) (fun I w h => by rw [show holdG p s d g wd rows j = [] by unfold holdG; rw [if_neg (by rw [hE]; omega)]]; exact nil_ok ((fun _ _ h => h.sub (.cons _ (.refl _))) I w h))
            exact d_tup2 (fun _ _ h => h) (d_int hE.symm)
          ·
            refine run_skip ?_
            refine run_seq ?_
            refine run_region ?_
            refine run_op (loc_loadOwn1 rfl (.here) (by rfl)) rfl ?_
            refine run_op (loc_move rfl) rfl ?_
            refine run_op (loc_call (all_spec _ _) rfl) rfl ?_
            refine run_op (loc_not rfl) rfl ?_
            refine run_nil ?_
            refine run_cond rfl (fun h10 => ?_) (fun h10 => ?_)
            ·
              have r9 : ¬ allP p (rows[k]?.getD default) := h10
              refine run_seq ?_
              refine run_region ?_
              refine run_op (loc_assign rfl) rfl ?_
              refine run_op (loc_assign rfl) rfl ?_
              refine run_nil ?_
              have hE : holdE p s d g wd rows j = 9 := by unfold holdE; rw [if_neg (Classical.not_not.2 c1), if_neg (by omega), if_neg (by omega), firstErr_at (i := k) (by omega) hbk (by unfold rowErr; rw [if_neg (by omega), if_pos r9]; omega), rowErr, if_neg (by omega), if_pos r9]
              refine run_ret2 (.slice none 0 0) Tryz.func109 rfl rfl rfl ?_ (trivial) (fun I w h => by rw [show holdG p s d g wd rows j = [] by unfold holdG; rw [if_neg (by rw [hE]; omega)]]; exact nil_ok ((fun _ _ h => h.sub (.cons _ (.refl _))) I w h))
              exact d_tup2 (fun _ _ h => h) (d_int hE.symm)
            ·
              have r9 : allP p (rows[k]?.getD default) := Classical.not_not.1 h10
              refine run_skip ?_
              refine run_inBlock ?_
              refine run_region ?_
              first | refine run_op (loc_add rfl rfl (by first | omega | assumption)) rfl ?_ | refine run_op (loc_addW rfl rfl) rfl ?_
              refine run_op (loc_move rfl) rfl ?_
              refine run_nil ?_
              exact run_againC ih6 (k + 1) (⟨by omega, fun i hi => by by_cases e : i = k; (· subst e; unfold rowErr; rw [if_neg (by omega), if_neg (Classical.not_not.2 r9)]); (· exact hbk i (by omega))⟩) (by omega) (.cons rfl (by first | exact fun _ _ h => h | exact d_int (by omega) | exact d_int (by simp) | exact d_intN (by omega) | exact d_any) .nil) (.cons rfl (fun _ _ x => x) (.cons rfl (fun _ _ x => x) (.cons rfl (fun _ _ x => x) (.cons rfl (fun _ _ x => x) (.cons rfl (fun _ _ x => x) (.cons rfl (fun _ _ x => x) (.cons rfl (fun _ _ x => x) (.nil))))))))
        ·
          refine run_exit rfl ?_
          refine run_seq ?_
          refine run_freezeCells (s := 13) rfl (.here) ?_
          have hE : holdE p s d g wd rows j = 0 := by unfold holdE; rw [if_neg (Classical.not_not.2 c1), if_neg (by omega), if_neg (by omega), firstErr_none' (fun i hi => hbk i (by omega))]
          have hall : ∀ r ∈ rows, (r.length : Int) = wd ∧ ∀ x ∈ r, hasP p x := by
            intro r hr
            obtain ⟨i, hi⟩ := List.getElem?_of_mem hr
            have h1 := hbk i (by have := (List.getElem?_eq_some_iff.1 hi).1; omega)
            rw [hi] at h1
            exact rowErr_ok h1
          refine run_region ?_
          refine run_new (loc_allocOwn (by simp)) rfl (fun b16 _ => ?_)
          refine run_nil ?_
          refine run_seq ?_
          refine run_seq ?_
          refine run_region ?_
          refine run_op (loc_move rfl) rfl ?_
          refine run_op (loc_fieldAddr rfl) rfl ?_
          refine run_op (loc_load1 rfl) rfl ?_
          refine run_op (loc_call (groups_spec _ _ ⟨by omega, by omega⟩ (by omega)) rfl) rfl ?_
          refine run_nil ?_
          refine run_block ?_
          refine run_rowNil 44 1 fR ?_
          refine run_cellsUp (kk := 0) (b := b16) (dVal (.slice none 0 0)) (dSlV (.slice none 0 0)) (.there (.here)) rfl (fun J u h => ⟨h, _, _, _, h⟩) ?_
          refine run_front (.here) ?_
          refine run_front (.there (.here)) ?_
          refine run_rangeFunc (σ := Value) (ps := [65, 66]) (fun i v0 => True) (fun i v0 => [rCells b16 30 [dSlV v0], rRow v0 44 1 fR (((grpL rows g.toNat).take i).map fun q => heldG p j wd.toNat q.2)]) (.slice none 0 0) rfl rfl rfl (fun _ => rfl) rfl (trivial) rfl (fun i x1 v0 l1 r1 F1 J hx1 hφ => ?_) (fun D v0 hφ => ?_)
          ·
            dsimp only [setP]
            have hmem := List.mem_of_getElem? hx1
            have hii := (List.getElem?_eq_some_iff.1 hx1).1
            obtain ⟨hgm, hgl⟩ := grpL_mem hmem
            have hml : (((grpL rows g.toNat).take i).map fun q => heldG p j wd.toNat q.2).length = i := by rw [List.length_map, List.length_take]; omega
            rw [grpL_len] at hii
            have hgn : grpN rows.length g.toNat ≤ rows.length := by by_cases h : grpN rows.length g.toNat ≤ rows.length; (· exact h); (· exfalso; have := (grpN_lt (n := rows.length) (g := g.toNat) (i := rows.length) (by omega)).1 (by omega); have := Nat.le_mul_of_pos_right rows.length (show 0 < g.toNat by omega); omega)
            refine run_region ?_
            refine run_op (loc_assign rfl) rfl ?_
            refine run_nil ?_
            refine run_beginR (.here) ?_
            refine run_block ?_
            refine run_seq ?_
            refine run_region ?_
            refine run_op (loc_load1 rfl) rfl ?_
            refine run_new (loc_makeSlice rfl rfl (by first | omega | assumption) (by first | omega | assumption) _ _ rfl (by simp)) rfl (fun b68 _ => ?_)
            refine run_op (loc_assign rfl) rfl ?_
            refine run_nil ?_
            refine run_seq ?_
            refine run_seq ?_
            refine run_region ?_
            refine run_op (loc_move rfl) rfl ?_
            first | refine runL_fact (s := 69) rfl (fun _ _ h => dSl_len h) (fun hlen12 => ?_) | skip
            refine run_op (loc_len rfl) rfl ?_
            refine run_op (loc_move rfl) rfl ?_
            refine run_nil ?_
            refine run_block ?_
            refine run_loopF (σ := Nat) (ks := [9, 13, 16, 19, 69, 70]) (.cons rfl (.cons rfl (.cons rfl (.cons rfl (.cons rfl (.cons rfl (.nil))))))) (fun k => [(71, dInt .i64 (k : Nat))]) (fun k => [rRow (.slice (some ⟨b68, 0, none⟩) wd.toNat wd.toNat) 3 1 fI (heldN p j wd.toNat x1.2 k)]) (fun k => k ≤ x1.2.length) (fun k => x1.2.length - k) (0) (Nat.zero_le _) (.cons rfl (by first | exact fun _ _ h => h | exact d_int (by omega) | exact d_int (by simp) | exact d_intN (by omega) | exact d_any) .nil) (rfl) ?_
            intro k hk ih13
            have hho := heldN_ok hpb j wd.toNat x1.2 k
            have hpw : 0 ≤ powM p j k ∧ powM p j k < p := mod_bd _ (by omega)
            refine run_seq ?_
            refine run_region ?_
            refine run_op (loc_lss rfl rfl) rfl ?_
            refine run_nil ?_
            refine run_seq ?_
            refine run_cond rfl (fun h14 => ?_) (fun h14 => ?_)
            ·
              have hrow := hgm (x1.2[k]?.getD default) (getD_mem (by omega))
              have hre := hall _ hrow
              refine run_skip ?_
              refine run_seq ?_
              refine run_block ?_
              refine run_seq ?_
              refine run_region ?_
              refine run_op (loc_move rfl) rfl ?_
              first | refine run_op (loc_index rfl rfl (by first | omega | assumption)) rfl ?_ | refine run_op (loc_indexI rfl rfl (by first | omega | assumption)) rfl ?_
              refine run_op (loc_load1 rfl) rfl ?_
              refine run_op (loc_assign rfl) rfl ?_
              refine run_op (loc_assign rfl) rfl ?_
              refine run_nil ?_
              refine dr_start _ (.none) [⟨[(13, none)], [], none⟩,
                  ⟨[(19, none)], [], none⟩,
                  ⟨[(13, none)], [], none⟩,
                  ⟨[(9, none)], [], none⟩,
                  ⟨[(20, none)], [], none⟩,
                  ⟨[(78, some (2, false)), (79, some (3, false)), (80, some (4, false))], [2, 3, 4], none⟩,
                  ⟨[(21, none)], [], none⟩,
                  ⟨[(76, some (0, false)), (77, some (1, false)), (81, some (5, false)), (82, some (6, false))], [0, 1, 2, 3, 4, 5, 6], some (0, 0, true)⟩] [_, _, _, _] _ rfl rfl ?_
              refine dq_pure rfl (fun s => .g rfl (.nil)) (fun s hs _ => loc_load1 rfl) (by exact .nil) ?_
              refine dq_pure rfl (fun s => .g rfl (.nil)) (fun s hs _ => loc_move rfl) (by exact .nil) ?_
              refine dq_pure rfl (fun s => .g rfl (.nil)) (fun s hs _ => loc_load1 rfl) (by exact .nil) ?_
              refine dq_pure rfl (fun s => .g rfl (.nil)) (fun s hs _ => loc_load1 rfl) (by exact .nil) ?_
              refine dq_pure rfl (fun s => .g rfl (.nil)) (fun s hs _ => loc_move rfl) (by exact .nil) ?_
              refine dq_pure rfl (fun s => .op rfl (.op rfl (.op rfl (.nil)))) (fun s hs _ => loc_call (power_spec _ _ _ ⟨hpb, hpb2⟩ ⟨by omega, by omega⟩ (by omega)) rfl) (by exact .nil) ?_
              refine dq_pure rfl (fun s => .g rfl (.nil)) (fun s hs _ => loc_move rfl) (by exact .nil) ?_
              refine dq_write rfl (fun s => .op rfl (.op rfl (.op rfl (.op rfl (.nil))))) rfl rfl (fun s hs => loc_callM (addTimes_spec _ _ _ _ _ ⟨hpb, hpb2⟩ ⟨by omega, by omega⟩ hho.2 hre.2 (by rw [hho.1]; omega)) rfl) (by exact .nil) ?_
              refine dq_end (rs := [_, _, _, _]) () rfl (fun _ => rfl) (.nil) rfl (fun _ => rfl) (fun _ _ => ?_)
              dsimp only [outG, outM, List.map, List.set, id]
              refine run_inBlock ?_
              refine run_region ?_
              first | refine run_op (loc_add rfl rfl (by first | omega | assumption)) rfl ?_ | refine run_op (loc_addW rfl rfl) rfl ?_
              refine run_op (loc_move rfl) rfl ?_
              refine run_nil ?_
              exact run_againF ih13 (k + 1) (by omega) (by omega) (.cons rfl (by first | exact fun _ _ h => h | exact d_int (by omega) | exact d_int (by simp) | exact d_intN (by omega) | exact d_any) .nil) (.cons rfl (fun _ _ x => x) (.cons rfl (fun _ _ x => x) (.cons rfl (fun _ _ x => x) (.cons rfl (fun _ _ x => x) (.cons rfl (fun _ _ x => x) (.cons rfl (fun _ _ x => x) (.nil))))))) (by simp only [appR]; rw [heldN_snoc]; rfl)
            ·
              refine run_exit rfl ?_
              refine run_freezeRow (s := 19) rfl (.here) ?_
              refine run_region ?_
              first | refine run_op (LocP.upV (loc_loadOwn1 rfl (.there (.here)) (by rfl))) rfl ?_ | refine run_op (loc_loadOwn1 rfl (.there (.here)) (by rfl)) rfl ?_
              refine run_op (loc_move rfl) rfl ?_
              refine run_op (loc_buildSlice rfl rfl (.one rfl (.nil)) rfl rfl) rfl ?_
              refine run_append1 rfl (.there (.there (.here))) rfl (by rfl) (by rfl) (by first | omega | (unfold lenMax; omega) | assumption | (simp; omega) | (simp [lenMax]; omega)) (by first | omega | (unfold lenMax; omega) | assumption | (simp; omega) | (simp [lenMax]; omega)) rfl (fun v15 => ?_)
              refine runL_rowV (s := 88) rfl (.there (.there (.here))) ?_
              refine run_store1 rfl rfl (.there (.here)) (by rfl) ?_
              refine run_nil ?_
              refine run_inBlock ?_
              refine run_inv (M' := rBusy l1 r1 :: rCells b16 30 [dSlV v15] :: rRow v15 44 1 fR (((grpL rows g.toNat).take (i + 1)).map fun q => heldG p j wd.toNat q.2) :: F1) (fun I w h => by rw [List.take_add_one, hx1, List.map_append]; rw [show k = x1.2.length by omega] at h; exact h) ?_
              exact run_roundEnd (v15) (trivial) .here rfl
          ·
            refine run_inBlock ?_
            refine run_seq ?_
            refine run_region ?_
            first | refine run_op (LocP.upV (loc_loadOwn1 rfl (.there (.here)) (by rfl))) rfl ?_ | refine run_op (loc_loadOwn1 rfl (.there (.here)) (by rfl)) rfl ?_
            refine run_op (loc_assign rfl) rfl ?_
            refine run_op (loc_assign rfl) rfl ?_
            refine run_nil ?_
            refine run_retMk (v0) (.here) Tryz.func109 rfl (.tmp rfl (.tmp rfl (.nil))) ?_ (trivial) (fun I w h => by have h2 := h.sub (.cons _ (.refl _)); rw [List.take_of_length_le (Nat.le_refl _)] at h2; rw [show holdG p s d g wd rows j = (grpL rows g.toNat).map (fun q => heldG p j wd.toNat q.2) by unfold holdG; rw [if_pos hE]]; exact (show Inv I (rRow v0 44 1 fR _ :: F) w from h2))
            exact d_tup2 (fun _ _ h => h) (d_int hE.symm)

theorem hold_spec (p s d g wd j : Int) (rows : List (List Int)) : SpecP Tryz.prog 109 [dAgg [dInt .i64 p], dAgg [dInt .i64 s, dInt .i64 d, dInt .i64 g], dInt .i64 wd, dRows rows, dInt .i64 j] (dTup [dRows (holdG p s d g wd rows j), dInt .i64 (holdE p s d g wd rows j)]) := spec_freeze2 (holdM_spec p s d g wd j rows)
theorem tcheck_spec (t : Tab) : SpecP Tryz.prog 107 [dTab t] (dInt .i64 (checkT t)) := by
  refine specP_of_body Tryz.func107 rfl rfl (fun I M => ?_)
  refine run_seq ?_
  refine run_region ?_
  refine run_op (loc_boxN rfl) rfl ?_
  refine run_op (loc_assign rfl) rfl ?_
  refine run_nil ?_
  refine run_seq ?_
  refine run_region ?_
  refine run_op (loc_fieldAddr rfl) rfl ?_
  refine run_op (loc_loadN rfl rfl) rfl ?_
  refine run_op (loc_call (of_spec _) rfl) rfl ?_
  refine run_op (loc_move rfl) rfl ?_
  refine run_op (loc_extract rfl rfl) rfl ?_
  refine run_op (loc_extract rfl rfl) rfl ?_
  refine run_op (loc_assign rfl) rfl ?_
  refine run_op (loc_assign rfl) rfl ?_
  refine run_nil ?_
  refine run_seq ?_
  refine run_block ?_
  refine run_seq ?_
  refine run_region ?_
  refine run_op (loc_fieldAddr rfl) rfl ?_
  refine run_op (loc_load1 rfl) rfl ?_
  refine run_op (loc_lss rfl rfl) rfl ?_
  refine run_op (loc_move rfl) rfl ?_
  refine run_gfirst rfl rfl (by first | exact guard_true _ | exact guard_false _ | exact guard_if (guard_true _) | exact guard_if (guard_false _)) (fun hg => loc_fieldAddr rfl) rfl ?_
  refine run_gop rfl rfl (by first | exact guard_true _ | exact guard_false _ | exact guard_if (guard_true _) | exact guard_if (guard_false _)) (fun hg => loc_load1 rfl) rfl ?_
  refine run_gop rfl rfl (by first | exact guard_true _ | exact guard_false _ | exact guard_if (guard_true _) | exact guard_if (guard_false _)) (fun hg => loc_geq rfl rfl) rfl ?_
  refine run_gleave ?_
  refine run_op (loc_or rfl rfl) rfl ?_
  refine run_op (loc_assign rfl) rfl ?_
  refine run_nil ?_
  refine run_cond rfl (fun h1 => ?_) (fun h1 => ?_)
  ·
    have c1 := h1
    refine run_seq ?_
    refine run_region ?_
    refine run_op (loc_assign rfl) rfl ?_
    refine run_nil ?_
    refine run_retP Tryz.func107 rfl rfl ?_
    exact d_int (by unfold checkT; rw [if_pos c1])
  ·
    have c1 := h1
    refine run_seq ?_
    refine run_region ?_
    refine run_op (loc_move rfl) rfl ?_
    refine run_op (loc_not rfl) rfl ?_
    refine run_op (loc_assign rfl) rfl ?_
    refine run_nil ?_
    refine run_cond rfl (fun h2 => ?_) (fun h2 => ?_)
    ·
      have c2 := h2
      refine run_seq ?_
      refine run_region ?_
      refine run_op (loc_assign rfl) rfl ?_
      refine run_nil ?_
      refine run_retP Tryz.func107 rfl rfl ?_
      exact d_int (by unfold checkT; rw [if_neg c1, if_pos c2])
    ·
      have c2 := Classical.not_not.1 h2
      refine run_seq ?_
      refine run_region ?_
      refine run_op (loc_fieldAddr rfl) rfl ?_
      refine run_op (loc_load1 rfl) rfl ?_
      refine run_op (loc_lss rfl rfl) rfl ?_
      refine run_op (loc_move rfl) rfl ?_
      refine run_gfirst rfl rfl (by first | exact guard_true _ | exact guard_false _ | exact guard_if (guard_true _) | exact guard_if (guard_false _)) (fun hg => loc_fieldAddr rfl) rfl ?_
      refine run_gop rfl rfl (by first | exact guard_true _ | exact guard_false _ | exact guard_if (guard_true _) | exact guard_if (guard_false _)) (fun hg => loc_load1 rfl) rfl ?_
      refine run_gop rfl rfl (by first | exact guard_true _ | exact guard_false _ | exact guard_if (guard_true _) | exact guard_if (guard_false _)) (fun hg => loc_gtr rfl rfl) rfl ?_
      refine run_gleave ?_
      refine run_op (loc_or rfl rfl) rfl ?_
      refine run_op (loc_assign rfl) rfl ?_
      refine run_nil ?_
      refine run_cond rfl (fun h3 => ?_) (fun h3 => ?_)
      ·
        have c3 := h3
        refine run_seq ?_
        refine run_region ?_
        refine run_op (loc_assign rfl) rfl ?_
        refine run_nil ?_
        refine run_retP Tryz.func107 rfl rfl ?_
        exact d_int (by unfold checkT; rw [if_neg c1, if_neg (Classical.not_not.2 c2), if_pos c3])
      ·
        have c3 := h3
        refine run_seq ?_
        refine run_region ?_
        refine run_op (loc_fieldAddr rfl) rfl ?_
        refine run_op (loc_load1 rfl) rfl ?_
        first | refine runL_fact (s := 36) rfl (fun _ _ h => dSl_len h) (fun hlen4 => ?_) | skip
        refine run_op (loc_len rfl) rfl ?_
        refine run_op (loc_gtr rfl rfl) rfl ?_
        refine run_op (loc_assign rfl) rfl ?_
        refine run_nil ?_
        refine run_cond rfl (fun h5 => ?_) (fun h5 => ?_)
        ·
          have c4 := h5
          refine run_seq ?_
          refine run_region ?_
          refine run_op (loc_assign rfl) rfl ?_
          refine run_nil ?_
          refine run_retP Tryz.func107 rfl rfl ?_
          exact d_int (by unfold checkT; rw [if_neg c1, if_neg (Classical.not_not.2 c2), if_neg c3, if_pos (by omega)])
        ·
          have c4 := h5
          refine run_skip ?_
          refine run_inBlock ?_
          refine run_seq ?_
          refine run_seq ?_
          refine run_region ?_
          refine run_op (loc_fieldAddr rfl) rfl ?_
          refine run_op (loc_load1 rfl) rfl ?_
          first | refine runL_fact (s := 40) rfl (fun _ _ h => dSl_len h) (fun hlen6 => ?_) | skip
          refine run_op (loc_len rfl) rfl ?_
          refine run_op (loc_move rfl) rfl ?_
          refine run_nil ?_
          refine run_block ?_
          have hof : ofP t.p = t.p := by unfold ofP; rw [if_pos c2]
          rw [hof]
          refine run_loopC (σ := Nat) (ks := [1, 3, 40, 41]) (.cons rfl (.cons rfl (.cons rfl (.cons rfl (.nil))))) (fun k => [(42, dInt .i64 (k : Nat))]) (fun k => k ≤ t.rows.length ∧ (∀ j, j < k → rowErr t.p t.width (t.rows[j]?.getD default) = 0)) (fun k => t.rows.length - k) (0) (⟨by omega, fun j hj => by omega⟩) (.cons rfl (by first | exact fun _ _ h => h | exact d_int (by omega) | exact d_int (by simp) | exact d_intN (by omega) | exact d_any) .nil) ?_
          rintro k ⟨hk, hbk⟩ ih7
          replace c4 : ¬ 1024 < t.rows.length := by omega
          refine run_seq ?_
          refine run_region ?_
          refine run_op (loc_lss rfl rfl) rfl ?_
          refine run_nil ?_
          refine run_seq ?_
          refine run_cond rfl (fun h8 => ?_) (fun h8 => ?_)
          ·
            refine run_skip ?_
            refine run_seq ?_
            refine run_block ?_
            refine run_seq ?_
            refine run_region ?_
            first | refine run_op (loc_index rfl rfl (by first | omega | assumption)) rfl ?_ | refine run_op (loc_indexI rfl rfl (by first | omega | assumption)) rfl ?_
            refine run_op (loc_load1 rfl) rfl ?_
            refine run_op (loc_assign rfl) rfl ?_
            refine run_nil ?_
            refine run_seq ?_
            refine run_seq ?_
            refine run_region ?_
            refine run_op (loc_move rfl) rfl ?_
            first | refine runL_fact (s := 46) rfl (fun _ _ h => dSl_len h) (fun hlen9 => ?_) | skip
            refine run_op (loc_len rfl) rfl ?_
            refine run_op (loc_fieldAddr rfl) rfl ?_
            refine run_op (loc_load1 rfl) rfl ?_
            refine run_op (loc_neq rfl rfl) rfl ?_
            refine run_nil ?_
            refine run_cond rfl (fun h10 => ?_) (fun h10 => ?_)
            ·
              refine run_seq ?_
              refine run_region ?_
              refine run_op (loc_assign rfl) rfl ?_
              refine run_nil ?_
              refine run_retP Tryz.func107 rfl rfl ?_
              exact d_int (by unfold checkT; rw [if_neg c1, if_neg (Classical.not_not.2 c2), if_neg c3, if_neg c4, firstErr_at (i := k) (by omega) hbk (by unfold rowErr; rw [if_pos (by omega)]; omega), rowErr, if_pos (by omega)])
            ·
              refine run_skip ?_
              refine run_seq ?_
              refine run_region ?_
              refine run_op (loc_move rfl) rfl ?_
              refine run_op (loc_move rfl) rfl ?_
              refine run_op (loc_call (all_spec _ _) rfl) rfl ?_
              refine run_op (loc_not rfl) rfl ?_
              refine run_nil ?_
              refine run_cond rfl (fun h11 => ?_) (fun h11 => ?_)
              ·
                have r9 : ¬ allP t.p (t.rows[k]?.getD default) := h11
                refine run_seq ?_
                refine run_region ?_
                refine run_op (loc_assign rfl) rfl ?_
                refine run_nil ?_
                refine run_retP Tryz.func107 rfl rfl ?_
                exact d_int (by unfold checkT; rw [if_neg c1, if_neg (Classical.not_not.2 c2), if_neg c3, if_neg c4, firstErr_at (i := k) (by omega) hbk (by unfold rowErr; rw [if_neg (by omega), if_pos r9]; omega), rowErr, if_neg (by omega), if_pos r9])
              ·
                have r9 : allP t.p (t.rows[k]?.getD default) := Classical.not_not.1 h11
                refine run_skip ?_
                refine run_inBlock ?_
                refine run_region ?_
                first | refine run_op (loc_add rfl rfl (by first | omega | assumption)) rfl ?_ | refine run_op (loc_addW rfl rfl) rfl ?_
                refine run_op (loc_move rfl) rfl ?_
                refine run_nil ?_
                exact run_againC ih7 (k + 1) (⟨by omega, fun j hj => by by_cases e : j = k; (· subst e; unfold rowErr; rw [if_neg (by omega), if_neg (Classical.not_not.2 r9)]); (· exact hbk j (by omega))⟩) (by omega) (.cons rfl (by first | exact fun _ _ h => h | exact d_int (by omega) | exact d_int (by simp) | exact d_intN (by omega) | exact d_any) .nil) (.cons rfl (fun _ _ x => x) (.cons rfl (fun _ _ x => x) (.cons rfl (fun _ _ x => x) (.cons rfl (fun _ _ x => x) (.nil)))))
          ·
            refine run_exit rfl ?_
            refine run_seq ?_
            refine run_region ?_
            refine run_op (loc_assign rfl) rfl ?_
            refine run_nil ?_
            refine run_retP Tryz.func107 rfl rfl ?_
            exact d_int (by unfold checkT; rw [if_neg c1, if_neg (Classical.not_not.2 c2), if_neg c3, if_neg c4, firstErr_none' (fun j hj => hbk j (by omega))])

end Go.Q

namespace Go.Q
open Classical

def shapeS (s : Schm) : Prop := (2 ≤ s.servers ∧ s.servers ≤ 10) ∧ ((s.kind = 1 ∧ s.degree = 0 ∧ s.group = 0) ∨ (s.kind = 2 ∧ 1 ≤ s.degree ∧ s.degree ≤ s.servers - 1 ∧ s.group = 0) ∨ (s.kind = 3 ∧ 1 ≤ s.degree ∧ s.degree ≤ s.servers ∧ 1 ≤ s.group ∧ s.group ≤ s.servers ∧ 2 * s.group + s.degree - 1 ≤ s.servers))
def validS (s : Schm) (p : Int) : Prop := shapeS s ∧ okP p ∧ (s.kind = 1 ∨ s.servers < p)
noncomputable def unitsS (s : Schm) (n : Int) : Int := if ¬ shapeS s ∨ ¬ (1 ≤ n ∧ n ≤ 1024) then 0 else if s.kind = 3 then (n + s.group - 1) / s.group else n
theorem shape_bd {s : Schm} (h : shapeS s) : (2 ≤ s.servers ∧ s.servers ≤ 10) ∧ (0 ≤ s.degree ∧ s.degree ≤ 10) ∧ (0 ≤ s.group ∧ s.group ≤ 10) := by
  unfold shapeS at h
  omega
theorem shape_kind {s : Schm} (h : shapeS s) : s.kind = 1 ∨ s.kind = 2 ∨ s.kind = 3 := by
  unfold shapeS at h
  omega
/-! ### Limits, queries, what is held -/

noncomputable def hldE (s : Schm) (t : Tab) (j : Int) : Int := if checkT t ≠ 0 then checkT t else if ¬ validS s t.p then 40 else if ¬ (1 ≤ j ∧ j ≤ s.servers) then 1 else if s.kind = 3 then holdE t.p s.servers s.degree s.group t.width t.rows j else 0
noncomputable def hldL (s : Schm) (t : Tab) (j : Int) : List (List Int) := if checkT t ≠ 0 ∨ ¬ validS s t.p ∨ ¬ (1 ≤ j ∧ j ≤ s.servers) then [] else if s.kind = 3 then holdG t.p s.servers s.degree s.group t.width t.rows j else t.rows
theorem hld_no {a : Int} {b c : Prop} (h1 : a = 0) (h2 : b) (h3 : c) : ¬ (a ≠ 0 ∨ ¬ b ∨ ¬ c) := by
  rintro (h | h | h)
  · exact h h1
  · exact h h2
  · exact h h3
theorem take_snocR {xs : List (List Int)} {k : Nat} (h : k < xs.length) : xs.take (k + 1) = xs.take k ++ [xs[k]?.getD default] := by
  rw [List.take_add_one, List.getElem?_eq_getElem h]; rfl
theorem un_no {A : Prop} {n : Int} (h : ¬ ((¬ A ∨ n < 1) ∨ 1024 < n)) : ¬ (¬ A ∨ ¬ (1 ≤ n ∧ n ≤ 1024)) := by
  rintro (h1 | h1)
  · exact h (.inl (.inl h1))
  · by_cases hh : n < 1
    · exact h (.inl (.inr hh))
    · exact h (.inr (by omega))
theorem un_yes {A : Prop} {n : Int} (h : (¬ A ∨ n < 1) ∨ 1024 < n) : ¬ A ∨ ¬ (1 ≤ n ∧ n ≤ 1024) := by
  rcases h with (h | h) | h
  · exact .inl h
  · exact .inr (by omega)
  · exact .inr (by omega)
end Go.Q

namespace Go.Q
variable {P : Program} {N : Nat} {g : G} {M : List Res}
variable {dst : Option Tmp} {ty : TypeId} {pos : String} {after : Array Edge} {gd : Option (Nat × Bool)}

/-- A value in an interface, with its type. -/
def dIface (t : TypeId) (d : D) : D := ⟨fun I v => ∃ u, v = .iface t u ∧ d.rel I u, fun h ⟨u, e, r⟩ => ⟨u, e, d.mono h r⟩⟩
instance (t : TypeId) (d : D) : One (dIface t d) := ⟨fun ⟨_, h, _⟩ => by rw [h]; exact ⟨rfl, rfl⟩⟩

class TyConc (P : Program) (t : TypeId) : Prop where
  eq : ∀ w : World, ∀ v, (Instr.makeInterface t v).run P w = .ok (.iface t v) w
class TyMeth (P : Program) (t : TypeId) (name : String) (f : FuncId) : Prop where
  eq : ∀ (w : World) (v : Value) (args : Array Value), (callMethod (.iface t v) name args).run P w = (callFunc f (#[v] ++ args)).run P w

end Go.Q

namespace Go.Q
variable {P : Program} {N : Nat} {g : G} {M : List Res}
variable {dst : Option Tmp} {ty : TypeId} {pos : String} {after : Array Edge} {gd : Option (Nat × Bool)}

class TyMap (P : Program) (t kt et : TypeId) : Prop where
  eq : P.underlying t = some (.map kt et)
  key : P.underlying kt = some (.int .i64)

end Go.Q

namespace Go.Q
open Go.Proofs

open Classical
instance : TyConc Tryz.prog 228 := ⟨fun w v => by kernel_rfl⟩
instance : TyConc Tryz.prog 229 := ⟨fun w v => by kernel_rfl⟩
instance : TyConc Tryz.prog 230 := ⟨fun w v => by kernel_rfl⟩
instance : TyMeth Tryz.prog 228 "privatefetch/scheme.queries" 211 := ⟨fun w v args => by kernel_rfl⟩
instance : TyMeth Tryz.prog 229 "privatefetch/scheme.queries" 225 := ⟨fun w v args => by kernel_rfl⟩
instance : TyMeth Tryz.prog 230 "privatefetch/scheme.queries" 238 := ⟨fun w v args => by kernel_rfl⟩
theorem within_spec (n lo hi : Int) : SpecP Tryz.prog 108 [dInt .i64 n, dInt .i64 lo, dInt .i64 hi] (dB (lo ≤ n ∧ n ≤ hi)) := by
  refine specP_of_body Tryz.func108 rfl rfl (fun I M => ?_)
  refine run_seq ?_
  refine run_region ?_
  refine run_op (loc_assign rfl) rfl ?_
  refine run_nil ?_
  refine run_seq ?_
  refine run_region ?_
  refine run_op (loc_move rfl) rfl ?_
  refine run_op (loc_move rfl) rfl ?_
  refine run_op (loc_geq rfl rfl) rfl ?_
  refine run_op (loc_move rfl) rfl ?_
  refine run_gfirst rfl rfl (by first | exact guard_true _ | exact guard_false _ | exact guard_if (guard_true _) | exact guard_if (guard_false _)) (fun hg => loc_move rfl) rfl ?_
  refine run_gop rfl rfl (by first | exact guard_true _ | exact guard_false _ | exact guard_if (guard_true _) | exact guard_if (guard_false _)) (fun hg => loc_move rfl) rfl ?_
  refine run_gop rfl rfl (by first | exact guard_true _ | exact guard_false _ | exact guard_if (guard_true _) | exact guard_if (guard_false _)) (fun hg => loc_leq rfl rfl) rfl ?_
  refine run_gleave ?_
  refine run_op (loc_and rfl rfl) rfl ?_
  refine run_op (loc_assign rfl) rfl ?_
  refine run_nil ?_
  refine run_retP Tryz.func108 rfl rfl ?_
  exact d_B (by constructor <;> (intro h; omega))

theorem shape_spec (s : Schm) : SpecP Tryz.prog 59 [dSchm s] (dB (shapeS s)) := by
  refine specP_of_body Tryz.func59 rfl rfl (fun I M => ?_)
  refine run_seq ?_
  refine run_region ?_
  refine run_op (loc_boxN rfl) rfl ?_
  refine run_op (loc_assign rfl) rfl ?_
  refine run_nil ?_
  refine run_seq ?_
  refine run_seq ?_
  refine run_region ?_
  refine run_op (loc_fieldAddr rfl) rfl ?_
  refine run_op (loc_load1 rfl) rfl ?_
  refine run_op (loc_call (within_spec _ _ _) rfl) rfl ?_
  refine run_op (loc_not rfl) rfl ?_
  refine run_nil ?_
  refine run_cond rfl (fun h1 => ?_) (fun h1 => ?_)
  ·
    have c1 := h1
    refine run_seq ?_
    refine run_region ?_
    refine run_op (loc_assign rfl) rfl ?_
    refine run_nil ?_
    refine run_retP Tryz.func59 rfl rfl ?_
    exact d_B ⟨False.elim, fun h => by have := shape_bd h; omega⟩
  ·
    have c1 := h1
    refine run_skip ?_
    refine run_seq ?_
    refine run_seq ?_
    refine run_region ?_
    refine run_op (loc_fieldAddr rfl) rfl ?_
    refine run_op (loc_load1 rfl) rfl ?_
    refine run_nil ?_
    refine run_block ?_
    refine run_seq ?_
    refine run_region ?_
    refine run_op (loc_eql rfl rfl) rfl ?_
    refine run_op (loc_assign rfl) rfl ?_
    refine run_nil ?_
    refine run_cond rfl (fun h2 => ?_) (fun h2 => ?_)
    ·
      refine run_seq ?_
      refine run_region ?_
      refine run_op (loc_fieldAddr rfl) rfl ?_
      refine run_op (loc_load1 rfl) rfl ?_
      refine run_op (loc_eql rfl rfl) rfl ?_
      refine run_op (loc_move rfl) rfl ?_
      refine run_gfirst rfl rfl (by first | exact guard_true _ | exact guard_false _ | exact guard_if (guard_true _) | exact guard_if (guard_false _)) (fun hg => loc_fieldAddr rfl) rfl ?_
      refine run_gop rfl rfl (by first | exact guard_true _ | exact guard_false _ | exact guard_if (guard_true _) | exact guard_if (guard_false _)) (fun hg => loc_load1 rfl) rfl ?_
      refine run_gop rfl rfl (by first | exact guard_true _ | exact guard_false _ | exact guard_if (guard_true _) | exact guard_if (guard_false _)) (fun hg => loc_eql rfl rfl) rfl ?_
      refine run_gleave ?_
      refine run_op (loc_and rfl rfl) rfl ?_
      refine run_op (loc_assign rfl) rfl ?_
      refine run_nil ?_
      refine run_retP Tryz.func59 rfl rfl ?_
      exact d_B (by unfold shapeS; constructor <;> (intro h; omega))
    ·
      refine run_seq ?_
      refine run_region ?_
      refine run_op (loc_eql rfl rfl) rfl ?_
      refine run_op (loc_assign rfl) rfl ?_
      refine run_nil ?_
      refine run_cond rfl (fun h3 => ?_) (fun h3 => ?_)
      ·
        refine run_seq ?_
        refine run_region ?_
        refine run_op (loc_fieldAddr rfl) rfl ?_
        refine run_op (loc_load1 rfl) rfl ?_
        refine run_op (loc_fieldAddr rfl) rfl ?_
        refine run_op (loc_load1 rfl) rfl ?_
        first | refine run_op (loc_sub rfl rfl (by first | omega | assumption)) rfl ?_ | refine run_op (loc_subW rfl rfl) rfl ?_
        refine run_op (loc_call (within_spec _ _ _) rfl) rfl ?_
        refine run_op (loc_move rfl) rfl ?_
        refine run_gfirst rfl rfl (by first | exact guard_true _ | exact guard_false _ | exact guard_if (guard_true _) | exact guard_if (guard_false _)) (fun hg => loc_fieldAddr rfl) rfl ?_
        refine run_gop rfl rfl (by first | exact guard_true _ | exact guard_false _ | exact guard_if (guard_true _) | exact guard_if (guard_false _)) (fun hg => loc_load1 rfl) rfl ?_
        refine run_gop rfl rfl (by first | exact guard_true _ | exact guard_false _ | exact guard_if (guard_true _) | exact guard_if (guard_false _)) (fun hg => loc_eql rfl rfl) rfl ?_
        refine run_gleave ?_
        refine run_op (loc_and rfl rfl) rfl ?_
        refine run_op (loc_assign rfl) rfl ?_
        refine run_nil ?_
        refine run_retP Tryz.func59 rfl rfl ?_
        exact d_B (by unfold shapeS; constructor <;> (intro h; omega))
      ·
        refine run_seq ?_
        refine run_region ?_
        refine run_op (loc_eql rfl rfl) rfl ?_
        refine run_op (loc_assign rfl) rfl ?_
        refine run_nil ?_
        refine run_cond rfl (fun h4 => ?_) (fun h4 => ?_)
        ·
          refine run_seq ?_
          have hbd : (2 ≤ s.servers ∧ s.servers ≤ 10) := by omega
          refine run_region ?_
          refine run_op (loc_fieldAddr rfl) rfl ?_
          refine run_op (loc_load1 rfl) rfl ?_
          refine run_op (loc_fieldAddr rfl) rfl ?_
          refine run_op (loc_load1 rfl) rfl ?_
          refine run_op (loc_call (within_spec _ _ _) rfl) rfl ?_
          refine run_op (loc_move rfl) rfl ?_
          refine run_gfirst rfl rfl (by first | exact guard_true _ | exact guard_false _ | exact guard_if (guard_true _) | exact guard_if (guard_false _)) (fun hg => loc_fieldAddr rfl) rfl ?_
          refine run_gop rfl rfl (by first | exact guard_true _ | exact guard_false _ | exact guard_if (guard_true _) | exact guard_if (guard_false _)) (fun hg => loc_load1 rfl) rfl ?_
          refine run_gop rfl rfl (by first | exact guard_true _ | exact guard_false _ | exact guard_if (guard_true _) | exact guard_if (guard_false _)) (fun hg => loc_fieldAddr rfl) rfl ?_
          refine run_gop rfl rfl (by first | exact guard_true _ | exact guard_false _ | exact guard_if (guard_true _) | exact guard_if (guard_false _)) (fun hg => loc_load1 rfl) rfl ?_
          refine run_gop rfl rfl (by first | exact guard_true _ | exact guard_false _ | exact guard_if (guard_true _) | exact guard_if (guard_false _)) (fun hg => loc_call (within_spec _ _ _) rfl) rfl ?_
          refine run_gleave ?_
          refine run_op (loc_and rfl rfl) rfl ?_
          refine run_op (loc_move rfl) rfl ?_
          refine run_gfirst rfl rfl (by first | exact guard_true _ | exact guard_false _ | exact guard_if (guard_true _) | exact guard_if (guard_false _)) (fun hg => loc_fieldAddr rfl) rfl ?_
          refine run_gop rfl rfl (by first | exact guard_true _ | exact guard_false _ | exact guard_if (guard_true _) | exact guard_if (guard_false _)) (fun hg => loc_load1 rfl) rfl ?_
          first | refine run_gop rfl rfl (by first | exact guard_true _ | exact guard_false _ | exact guard_if (guard_true _) | exact guard_if (guard_false _)) (fun hg => loc_mul rfl rfl (by first | omega | assumption)) rfl ?_ | refine run_gop rfl rfl (by first | exact guard_true _ | exact guard_false _ | exact guard_if (guard_true _) | exact guard_if (guard_false _)) (fun hg => loc_mulW rfl rfl) rfl ?_
          refine run_gop rfl rfl (by first | exact guard_true _ | exact guard_false _ | exact guard_if (guard_true _) | exact guard_if (guard_false _)) (fun hg => loc_fieldAddr rfl) rfl ?_
          refine run_gop rfl rfl (by first | exact guard_true _ | exact guard_false _ | exact guard_if (guard_true _) | exact guard_if (guard_false _)) (fun hg => loc_load1 rfl) rfl ?_
          first | refine run_gop rfl rfl (by first | exact guard_true _ | exact guard_false _ | exact guard_if (guard_true _) | exact guard_if (guard_false _)) (fun hg => loc_add rfl rfl (by first | omega | assumption)) rfl ?_ | refine run_gop rfl rfl (by first | exact guard_true _ | exact guard_false _ | exact guard_if (guard_true _) | exact guard_if (guard_false _)) (fun hg => loc_addW rfl rfl) rfl ?_
          first | refine run_gop rfl rfl (by first | exact guard_true _ | exact guard_false _ | exact guard_if (guard_true _) | exact guard_if (guard_false _)) (fun hg => loc_sub rfl rfl (by first | omega | assumption)) rfl ?_ | refine run_gop rfl rfl (by first | exact guard_true _ | exact guard_false _ | exact guard_if (guard_true _) | exact guard_if (guard_false _)) (fun hg => loc_subW rfl rfl) rfl ?_
          refine run_gop rfl rfl (by first | exact guard_true _ | exact guard_false _ | exact guard_if (guard_true _) | exact guard_if (guard_false _)) (fun hg => loc_fieldAddr rfl) rfl ?_
          refine run_gop rfl rfl (by first | exact guard_true _ | exact guard_false _ | exact guard_if (guard_true _) | exact guard_if (guard_false _)) (fun hg => loc_load1 rfl) rfl ?_
          refine run_gop rfl rfl (by first | exact guard_true _ | exact guard_false _ | exact guard_if (guard_true _) | exact guard_if (guard_false _)) (fun hg => loc_leq rfl rfl) rfl ?_
          refine run_gleave ?_
          refine run_op (loc_and rfl rfl) rfl ?_
          refine run_op (loc_assign rfl) rfl ?_
          refine run_nil ?_
          refine run_retP Tryz.func59 rfl rfl ?_
          exact d_B (by unfold shapeS; constructor <;> (intro h; omega))
        ·
          refine run_skip ?_
          refine run_inBlock ?_
          refine run_seq ?_
          refine run_region ?_
          refine run_op (loc_assign rfl) rfl ?_
          refine run_nil ?_
          refine run_retP Tryz.func59 rfl rfl ?_
          exact d_B ⟨False.elim, fun h => by have := shape_kind h; omega⟩

theorem rshape_spec (s : Schm) : SpecP Tryz.prog 60 [dSchm s] (dB (shapeS s)) := by
  refine specP_of_body Tryz.func60 rfl rfl (fun I M => ?_)
  refine run_seq ?_
  refine run_region ?_
  refine run_op (loc_boxN rfl) rfl ?_
  refine run_op (loc_assign rfl) rfl ?_
  refine run_nil ?_
  refine run_seq ?_
  refine run_seq ?_
  refine run_region ?_
  refine run_op (loc_fieldAddr rfl) rfl ?_
  refine run_op (loc_load1 rfl) rfl ?_
  refine run_op (loc_lss rfl rfl) rfl ?_
  refine run_op (loc_move rfl) rfl ?_
  refine run_gfirst rfl rfl (by first | exact guard_true _ | exact guard_false _ | exact guard_if (guard_true _) | exact guard_if (guard_false _)) (fun hg => loc_fieldAddr rfl) rfl ?_
  refine run_gop rfl rfl (by first | exact guard_true _ | exact guard_false _ | exact guard_if (guard_true _) | exact guard_if (guard_false _)) (fun hg => loc_load1 rfl) rfl ?_
  refine run_gop rfl rfl (by first | exact guard_true _ | exact guard_false _ | exact guard_if (guard_true _) | exact guard_if (guard_false _)) (fun hg => loc_gtr rfl rfl) rfl ?_
  refine run_gleave ?_
  refine run_op (loc_or rfl rfl) rfl ?_
  refine run_nil ?_
  refine run_cond rfl (fun h1 => ?_) (fun h1 => ?_)
  ·
    have c1 := h1
    refine run_seq ?_
    refine run_region ?_
    refine run_op (loc_assign rfl) rfl ?_
    refine run_nil ?_
    refine run_retP Tryz.func60 rfl rfl ?_
    exact d_B ⟨False.elim, fun h => by have := shape_bd h; omega⟩
  ·
    have c1 := h1
    refine run_skip ?_
    refine run_seq ?_
    refine run_seq ?_
    refine run_region ?_
    refine run_op (loc_fieldAddr rfl) rfl ?_
    refine run_op (loc_load1 rfl) rfl ?_
    refine run_nil ?_
    refine run_block ?_
    refine run_seq ?_
    refine run_region ?_
    refine run_op (loc_eql rfl rfl) rfl ?_
    refine run_op (loc_assign rfl) rfl ?_
    refine run_nil ?_
    refine run_cond rfl (fun h2 => ?_) (fun h2 => ?_)
    ·
      refine run_seq ?_
      refine run_region ?_
      refine run_op (loc_fieldAddr rfl) rfl ?_
      refine run_op (loc_load1 rfl) rfl ?_
      refine run_op (loc_eql rfl rfl) rfl ?_
      refine run_op (loc_move rfl) rfl ?_
      refine run_gfirst rfl rfl (by first | exact guard_true _ | exact guard_false _ | exact guard_if (guard_true _) | exact guard_if (guard_false _)) (fun hg => loc_fieldAddr rfl) rfl ?_
      refine run_gop rfl rfl (by first | exact guard_true _ | exact guard_false _ | exact guard_if (guard_true _) | exact guard_if (guard_false _)) (fun hg => loc_load1 rfl) rfl ?_
      refine run_gop rfl rfl (by first | exact guard_true _ | exact guard_false _ | exact guard_if (guard_true _) | exact guard_if (guard_false _)) (fun hg => loc_eql rfl rfl) rfl ?_
      refine run_gleave ?_
      refine run_op (loc_and rfl rfl) rfl ?_
      refine run_op (loc_assign rfl) rfl ?_
      refine run_nil ?_
      refine run_retP Tryz.func60 rfl rfl ?_
      exact d_B (by unfold shapeS; constructor <;> (intro h; omega))
    ·
      refine run_seq ?_
      refine run_region ?_
      refine run_op (loc_eql rfl rfl) rfl ?_
      refine run_op (loc_assign rfl) rfl ?_
      refine run_nil ?_
      refine run_cond rfl (fun h3 => ?_) (fun h3 => ?_)
      ·
        refine run_seq ?_
        refine run_region ?_
        refine run_op (loc_fieldAddr rfl) rfl ?_
        refine run_op (loc_load1 rfl) rfl ?_
        refine run_op (loc_geq rfl rfl) rfl ?_
        refine run_op (loc_move rfl) rfl ?_
        refine run_gfirst rfl rfl (by first | exact guard_true _ | exact guard_false _ | exact guard_if (guard_true _) | exact guard_if (guard_false _)) (fun hg => loc_fieldAddr rfl) rfl ?_
        refine run_gop rfl rfl (by first | exact guard_true _ | exact guard_false _ | exact guard_if (guard_true _) | exact guard_if (guard_false _)) (fun hg => loc_load1 rfl) rfl ?_
        refine run_gop rfl rfl (by first | exact guard_true _ | exact guard_false _ | exact guard_if (guard_true _) | exact guard_if (guard_false _)) (fun hg => loc_fieldAddr rfl) rfl ?_
        refine run_gop rfl rfl (by first | exact guard_true _ | exact guard_false _ | exact guard_if (guard_true _) | exact guard_if (guard_false _)) (fun hg => loc_load1 rfl) rfl ?_
        first | refine run_gop rfl rfl (by first | exact guard_true _ | exact guard_false _ | exact guard_if (guard_true _) | exact guard_if (guard_false _)) (fun hg => loc_sub rfl rfl (by first | omega | assumption)) rfl ?_ | refine run_gop rfl rfl (by first | exact guard_true _ | exact guard_false _ | exact guard_if (guard_true _) | exact guard_if (guard_false _)) (fun hg => loc_subW rfl rfl) rfl ?_
        refine run_gop rfl rfl (by first | exact guard_true _ | exact guard_false _ | exact guard_if (guard_true _) | exact guard_if (guard_false _)) (fun hg => loc_leq rfl rfl) rfl ?_
        refine run_gleave ?_
        refine run_op (loc_and rfl rfl) rfl ?_
        refine run_op (loc_move rfl) rfl ?_
        refine run_gfirst rfl rfl (by first | exact guard_true _ | exact guard_false _ | exact guard_if (guard_true _) | exact guard_if (guard_false _)) (fun hg => loc_fieldAddr rfl) rfl ?_
        refine run_gop rfl rfl (by first | exact guard_true _ | exact guard_false _ | exact guard_if (guard_true _) | exact guard_if (guard_false _)) (fun hg => loc_load1 rfl) rfl ?_
        refine run_gop rfl rfl (by first | exact guard_true _ | exact guard_false _ | exact guard_if (guard_true _) | exact guard_if (guard_false _)) (fun hg => loc_eql rfl rfl) rfl ?_
        refine run_gleave ?_
        refine run_op (loc_and rfl rfl) rfl ?_
        refine run_op (loc_assign rfl) rfl ?_
        refine run_nil ?_
        refine run_retP Tryz.func60 rfl rfl ?_
        exact d_B (by unfold shapeS; constructor <;> (intro h; omega))
      ·
        refine run_seq ?_
        refine run_region ?_
        refine run_op (loc_eql rfl rfl) rfl ?_
        refine run_op (loc_assign rfl) rfl ?_
        refine run_nil ?_
        refine run_cond rfl (fun h4 => ?_) (fun h4 => ?_)
        ·
          refine run_seq ?_
          refine run_region ?_
          refine run_op (loc_fieldAddr rfl) rfl ?_
          refine run_op (loc_load1 rfl) rfl ?_
          refine run_op (loc_geq rfl rfl) rfl ?_
          refine run_op (loc_move rfl) rfl ?_
          refine run_gfirst rfl rfl (by first | exact guard_true _ | exact guard_false _ | exact guard_if (guard_true _) | exact guard_if (guard_false _)) (fun hg => loc_fieldAddr rfl) rfl ?_
          refine run_gop rfl rfl (by first | exact guard_true _ | exact guard_false _ | exact guard_if (guard_true _) | exact guard_if (guard_false _)) (fun hg => loc_load1 rfl) rfl ?_
          refine run_gop rfl rfl (by first | exact guard_true _ | exact guard_false _ | exact guard_if (guard_true _) | exact guard_if (guard_false _)) (fun hg => loc_geq rfl rfl) rfl ?_
          refine run_gleave ?_
          refine run_op (loc_and rfl rfl) rfl ?_
          refine run_op (loc_move rfl) rfl ?_
          refine run_gfirst rfl rfl (by first | exact guard_true _ | exact guard_false _ | exact guard_if (guard_true _) | exact guard_if (guard_false _)) (fun hg => loc_fieldAddr rfl) rfl ?_
          refine run_gop rfl rfl (by first | exact guard_true _ | exact guard_false _ | exact guard_if (guard_true _) | exact guard_if (guard_false _)) (fun hg => loc_load1 rfl) rfl ?_
          refine run_gop rfl rfl (by first | exact guard_true _ | exact guard_false _ | exact guard_if (guard_true _) | exact guard_if (guard_false _)) (fun hg => loc_leq rfl rfl) rfl ?_
          refine run_gleave ?_
          refine run_op (loc_and rfl rfl) rfl ?_
          refine run_op (loc_move rfl) rfl ?_
          refine run_gfirst rfl rfl (by first | exact guard_true _ | exact guard_false _ | exact guard_if (guard_true _) | exact guard_if (guard_false _)) (fun hg => loc_fieldAddr rfl) rfl ?_
          refine run_gop rfl rfl (by first | exact guard_true _ | exact guard_false _ | exact guard_if (guard_true _) | exact guard_if (guard_false _)) (fun hg => loc_load1 rfl) rfl ?_
          refine run_gop rfl rfl (by first | exact guard_true _ | exact guard_false _ | exact guard_if (guard_true _) | exact guard_if (guard_false _)) (fun hg => loc_leq rfl rfl) rfl ?_
          refine run_gleave ?_
          refine run_op (loc_and rfl rfl) rfl ?_
          refine run_op (loc_move rfl) rfl ?_
          refine run_gfirst rfl rfl (by first | exact guard_true _ | exact guard_false _ | exact guard_if (guard_true _) | exact guard_if (guard_false _)) (fun hg => loc_fieldAddr rfl) rfl ?_
          refine run_gop rfl rfl (by first | exact guard_true _ | exact guard_false _ | exact guard_if (guard_true _) | exact guard_if (guard_false _)) (fun hg => loc_load1 rfl) rfl ?_
          first | refine run_gop rfl rfl (by first | exact guard_true _ | exact guard_false _ | exact guard_if (guard_true _) | exact guard_if (guard_false _)) (fun hg => loc_mul rfl rfl (by first | omega | assumption)) rfl ?_ | refine run_gop rfl rfl (by first | exact guard_true _ | exact guard_false _ | exact guard_if (guard_true _) | exact guard_if (guard_false _)) (fun hg => loc_mulW rfl rfl) rfl ?_
          refine run_gop rfl rfl (by first | exact guard_true _ | exact guard_false _ | exact guard_if (guard_true _) | exact guard_if (guard_false _)) (fun hg => loc_fieldAddr rfl) rfl ?_
          refine run_gop rfl rfl (by first | exact guard_true _ | exact guard_false _ | exact guard_if (guard_true _) | exact guard_if (guard_false _)) (fun hg => loc_load1 rfl) rfl ?_
          first | refine run_gop rfl rfl (by first | exact guard_true _ | exact guard_false _ | exact guard_if (guard_true _) | exact guard_if (guard_false _)) (fun hg => loc_add rfl rfl (by first | omega | assumption)) rfl ?_ | refine run_gop rfl rfl (by first | exact guard_true _ | exact guard_false _ | exact guard_if (guard_true _) | exact guard_if (guard_false _)) (fun hg => loc_addW rfl rfl) rfl ?_
          first | refine run_gop rfl rfl (by first | exact guard_true _ | exact guard_false _ | exact guard_if (guard_true _) | exact guard_if (guard_false _)) (fun hg => loc_sub rfl rfl (by first | omega | assumption)) rfl ?_ | refine run_gop rfl rfl (by first | exact guard_true _ | exact guard_false _ | exact guard_if (guard_true _) | exact guard_if (guard_false _)) (fun hg => loc_subW rfl rfl) rfl ?_
          refine run_gop rfl rfl (by first | exact guard_true _ | exact guard_false _ | exact guard_if (guard_true _) | exact guard_if (guard_false _)) (fun hg => loc_fieldAddr rfl) rfl ?_
          refine run_gop rfl rfl (by first | exact guard_true _ | exact guard_false _ | exact guard_if (guard_true _) | exact guard_if (guard_false _)) (fun hg => loc_load1 rfl) rfl ?_
          refine run_gop rfl rfl (by first | exact guard_true _ | exact guard_false _ | exact guard_if (guard_true _) | exact guard_if (guard_false _)) (fun hg => loc_leq rfl rfl) rfl ?_
          refine run_gleave ?_
          refine run_op (loc_and rfl rfl) rfl ?_
          refine run_op (loc_assign rfl) rfl ?_
          refine run_nil ?_
          refine run_retP Tryz.func60 rfl rfl ?_
          exact d_B (by unfold shapeS; constructor <;> (intro h; omega))
        ·
          refine run_skip ?_
          refine run_inBlock ?_
          refine run_seq ?_
          refine run_region ?_
          refine run_op (loc_assign rfl) rfl ?_
          refine run_nil ?_
          refine run_retP Tryz.func60 rfl rfl ?_
          exact d_B ⟨False.elim, fun h => by have := shape_kind h; omega⟩

theorem valid_spec (s : Schm) (p : Int) : SpecP Tryz.prog 54 [dSchm s, dAgg [dInt .i64 p]] (dB (validS s p)) := by
  refine specP_of_body Tryz.func54 rfl rfl (fun I M => ?_)
  refine run_seq ?_
  refine run_region ?_
  refine run_op (loc_boxN rfl) rfl ?_
  refine run_op (loc_boxN rfl) rfl ?_
  refine run_op (loc_assign rfl) rfl ?_
  refine run_nil ?_
  refine run_seq ?_
  refine run_region ?_
  refine run_op (loc_loadN rfl rfl) rfl ?_
  refine run_op (loc_call (shape_spec _) rfl) rfl ?_
  refine run_op (loc_move rfl) rfl ?_
  refine run_gfirst rfl rfl (by first | exact guard_true _ | exact guard_false _ | exact guard_if (guard_true _) | exact guard_if (guard_false _)) (fun hg => loc_loadN rfl rfl) rfl ?_
  refine run_gop rfl rfl (by first | exact guard_true _ | exact guard_false _ | exact guard_if (guard_true _) | exact guard_if (guard_false _)) (fun hg => loc_call (fcheck_spec _) rfl) rfl ?_
  refine run_gop rfl rfl (by first | exact guard_true _ | exact guard_false _ | exact guard_if (guard_true _) | exact guard_if (guard_false _)) (fun hg => loc_eql rfl rfl) rfl ?_
  refine run_gleave ?_
  refine run_op (loc_and rfl rfl) rfl ?_
  refine run_op (loc_move rfl) rfl ?_
  refine run_gfirst rfl rfl (by first | exact guard_true _ | exact guard_false _ | exact guard_if (guard_true _) | exact guard_if (guard_false _)) (fun hg => loc_fieldAddr rfl) rfl ?_
  refine run_gop rfl rfl (by first | exact guard_true _ | exact guard_false _ | exact guard_if (guard_true _) | exact guard_if (guard_false _)) (fun hg => loc_load1 rfl) rfl ?_
  refine run_gop rfl rfl (by first | exact guard_true _ | exact guard_false _ | exact guard_if (guard_true _) | exact guard_if (guard_false _)) (fun hg => loc_eql rfl rfl) rfl ?_
  refine run_gop rfl rfl (by first | exact guard_true _ | exact guard_false _ | exact guard_if (guard_true _) | exact guard_if (guard_false _)) (fun hg => loc_move rfl) rfl ?_
  refine run_gleave ?_
  refine run_gfirst rfl rfl (by first | exact guard_true _ | exact guard_false _ | exact guard_if (guard_true _) | exact guard_if (guard_false _)) (fun hg => loc_fieldAddr rfl) rfl ?_
  refine run_gop rfl rfl (by first | exact guard_true _ | exact guard_false _ | exact guard_if (guard_true _) | exact guard_if (guard_false _)) (fun hg => loc_load1 rfl) rfl ?_
  refine run_gop rfl rfl (by first | exact guard_true _ | exact guard_false _ | exact guard_if (guard_true _) | exact guard_if (guard_false _)) (fun hg => loc_fieldAddr rfl) rfl ?_
  refine run_gop rfl rfl (by first | exact guard_true _ | exact guard_false _ | exact guard_if (guard_true _) | exact guard_if (guard_false _)) (fun hg => loc_load1 rfl) rfl ?_
  refine run_gop rfl rfl (by first | exact guard_true _ | exact guard_false _ | exact guard_if (guard_true _) | exact guard_if (guard_false _)) (fun hg => loc_lss rfl rfl) rfl ?_
  refine run_gleave ?_
  first | refine run_gfirst rfl rfl (by first | exact guard_true _ | exact guard_false _ | exact guard_if (guard_true _) | exact guard_if (guard_false _)) (fun hg => loc_or rfl rfl) rfl ?_ | refine run_gfirst rfl rfl (by first | exact guard_true _ | exact guard_false _ | exact guard_if (guard_true _) | exact guard_if (guard_false _)) (fun hg => loc_orG hg rfl rfl) rfl ?_ | refine run_gfirst rfl rfl (by first | exact guard_true _ | exact guard_false _ | exact guard_if (guard_true _) | exact guard_if (guard_false _)) (fun hg => loc_orH hg rfl rfl) rfl ?_
  refine run_gleave ?_
  refine run_op (loc_and rfl rfl) rfl ?_
  refine run_op (loc_assign rfl) rfl ?_
  refine run_nil ?_
  refine run_retP Tryz.func54 rfl rfl ?_
  exact d_B (by unfold validS; rw [errP_zero]; constructor; (· rintro ⟨⟨a, b⟩, c⟩; exact ⟨a, b, c⟩); (· rintro ⟨a, b, c⟩; exact ⟨⟨a, b⟩, c⟩))

theorem rvalid_spec (s : Schm) (p : Int) : SpecP Tryz.prog 63 [dSchm s, dAgg [dInt .i64 p]] (dB (validS s p)) := by
  refine specP_of_body Tryz.func63 rfl rfl (fun I M => ?_)
  refine run_seq ?_
  refine run_region ?_
  refine run_op (loc_boxN rfl) rfl ?_
  refine run_op (loc_boxN rfl) rfl ?_
  refine run_op (loc_assign rfl) rfl ?_
  refine run_nil ?_
  refine run_seq ?_
  refine run_region ?_
  refine run_op (loc_loadN rfl rfl) rfl ?_
  refine run_op (loc_call (rshape_spec _) rfl) rfl ?_
  refine run_op (loc_move rfl) rfl ?_
  refine run_gfirst rfl rfl (by first | exact guard_true _ | exact guard_false _ | exact guard_if (guard_true _) | exact guard_if (guard_false _)) (fun hg => loc_loadN rfl rfl) rfl ?_
  refine run_gop rfl rfl (by first | exact guard_true _ | exact guard_false _ | exact guard_if (guard_true _) | exact guard_if (guard_false _)) (fun hg => loc_call (rcheck3_spec _) rfl) rfl ?_
  refine run_gop rfl rfl (by first | exact guard_true _ | exact guard_false _ | exact guard_if (guard_true _) | exact guard_if (guard_false _)) (fun hg => loc_eql rfl rfl) rfl ?_
  refine run_gleave ?_
  refine run_op (loc_and rfl rfl) rfl ?_
  refine run_op (loc_move rfl) rfl ?_
  refine run_gfirst rfl rfl (by first | exact guard_true _ | exact guard_false _ | exact guard_if (guard_true _) | exact guard_if (guard_false _)) (fun hg => loc_fieldAddr rfl) rfl ?_
  refine run_gop rfl rfl (by first | exact guard_true _ | exact guard_false _ | exact guard_if (guard_true _) | exact guard_if (guard_false _)) (fun hg => loc_load1 rfl) rfl ?_
  refine run_gop rfl rfl (by first | exact guard_true _ | exact guard_false _ | exact guard_if (guard_true _) | exact guard_if (guard_false _)) (fun hg => loc_eql rfl rfl) rfl ?_
  refine run_gop rfl rfl (by first | exact guard_true _ | exact guard_false _ | exact guard_if (guard_true _) | exact guard_if (guard_false _)) (fun hg => loc_move rfl) rfl ?_
  refine run_gleave ?_
  refine run_gfirst rfl rfl (by first | exact guard_true _ | exact guard_false _ | exact guard_if (guard_true _) | exact guard_if (guard_false _)) (fun hg => loc_fieldAddr rfl) rfl ?_
  refine run_gop rfl rfl (by first | exact guard_true _ | exact guard_false _ | exact guard_if (guard_true _) | exact guard_if (guard_false _)) (fun hg => loc_load1 rfl) rfl ?_
  refine run_gop rfl rfl (by first | exact guard_true _ | exact guard_false _ | exact guard_if (guard_true _) | exact guard_if (guard_false _)) (fun hg => loc_fieldAddr rfl) rfl ?_
  refine run_gop rfl rfl (by first | exact guard_true _ | exact guard_false _ | exact guard_if (guard_true _) | exact guard_if (guard_false _)) (fun hg => loc_load1 rfl) rfl ?_
  refine run_gop rfl rfl (by first | exact guard_true _ | exact guard_false _ | exact guard_if (guard_true _) | exact guard_if (guard_false _)) (fun hg => loc_lss rfl rfl) rfl ?_
  refine run_gleave ?_
  first | refine run_gfirst rfl rfl (by first | exact guard_true _ | exact guard_false _ | exact guard_if (guard_true _) | exact guard_if (guard_false _)) (fun hg => loc_or rfl rfl) rfl ?_ | refine run_gfirst rfl rfl (by first | exact guard_true _ | exact guard_false _ | exact guard_if (guard_true _) | exact guard_if (guard_false _)) (fun hg => loc_orG hg rfl rfl) rfl ?_ | refine run_gfirst rfl rfl (by first | exact guard_true _ | exact guard_false _ | exact guard_if (guard_true _) | exact guard_if (guard_false _)) (fun hg => loc_orH hg rfl rfl) rfl ?_
  refine run_gleave ?_
  refine run_op (loc_and rfl rfl) rfl ?_
  refine run_op (loc_assign rfl) rfl ?_
  refine run_nil ?_
  refine run_retP Tryz.func63 rfl rfl ?_
  exact d_B (by unfold validS; rw [errP_zero]; constructor; (· rintro ⟨⟨a, b⟩, c⟩; exact ⟨a, b, c⟩); (· rintro ⟨a, b, c⟩; exact ⟨⟨a, b⟩, c⟩))

theorem storage_spec (s : Schm) : SpecP Tryz.prog 110 [dSchm s] (dAgg [dInt .i64 s.servers, dInt .i64 s.degree, dInt .i64 s.group]) := by
  refine specP_of_body Tryz.func110 rfl rfl (fun I M => ?_)
  refine run_seq ?_
  refine run_region ?_
  refine run_op (loc_boxN rfl) rfl ?_
  refine run_new (loc_allocOwn (by simp)) rfl (fun b1 _ => ?_)
  refine run_nil ?_
  refine run_seq ?_
  refine run_region ?_
  refine run_op (loc_fieldAddr rfl) rfl ?_
  refine run_op (loc_load1 rfl) rfl ?_
  refine run_op (loc_fieldAddr rfl) rfl ?_
  refine run_op (loc_load1 rfl) rfl ?_
  refine run_op (loc_fieldAddr rfl) rfl ?_
  refine run_op (loc_load1 rfl) rfl ?_
  refine run_op (loc_build (.one rfl rfl rfl (.one rfl rfl rfl (.one rfl rfl rfl (.nil))))) rfl ?_
  refine run_storeN (ho := (by show OneAll [_, _, _]; infer_instance)) rfl rfl (.here) (by rfl) ?_
  refine run_nil ?_
  refine run_retGP Tryz.func110 rfl (.cellN rfl (by first | exact .here | exact .there .here | exact .there (.there .here) | exact .there (.there (.there .here)) | exact .there (.there (.there (.there .here))) | exact .there (.there (.there (.there (.there .here))))) (by rfl) (.nil)) ?_ (fun _ _ h => inv_tail (h))
  exact fun _ _ h => h

theorem runits_spec (s : Schm) (n : Int) : SpecP Tryz.prog 49 [dSchm s, dInt .i64 n] (dInt .i64 (unitsS s n)) := by
  refine specP_of_body Tryz.func49 rfl rfl (fun I M => ?_)
  refine run_seq ?_
  refine run_region ?_
  refine run_op (loc_boxN rfl) rfl ?_
  refine run_op (loc_assign rfl) rfl ?_
  refine run_nil ?_
  refine run_seq ?_
  refine run_seq ?_
  refine run_region ?_
  refine run_op (loc_loadN rfl rfl) rfl ?_
  refine run_op (loc_call (rshape_spec _) rfl) rfl ?_
  refine run_op (loc_not rfl) rfl ?_
  refine run_op (loc_move rfl) rfl ?_
  refine run_gfirst rfl rfl (by first | exact guard_true _ | exact guard_false _ | exact guard_if (guard_true _) | exact guard_if (guard_false _)) (fun hg => loc_move rfl) rfl ?_
  refine run_gop rfl rfl (by first | exact guard_true _ | exact guard_false _ | exact guard_if (guard_true _) | exact guard_if (guard_false _)) (fun hg => loc_lss rfl rfl) rfl ?_
  refine run_gleave ?_
  refine run_op (loc_or rfl rfl) rfl ?_
  refine run_op (loc_move rfl) rfl ?_
  refine run_gfirst rfl rfl (by first | exact guard_true _ | exact guard_false _ | exact guard_if (guard_true _) | exact guard_if (guard_false _)) (fun hg => loc_move rfl) rfl ?_
  refine run_gop rfl rfl (by first | exact guard_true _ | exact guard_false _ | exact guard_if (guard_true _) | exact guard_if (guard_false _)) (fun hg => loc_gtr rfl rfl) rfl ?_
  refine run_gleave ?_
  refine run_op (loc_or rfl rfl) rfl ?_
  refine run_nil ?_
  refine run_cond rfl (fun h1 => ?_) (fun h1 => ?_)
  ·
    have c1 : ¬ shapeS s ∨ ¬ (1 ≤ n ∧ n ≤ 1024) := un_yes h1
    refine run_seq ?_
    refine run_region ?_
    refine run_op (loc_assign rfl) rfl ?_
    refine run_nil ?_
    refine run_retP Tryz.func49 rfl rfl ?_
    exact d_int (by unfold unitsS; rw [if_pos c1])
  ·
    have c1 : ¬ (¬ shapeS s ∨ ¬ (1 ≤ n ∧ n ≤ 1024)) := un_no h1
    have c2 : shapeS s := Classical.not_not.1 fun h => c1 (.inl h)
    have c3 : 1 ≤ n ∧ n ≤ 1024 := Classical.not_not.1 fun h => c1 (.inr h)
    have hbd := shape_bd c2
    refine run_skip ?_
    refine run_seq ?_
    refine run_seq ?_
    refine run_region ?_
    refine run_op (loc_fieldAddr rfl) rfl ?_
    refine run_op (loc_load1 rfl) rfl ?_
    refine run_op (loc_eql rfl rfl) rfl ?_
    refine run_nil ?_
    refine run_cond rfl (fun h2 => ?_) (fun h2 => ?_)
    ·
      have c4 := h2
      have hg : 1 ≤ s.group := by unfold shapeS at c2; omega
      refine run_seq ?_
      refine run_region ?_
      refine run_op (loc_move rfl) rfl ?_
      refine run_op (loc_fieldAddr rfl) rfl ?_
      refine run_op (loc_load1 rfl) rfl ?_
      first | refine run_op (loc_add rfl rfl (by first | omega | assumption)) rfl ?_ | refine run_op (loc_addW rfl rfl) rfl ?_
      first | refine run_op (loc_sub rfl rfl (by first | omega | assumption)) rfl ?_ | refine run_op (loc_subW rfl rfl) rfl ?_
      refine run_op (loc_fieldAddr rfl) rfl ?_
      refine run_op (loc_load1 rfl) rfl ?_
      first | refine run_op (loc_quo rfl rfl (by first | omega | assumption)) rfl ?_ | refine run_op (loc_quoW rfl rfl (by first | omega | assumption)) rfl ?_
      refine run_op (loc_assign rfl) rfl ?_
      refine run_nil ?_
      refine run_retP Tryz.func49 rfl rfl ?_
      exact d_int (by unfold unitsS; rw [if_neg c1, if_pos c4])
    ·
      refine run_skip ?_
      refine run_seq ?_
      refine run_region ?_
      refine run_op (loc_move rfl) rfl ?_
      refine run_op (loc_assign rfl) rfl ?_
      refine run_nil ?_
      refine run_retP Tryz.func49 rfl rfl ?_
      exact d_int (by unfold unitsS; rw [if_neg c1, if_neg (by assumption)])

theorem shold_spec (s : Schm) (t : Tab) (j : Int) : SpecP Tryz.prog 55 [dSchm s, dTab t, dInt .i64 j] (dTup [dRows (hldL s t j), dInt .i64 (hldE s t j)]) := by
  refine specP_of_body Tryz.func55 rfl rfl (fun I M => ?_)
  refine run_seq ?_
  refine run_region ?_
  refine run_op (loc_boxN rfl) rfl ?_
  refine run_op (loc_boxN rfl) rfl ?_
  refine run_op (loc_assign rfl) rfl ?_
  refine run_op (loc_assign rfl) rfl ?_
  refine run_nil ?_
  refine run_seq ?_
  refine run_seq ?_
  refine run_region ?_
  refine run_op (loc_loadN rfl rfl) rfl ?_
  refine run_op (loc_call (tcheck_spec _) rfl) rfl ?_
  refine run_op (loc_assign rfl) rfl ?_
  refine run_nil ?_
  refine run_seq ?_
  refine run_region ?_
  refine run_op (loc_move rfl) rfl ?_
  refine run_op (loc_neq rfl rfl) rfl ?_
  refine run_nil ?_
  refine run_cond rfl (fun h1 => ?_) (fun h1 => ?_)
  ·
    have c1 := h1
    refine run_seq ?_
    refine run_region ?_
    refine run_op (loc_move rfl) rfl ?_
    refine run_op (loc_assign rfl) rfl ?_
    refine run_op (loc_assign rfl) rfl ?_
    refine run_nil ?_
    refine run_ret2P Tryz.func55 rfl rfl rfl ?_
    exact d_tup2 (d_toRows (by unfold hldL; rw [if_pos (.inl c1)]) d_nil) (d_int (by unfold hldE; rw [if_pos c1]))
  ·
    have c1 := Classical.not_not.1 h1
    refine run_skip ?_
    refine run_seq ?_
    refine run_block ?_
    refine run_seq ?_
    refine run_region ?_
    refine run_op (loc_loadN rfl rfl) rfl ?_
    refine run_op (loc_fieldAddr rfl) rfl ?_
    refine run_op (loc_loadN rfl rfl) rfl ?_
    refine run_op (loc_call (valid_spec _ _) rfl) rfl ?_
    refine run_op (loc_not rfl) rfl ?_
    refine run_op (loc_assign rfl) rfl ?_
    refine run_nil ?_
    refine run_cond rfl (fun h2 => ?_) (fun h2 => ?_)
    ·
      have c2 := h2
      refine run_seq ?_
      refine run_region ?_
      refine run_op (loc_assign rfl) rfl ?_
      refine run_op (loc_assign rfl) rfl ?_
      refine run_nil ?_
      refine run_ret2P Tryz.func55 rfl rfl rfl ?_
      exact d_tup2 (d_toRows (by unfold hldL; rw [if_pos (.inr (.inl c2))]) d_nil) (d_int (by unfold hldE; rw [if_neg (Classical.not_not.2 c1), if_pos c2]))
    ·
      have c2 := Classical.not_not.1 h2
      refine run_seq ?_
      refine run_region ?_
      refine run_op (loc_move rfl) rfl ?_
      refine run_op (loc_fieldAddr rfl) rfl ?_
      refine run_op (loc_load1 rfl) rfl ?_
      refine run_op (loc_call (within_spec _ _ _) rfl) rfl ?_
      refine run_op (loc_not rfl) rfl ?_
      refine run_op (loc_assign rfl) rfl ?_
      refine run_nil ?_
      refine run_cond rfl (fun h3 => ?_) (fun h3 => ?_)
      ·
        have c3 := h3
        refine run_seq ?_
        refine run_region ?_
        refine run_op (loc_assign rfl) rfl ?_
        refine run_op (loc_assign rfl) rfl ?_
        refine run_nil ?_
        refine run_ret2P Tryz.func55 rfl rfl rfl ?_
        exact d_tup2 (d_toRows (by unfold hldL; rw [if_pos (.inr (.inr c3))]) d_nil) (d_int (by unfold hldE; rw [if_neg (Classical.not_not.2 c1), if_neg (Classical.not_not.2 c2), if_pos c3]))
      ·
        have c3 := Classical.not_not.1 h3
        refine run_seq ?_
        refine run_region ?_
        refine run_op (loc_fieldAddr rfl) rfl ?_
        refine run_op (loc_load1 rfl) rfl ?_
        refine run_op (loc_eql rfl rfl) rfl ?_
        refine run_op (loc_assign rfl) rfl ?_
        refine run_nil ?_
        refine run_cond rfl (fun h4 => ?_) (fun h4 => ?_)
        ·
          have c4 := h4
          refine run_seq ?_
          refine dr_start _ (.none) [⟨[(4, none)], [], none⟩,
              ⟨[(33, some (0, false))], [0], none⟩,
              ⟨[(3, none)], [], none⟩,
              ⟨[(35, some (2, false))], [2], none⟩,
              ⟨[(4, none)], [], none⟩,
              ⟨[(37, some (4, false))], [4], none⟩,
              ⟨[(4, none)], [], none⟩,
              ⟨[(39, some (6, false))], [6], none⟩,
              ⟨[(2, none)], [], none⟩,
              ⟨[(34, some (1, false)), (36, some (3, false)), (38, some (5, false)), (40, some (7, false)), (41, some (8, false))], [0, 1, 2, 3, 4, 5, 6, 7, 8], none⟩,
              ⟨[(42, some (9, false))], [0, 1, 2, 3, 4, 5, 6, 7, 8, 9], none⟩,
              ⟨[(42, some (9, false))], [0, 1, 2, 3, 4, 5, 6, 7, 8, 9], none⟩,
              ⟨[(43, some (10, false))], [0, 1, 2, 3, 4, 5, 6, 7, 8, 9, 10, 11], none⟩,
              ⟨[(44, some (11, false))], [0, 1, 2, 3, 4, 5, 6, 7, 8, 9, 10, 11, 12], none⟩] [] _ rfl rfl ?_
          refine dq_pure rfl (fun s => .g rfl (.nil)) (fun s hs _ => loc_fieldAddr rfl) (by exact .nil) ?_
          refine dq_pure rfl (fun s => .op rfl (.nil)) (fun s hs _ => loc_loadN rfl rfl) (by exact .nil) ?_
          refine dq_pure rfl (fun s => .g rfl (.nil)) (fun s hs _ => loc_loadN rfl rfl) (by exact .nil) ?_
          refine dq_pure rfl (fun s => .op rfl (.nil)) (fun s hs _ => loc_call (storage_spec _) rfl) (by exact .nil) ?_
          refine dq_pure rfl (fun s => .g rfl (.nil)) (fun s hs _ => loc_fieldAddr rfl) (by exact .nil) ?_
          refine dq_pure rfl (fun s => .op rfl (.nil)) (fun s hs _ => loc_load1 rfl) (by exact .nil) ?_
          refine dq_pure rfl (fun s => .g rfl (.nil)) (fun s hs _ => loc_fieldAddr rfl) (by exact .nil) ?_
          refine dq_pure rfl (fun s => .op rfl (.nil)) (fun s hs _ => loc_load1 rfl) (by exact .nil) ?_
          refine dq_pure rfl (fun s => .g rfl (.nil)) (fun s hs _ => loc_move rfl) (by exact .nil) ?_
          refine dq_pure rfl (fun s => .op rfl (.op rfl (.op rfl (.op rfl (.op rfl (.nil)))))) (fun s hs _ => loc_call (hold_spec _ _ _ _ _ _ _) rfl) (by exact .nil) ?_
          refine dq_pure rfl (fun s => .op rfl (.nil)) (fun s hs _ => loc_extract rfl rfl) (by exact .nil) ?_
          refine dq_pure rfl (fun s => .op rfl (.nil)) (fun s hs _ => loc_extract rfl rfl) (by exact .nil) ?_
          refine dq_pure rfl (fun s => .op rfl (.nil)) (fun s hs _ => loc_assign rfl) (by exact .nil) ?_
          refine dq_pure rfl (fun s => .op rfl (.nil)) (fun s hs _ => loc_assign rfl) (by exact .nil) ?_
          refine dq_end (rs := []) () rfl (fun _ => rfl) (.nil) rfl (fun _ => rfl) (fun _ _ => ?_)
          dsimp only [outG, outM, List.map, List.set, id]
          refine run_ret2P Tryz.func55 rfl rfl rfl ?_
          exact d_tup2 (d_toRows (by unfold hldL; rw [if_neg (hld_no c1 c2 c3), if_pos c4]) (fun _ _ h => h)) (d_int (by unfold hldE; rw [if_neg (Classical.not_not.2 c1), if_neg (Classical.not_not.2 c2), if_neg (Classical.not_not.2 c3), if_pos c4]))
        ·
          have c4 := h4
          refine run_skip ?_
          refine run_inBlock ?_
          refine run_seq ?_
          refine run_region ?_
          refine run_op (loc_assign rfl) rfl ?_
          refine run_nil ?_
          refine run_seq ?_
          refine run_seq ?_
          refine run_region ?_
          refine run_op (loc_fieldAddr rfl) rfl ?_
          refine run_op (loc_load1 rfl) rfl ?_
          first | refine runL_fact (s := 46) rfl (fun _ _ h => dSl_len h) (fun hlen5 => ?_) | skip
          refine run_op (loc_len rfl) rfl ?_
          refine run_op (loc_move rfl) rfl ?_
          refine run_nil ?_
          refine run_block ?_
          have hct := checkT_ok c1
          refine run_rowNil 44 1 fR ?_
          refine run_loopF (σ := Value × Nat) (ks := [46, 47]) (.cons rfl (.cons rfl (.nil))) (fun q => [(9, dVal q.1), (48, dInt .i64 (q.2 : Nat))]) (fun q => [rRow q.1 44 1 fR (t.rows.take q.2)]) (fun q => q.2 ≤ t.rows.length) (fun q => t.rows.length - q.2) ((.slice none 0 0, 0)) (Nat.zero_le _) (.cons rfl (by first | exact fun _ _ h => h | exact d_int (by omega) | exact d_int (by simp) | exact d_intN (by omega) | exact d_any) (.cons rfl (by first | exact fun _ _ h => h | exact d_int (by omega) | exact d_int (by simp) | exact d_intN (by omega) | exact d_any) .nil)) (rfl) ?_
          intro q hq ih6
          have hql : (t.rows.take q.2).length = q.2 := by rw [List.length_take]; omega
          refine run_seq ?_
          refine run_region ?_
          refine run_op (loc_lss rfl rfl) rfl ?_
          refine run_nil ?_
          refine run_seq ?_
          refine run_cond rfl (fun h7 => ?_) (fun h7 => ?_)
          ·
            have hrl := (hct.2.2.2.2 _ (getD_mem (xs := t.rows) (k := q.2) (by omega))).1
            refine run_skip ?_
            refine run_seq ?_
            refine run_block ?_
            refine run_seq ?_
            refine run_region ?_
            first | refine run_op (loc_index rfl rfl (by first | omega | assumption)) rfl ?_ | refine run_op (loc_indexI rfl rfl (by first | omega | assumption)) rfl ?_
            refine run_op (loc_load1 rfl) rfl ?_
            refine run_op (loc_assign rfl) rfl ?_
            refine run_nil ?_
            refine run_region ?_
            refine run_op (loc_move rfl) rfl ?_
            refine run_op (loc_move rfl) rfl ?_
            refine run_op (loc_call (cloneI_spec _ (by omega)) rfl) rfl ?_
            refine run_op (loc_buildSlice rfl rfl (.one rfl (.nil)) rfl rfl) rfl ?_
            refine run_append1 rfl (.here) rfl (by rfl) (by rfl) (by first | omega | (unfold lenMax; omega) | assumption | (simp; omega) | (simp [lenMax]; omega)) (by first | omega | (unfold lenMax; omega) | assumption | (simp; omega) | (simp [lenMax]; omega)) rfl (fun v8 => ?_)
            refine run_op (loc_assign rfl) rfl ?_
            refine run_nil ?_
            refine run_inBlock ?_
            refine run_region ?_
            first | refine run_op (loc_add rfl rfl (by first | omega | assumption)) rfl ?_ | refine run_op (loc_addW rfl rfl) rfl ?_
            refine run_op (loc_move rfl) rfl ?_
            refine run_nil ?_
            exact run_againF ih6 ((v8, q.2 + 1)) (by simp only; omega) (by simp only; omega) (.cons rfl (by first | exact fun _ _ h => h | exact d_int (by omega) | exact d_int (by simp) | exact d_intN (by omega) | exact d_any) (.cons rfl (by first | exact fun _ _ h => h | exact d_int (by omega) | exact d_int (by simp) | exact d_intN (by omega) | exact d_any) .nil)) (.cons rfl (fun _ _ x => x) (.cons rfl (fun _ _ x => x) (.nil))) (by simp only [appR]; rw [take_snocR (by omega)])
          ·
            refine run_exit rfl ?_
            refine run_seq ?_
            refine run_freezeRow (s := 9) rfl (.here) ?_
            refine run_region ?_
            refine run_op (loc_move rfl) rfl ?_
            refine run_op (loc_assign rfl) rfl ?_
            refine run_op (loc_assign rfl) rfl ?_
            refine run_nil ?_
            refine run_ret2P Tryz.func55 rfl rfl rfl ?_
            exact d_tup2 (d_eq (by unfold hldL; rw [if_neg (hld_no c1 c2 c3), if_neg c4, List.take_of_length_le (by omega)])) (d_int (by unfold hldE; rw [if_neg (Classical.not_not.2 c1), if_neg (Classical.not_not.2 c2), if_neg (Classical.not_not.2 c3), if_neg c4]))

end Go.Q

namespace Go.Q
open Classical

def keptOk (l : List Int) (j : Nat) : Prop := 1 ≤ l[j]?.getD default ∧ l[j]?.getD default ≤ 2147483646 ∧ (0 < j → l[j - 1]?.getD default < l[j]?.getD default)
def rowOk (kept : List Int) (l : List Pn) (j : Nat) : Prop := 0 ≤ (l[j]?.getD default).session ∧ (0 < j → (l[j - 1]?.getD default).session < (l[j]?.getD default).session) ∧ (l[j]?.getD default).version ∈ kept
structure okPins (p : Pins) : Prop where
  one : 1 ≤ p.kept.length
  most : p.kept.length ≤ 16
  reads : p.rows.length ≤ 64
  kept : ∀ j, j < p.kept.length → keptOk p.kept j
  rows : ∀ j, j < p.rows.length → rowOk p.kept p.rows j
theorem cmpI_neg {x y : Int} : cmpI x y < 0 ↔ x < y := by unfold cmpI; split <;> (try split) <;> omega
theorem cmpI_zero {x y : Int} : cmpI x y = 0 ↔ x = y := by unfold cmpI; split <;> (try split) <;> omega

end Go.Q

namespace Go.Q
open Classical

structure Dc where
  xs : List Int
  k : Nat
deriving Inhabited
def Dc.val (d : Dc) (n : Int) : Int := if d.k < d.xs.length then d.xs[d.k]?.getD default % n else 0
def Dc.next (d : Dc) : Dc := ⟨d.xs, if d.k < d.xs.length then d.k + 1 else d.k⟩
structure okDc (d : Dc) : Prop where
  byte : ∀ x ∈ d.xs, 0 ≤ x ∧ x ≤ 255
  len : d.xs.length ≤ 300
theorem Dc.val_nonneg {d : Dc} {n : Int} (hn : 1 ≤ n) : 0 ≤ d.val n := by
  unfold Dc.val
  split
  · exact Int.emod_nonneg _ (by omega)
  · omega
theorem Dc.val_lt {d : Dc} {n : Int} (hn : 1 ≤ n) : d.val n < n := by
  unfold Dc.val
  split
  · exact Int.emod_lt_of_pos _ (by omega)
  · omega
theorem Dc.next_ok {d : Dc} (h : okDc d) : okDc d.next := ⟨h.byte, h.len⟩

/-- Rows in order, told by pairs. -/
structure rowsP (kept : List Int) (l : List Pn) : Prop where
  nonneg : ∀ r ∈ l, 0 ≤ r.session
  mem : ∀ r ∈ l, r.version ∈ kept
  asc : l.Pairwise fun a b => a.session < b.session

/-- Versions in order, told by pairs. -/
structure keptP (l : List Int) : Prop where
  bd : ∀ v ∈ l, 1 ≤ v ∧ v ≤ 2147483646
  asc : l.Pairwise fun a b => a < b

end Go.Q
