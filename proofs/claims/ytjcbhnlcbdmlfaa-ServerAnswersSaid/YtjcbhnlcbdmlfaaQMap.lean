/- Contracts of what servers hold, and of tables. -/
import Derived.Test.YtjcbhnlcbdmlfaaQCoded
import Derived.Test.YtjcbhnlcbdmlfaaQBy
import Derived.MapKept
set_option linter.unusedVariables false
set_option linter.unusedSimpArgs false
namespace Go.Q
open Go.Proofs

open Classical
theorem groups1_iter (rows : List (List Int)) (g : Int) (hg : 1 ≤ g ∧ g ≤ 100) (hl : rows.length ≤ 1024) : ∀ (I : Imm) (lb : List Value), relL [dBox [dInt .i64 g], dBox [dRows rows]] I lb → IterOk Try.prog 102 lb (α := Nat × List (List Int)) (fun q => [dInt .i64 (q.1 : Nat), dRows q.2]) (grpL rows g.toNat) ([]) I := by
  refine iter_of_body Try.func102 rfl rfl (fun l σ φ Mo F s0 I h0 hy => ?_)
  refine run_seq ?_
  refine run_region ?_
  refine run_op (loc_assign rfl) rfl ?_
  refine run_nil ?_
  refine run_block ?_
  refine run_loopE (σ := Nat × σ) (ks := [0, 1, 2]) (.cons rfl (.cons rfl (.cons rfl (.nil)))) (fun t => [(4, dInt .i64 (t.1 : Nat))]) (fun t => Mo t.1 t.2 ++ F) (fun t => t.1 ≤ grpN rows.length g.toNat ∧ φ t.1 t.2) (fun t => rows.length - t.1) ((0, s0)) (⟨Nat.zero_le _, h0⟩) (.cons rfl (by first | exact fun _ _ h => h | exact d_int (by omega) | exact d_int (by simp) | exact d_intN (by omega) | exact d_any) .nil) (rfl) ?_
  rintro t ⟨hi, hs⟩ ih1
  have hgn : grpN rows.length g.toNat ≤ rows.length := by by_cases h : grpN rows.length g.toNat ≤ rows.length; (· exact h); (· exfalso; have := (grpN_lt (n := rows.length) (g := g.toNat) (i := rows.length) (by omega)).1 (by omega); have := Nat.le_mul_of_pos_right rows.length (show 0 < g.toNat by omega); omega)
  have hm := mul_bd (a := (t.1 : Int)) (b := g) (A := 1024) (B := 100) (by omega) (by omega) (by omega) (by omega)
  have hmn : ((t.1 * g.toNat : Nat) : Int) = (t.1 : Int) * g := by rw [Int.natCast_mul, show ((g.toNat : Nat) : Int) = g by omega]
  have hm1 : ((t.1 : Int) + 1) * g = (t.1 : Int) * g + g := by rw [Int.add_mul, Int.one_mul]
  refine run_seq ?_
  refine run_seq ?_
  refine run_region ?_
  refine run_op (loc_move rfl) rfl ?_
  refine run_op (loc_load1 rfl) rfl ?_
  first | refine run_op (loc_mul rfl rfl (by first | omega | assumption | (refine ⟨?_, ?_⟩ <;> omega))) rfl ?_ | refine run_op (loc_mulW rfl rfl) rfl ?_
  refine run_op (loc_load1 rfl) rfl ?_
  first | refine runL_fact (s := 8) rfl (fun _ _ h => dSl_len h) (fun hlen2 => ?_) | skip
  refine run_op (loc_len rfl) rfl ?_
  refine run_op (loc_lss rfl rfl) rfl ?_
  refine run_nil ?_
  refine run_cond rfl (fun h3 => ?_) (fun h3 => ?_)
  ·
    have hlt := (grpN_lt (n := rows.length) (g := g.toNat) (i := t.1) (by omega)).2 (by omega)
    have hlo : ((t.1 : Int) * g).toNat = t.1 * g.toNat := by omega
    have hmin : (min (((t.1 : Int) + 1) * g) (rows.length : Int)).toNat = min ((t.1 + 1) * g.toNat) rows.length := by rw [Nat.add_mul, Nat.one_mul]; omega
    refine run_skip ?_
    refine run_seq ?_
    refine run_block ?_
    refine run_seq ?_
    refine run_region ?_
    refine run_op (loc_move rfl) rfl ?_
    refine run_op (loc_move rfl) rfl ?_
    refine run_op (loc_load1 rfl) rfl ?_
    refine run_op (loc_move rfl) rfl ?_
    refine run_op (loc_load1 rfl) rfl ?_
    first | refine run_op (loc_mul rfl rfl (by first | omega | assumption | (refine ⟨?_, ?_⟩ <;> omega))) rfl ?_ | refine run_op (loc_mulW rfl rfl) rfl ?_
    refine run_op (loc_move rfl) rfl ?_
    first | refine run_op (loc_add rfl rfl (by first | omega | assumption | (refine ⟨?_, ?_⟩ <;> omega))) rfl ?_ | refine run_op (loc_addW rfl rfl) rfl ?_
    refine run_op (loc_load1 rfl) rfl ?_
    first | refine run_op (loc_mul rfl rfl (by first | omega | assumption | (refine ⟨?_, ?_⟩ <;> omega))) rfl ?_ | refine run_op (loc_mulW rfl rfl) rfl ?_
    refine run_op (loc_load1 rfl) rfl ?_
    first | refine runL_fact (s := 23) rfl (fun _ _ h => dSl_len h) (fun hlen4 => ?_) | skip
    refine run_op (loc_len rfl) rfl ?_
    refine run_op (loc_min rfl rfl) rfl ?_
    refine run_op (loc_slice rfl rfl rfl (by first | omega | assumption | (refine ⟨?_, ?_⟩ <;> omega))) rfl ?_
    refine run_yieldOp hy (i := t.1) (x := (t.1, (rows.take (min ((t.1 + 1) * g.toNat) rows.length)).drop (t.1 * g.toNat))) (s := t.2) rfl rfl rfl (grpL_get (by omega) (by omega)) hs rfl (fun I us hr => by match us, hr with | [u1, u2], hr => exact ⟨hr.1, d_toRows (by rw [hlo, hmin]) (fun _ _ h => h) _ _ hr.2.1, trivial⟩) (fun s9 hs9 => ?_)
    refine run_op (loc_not rfl) rfl ?_
    refine run_nil ?_
    refine run_cond rfl (fun h5 => ?_) (fun h5 => ?_)
    · exfalso; simp at h5
    ·
      refine run_skip ?_
      refine run_inBlock ?_
      refine run_region ?_
      refine run_op (loc_move rfl) rfl ?_
      first | refine run_op (loc_add rfl rfl (by first | omega | assumption | (refine ⟨?_, ?_⟩ <;> omega))) rfl ?_ | refine run_op (loc_addW rfl rfl) rfl ?_
      refine run_op (loc_assign rfl) rfl ?_
      refine run_nil ?_
      exact run_againE ih1 ((t.1 + 1, s9)) (⟨by simp only; omega, hs9⟩) (by simp only; omega) (.cons rfl (by first | exact fun _ _ h => h | exact d_int (by omega) | exact d_int (by simp) | exact d_intN (by omega) | exact d_any) .nil) (.cons rfl (fun _ _ x => x) (.cons rfl (fun _ _ x => x) (.cons rfl (fun _ _ x => x) (.nil)))) (rfl)
  ·
    have hnl : ¬ t.1 < grpN rows.length g.toNat := fun h => by have := (grpN_lt (n := rows.length) (g := g.toNat) (i := t.1) (by omega)).1 h; omega
    refine run_exit rfl ?_
    refine run_ret0End (t.2) Try.func102 rfl  ?_ (by rw [grpL_len, show grpN rows.length g.toNat = t.1 by omega]; exact hs) (fun _ _ h => by rw [grpL_len, show grpN rows.length g.toNat = t.1 by omega]; exact h)
    exact fun _ _ _ => trivial

theorem groups_spec (rows : List (List Int)) (g : Int) (hg : 1 ≤ g ∧ g ≤ 100) (hl : rows.length ≤ 1024) : SpecP Try.prog 91 [dRows rows, dInt .i64 g] (dSeq Try.prog (fun q : Nat × List (List Int) => [dInt .i64 (q.1 : Nat), dRows q.2]) (grpL rows g.toNat)) := by
  refine specP_of_body Try.func91 rfl rfl (fun I M => ?_)
  refine run_seq ?_
  refine run_region ?_
  refine run_op (loc_box1 rfl) rfl ?_
  refine run_op (loc_box1 rfl) rfl ?_
  refine run_op (loc_assign rfl) rfl ?_
  refine run_nil ?_
  refine run_seq ?_
  refine run_region ?_
  refine run_op (loc_makeFunc rfl) rfl ?_
  refine run_op (loc_assign rfl) rfl ?_
  refine run_nil ?_
  refine run_retP Try.func91 rfl rfl ?_
  exact clo_seq (groups1_iter rows g hg hl)

theorem holdM_spec (p s d g wd j : Int) (rows : List (List Int)) : Spec Try.prog 62 [dAgg [dInt .i64 p], dAgg [dInt .i64 s, dInt .i64 d, dInt .i64 g], dInt .i64 wd, dRows rows, dInt .i64 j] [] (σ := Value) (fun _ => True) (fun v => dTup [dVal v, dInt .i64 (holdE p s d g wd rows j)]) (fun v => [rRow v 35 1 fR (holdG p s d g wd rows j)]) := by
  refine spec_of_body Try.func62 rfl rfl (fun I F => ?_)
  refine run_seq ?_
  refine run_region ?_
  refine run_op (loc_boxN rfl) rfl ?_
  refine run_op (loc_boxN rfl) rfl ?_
  refine run_op (loc_box1 rfl) rfl ?_
  refine run_op (loc_box1 rfl) rfl ?_
  refine run_op (loc_assign rfl) rfl ?_
  refine run_op (loc_assign rfl) rfl ?_
  refine run_nil ?_
  refine run_seq ?_
  refine run_seq ?_
  refine run_region ?_
  refine run_op (loc_loadN rfl rfl) rfl ?_
  refine run_op (loc_loadN rfl rfl) rfl ?_
  refine run_op (loc_call (gcheck_spec _ _ _ _) rfl) rfl ?_
  refine run_op (loc_assign rfl) rfl ?_
  refine run_nil ?_
  refine run_seq ?_
  refine run_region ?_
  refine run_op (loc_move rfl) rfl ?_
  refine run_op (loc_neq rfl rfl) rfl ?_
  refine run_nil ?_
  refine run_cond rfl (fun h1 => ?_) (fun h1 => ?_)
  ·
    have c1 := h1
    refine run_seq ?_
    refine run_region ?_
    refine run_op (loc_move rfl) rfl ?_
    refine run_op (loc_assign rfl) rfl ?_
    refine run_op (loc_assign rfl) rfl ?_
    refine run_nil ?_
    have hE : holdE p s d g wd rows j = codE p s d g := by unfold holdE; rw [if_pos c1]
    refine run_ret2 (.slice none 0 0) Try.func62 rfl rfl rfl ?_ (trivial) (fun I w h => by rw [show holdG p s d g wd rows j = [] by unfold holdG; rw [if_neg (by rw [hE]; omega)]]; exact nil_ok ((fun _ _ h => h.sub (.refl _)) I w h))
    exact d_tup2 (fun _ _ h => h) (d_int hE.symm)
  ·
    have c1 := Classical.not_not.1 h1
    refine run_skip ?_
    refine run_seq ?_
    refine run_seq ?_
    refine run_region ?_
    refine run_op (loc_load1 rfl) rfl ?_
    refine run_op (loc_lss rfl rfl) rfl ?_
    refine run_op (loc_move rfl) rfl ?_
    refine run_gfirst rfl rfl (by first | exact guard_true _ | exact guard_false _ | exact guard_if (guard_true _) | exact guard_if (guard_false _)) (fun hg => loc_load1 rfl) rfl ?_
    refine run_gop rfl rfl (by first | exact guard_true _ | exact guard_false _ | exact guard_if (guard_true _) | exact guard_if (guard_false _)) (fun hg => loc_fieldAddr rfl) rfl ?_
    refine run_gop rfl rfl (by first | exact guard_true _ | exact guard_false _ | exact guard_if (guard_true _) | exact guard_if (guard_false _)) (fun hg => loc_load1 rfl) rfl ?_
    refine run_gop rfl rfl (by first | exact guard_true _ | exact guard_false _ | exact guard_if (guard_true _) | exact guard_if (guard_false _)) (fun hg => loc_gtr rfl rfl) rfl ?_
    refine run_gleave ?_
    refine run_op (loc_or rfl rfl) rfl ?_
    refine run_nil ?_
    refine run_cond rfl (fun h2 => ?_) (fun h2 => ?_)
    ·
      have c2 := h2
      refine run_seq ?_
      refine run_region ?_
      refine run_op (loc_assign rfl) rfl ?_
      refine run_op (loc_assign rfl) rfl ?_
      refine run_nil ?_
      have hE : holdE p s d g wd rows j = 1 := by unfold holdE; rw [if_neg (Classical.not_not.2 c1), if_pos (by omega)]
      refine run_ret2 (.slice none 0 0) Try.func62 rfl rfl rfl ?_ (trivial) (fun I w h => by rw [show holdG p s d g wd rows j = [] by unfold holdG; rw [if_neg (by rw [hE]; omega)]]; exact nil_ok ((fun _ _ h => h.sub (.refl _)) I w h))
      exact d_tup2 (fun _ _ h => h) (d_int hE.symm)
    ·
      have c2 := h2
      refine run_skip ?_
      refine run_seq ?_
      refine run_seq ?_
      refine run_region ?_
      refine run_op (loc_load1 rfl) rfl ?_
      refine run_op (loc_call (wide_spec _) rfl) rfl ?_
      refine run_op (loc_not rfl) rfl ?_
      refine run_op (loc_move rfl) rfl ?_
      refine run_gfirst rfl rfl (by first | exact guard_true _ | exact guard_false _ | exact guard_if (guard_true _) | exact guard_if (guard_false _)) (fun hg => loc_move rfl) rfl ?_
      refine run_gop rfl rfl (by first | exact guard_true _ | exact guard_false _ | exact guard_if (guard_true _) | exact guard_if (guard_false _)) (fun hg => loc_len rfl) rfl ?_
      refine run_gop rfl rfl (by first | exact guard_true _ | exact guard_false _ | exact guard_if (guard_true _) | exact guard_if (guard_false _)) (fun hg => loc_gtr rfl rfl) rfl ?_
      refine run_gleave ?_
      refine run_op (loc_or rfl rfl) rfl ?_
      refine run_nil ?_
      refine run_cond rfl (fun h3 => ?_) (fun h3 => ?_)
      ·
        have c3 := h3
        refine run_seq ?_
        refine run_region ?_
        refine run_op (loc_assign rfl) rfl ?_
        refine run_op (loc_assign rfl) rfl ?_
        refine run_nil ?_
        have hE : holdE p s d g wd rows j = 4 := by unfold holdE; rw [if_neg (Classical.not_not.2 c1), if_neg (by omega), if_pos (by omega)]
        refine run_ret2 (.slice none 0 0) Try.func62 rfl rfl rfl ?_ (trivial) (fun I w h => by rw [show holdG p s d g wd rows j = [] by unfold holdG; rw [if_neg (by rw [hE]; omega)]]; exact nil_ok ((fun _ _ h => h.sub (.refl _)) I w h))
        exact d_tup2 (fun _ _ h => h) (d_int hE.symm)
      ·
        have c3 := h3
        refine run_skip ?_
        refine run_seq ?_
        obtain ⟨hp, hs, hsp, hd, hg, hgd⟩ := codE_zero c1
        have hpb := hp.1
        have hpb2 := hp.2.1
        have hof : okP p := hp
        refine run_region ?_
        refine run_op (loc_fieldAddr rfl) rfl ?_
        refine run_op (loc_load1 rfl) rfl ?_
        refine run_new (loc_allocOwn (by simp)) rfl (fun b4 _ => ?_)
        refine run_store1 rfl rfl (.here) (by rfl) ?_
        refine run_nil ?_
        refine run_seq ?_
        refine run_seq ?_
        refine run_region ?_
        refine run_op (loc_move rfl) rfl ?_
        first | refine runL_fact (s := 46) rfl (fun _ _ h => dSl_len h) (fun hlen5 => ?_) | skip
        refine run_op (loc_len rfl) rfl ?_
        refine run_op (loc_move rfl) rfl ?_
        refine run_nil ?_
        refine run_block ?_
        refine run_loopC (σ := Nat) (ks := [3, 6, 7, 9, 13, 46, 47]) (.cons rfl (.cons rfl (.cons rfl (.cons rfl (.cons rfl (.cons rfl (.cons rfl (.nil)))))))) (fun k => [(48, dInt .i64 (k : Nat))]) (fun k => k ≤ rows.length ∧ (∀ i, i < k → rowErr p wd (rows[i]?.getD default) = 0)) (fun k => rows.length - k) (0) (⟨by omega, fun i hi => by omega⟩) (.cons rfl (by first | exact fun _ _ h => h | exact d_int (by omega) | exact d_int (by simp) | exact d_intN (by omega) | exact d_any) .nil) ?_
        rintro k ⟨hk, hbk⟩ ih6
        refine run_seq ?_
        refine run_region ?_
        refine run_op (loc_lss rfl rfl) rfl ?_
        refine run_nil ?_
        refine run_seq ?_
        refine run_cond rfl (fun h7 => ?_) (fun h7 => ?_)
        ·
          refine run_skip ?_
          refine run_seq ?_
          refine run_block ?_
          refine run_seq ?_
          refine run_region ?_
          first | refine run_op (loc_index rfl rfl (by first | omega | assumption)) rfl ?_ | refine run_op (loc_indexI rfl rfl (by first | omega | assumption)) rfl ?_
          refine run_op (loc_load1 rfl) rfl ?_
          refine run_op (loc_assign rfl) rfl ?_
          refine run_nil ?_
          refine run_seq ?_
          refine run_seq ?_
          refine run_region ?_
          refine run_op (loc_move rfl) rfl ?_
          first | refine runL_fact (s := 52) rfl (fun _ _ h => dSl_len h) (fun hlen8 => ?_) | skip
          refine run_op (loc_len rfl) rfl ?_
          refine run_op (loc_load1 rfl) rfl ?_
          refine run_op (loc_neq rfl rfl) rfl ?_
          refine run_nil ?_
          refine run_cond rfl (fun h9 => ?_) (fun h9 => ?_)
          ·
            refine run_seq ?_
            refine run_region ?_
            refine run_op (loc_assign rfl) rfl ?_
            refine run_op (loc_assign rfl) rfl ?_
            refine run_nil ?_
            have hE : holdE p s d g wd rows j = 2 := by unfold holdE; rw [if_neg (Classical.not_not.2 c1), if_neg (by omega), if_neg (by omega), firstErr_at (i := k) (by omega) hbk (by unfold rowErr; rw [if_pos (by omega)]; omega), rowErr, if_pos (by omega)]
            refine run_ret2 (.slice none 0 0) Try.func62 rfl rfl rfl ?_ (trivial) (fun I w h => by rw [show holdG p s d g wd rows j = [] by unfold holdG; rw [if_neg (by rw [hE]; omega)]]; exact nil_ok ((fun _ _ h => h.sub (.cons _ (.refl _))) I w h))
            exact d_tup2 (fun _ _ h => h) (d_int hE.symm)
          ·
            refine run_skip ?_
            refine run_seq ?_
            refine run_region ?_
            refine run_op (loc_loadOwn1 rfl (.here) (by rfl)) rfl ?_
            refine run_op (loc_move rfl) rfl ?_
            refine run_op (loc_call (all_spec _ _) rfl) rfl ?_
            refine run_op (loc_not rfl) rfl ?_
            refine run_nil ?_
            refine run_cond rfl (fun h10 => ?_) (fun h10 => ?_)
            ·
              have r9 : ¬ allP p (rows[k]?.getD default) := h10
              refine run_seq ?_
              refine run_region ?_
              refine run_op (loc_assign rfl) rfl ?_
              refine run_op (loc_assign rfl) rfl ?_
              refine run_nil ?_
              have hE : holdE p s d g wd rows j = 9 := by unfold holdE; rw [if_neg (Classical.not_not.2 c1), if_neg (by omega), if_neg (by omega), firstErr_at (i := k) (by omega) hbk (by unfold rowErr; rw [if_neg (by omega), if_pos r9]; omega), rowErr, if_neg (by omega), if_pos r9]
              refine run_ret2 (.slice none 0 0) Try.func62 rfl rfl rfl ?_ (trivial) (fun I w h => by rw [show holdG p s d g wd rows j = [] by unfold holdG; rw [if_neg (by rw [hE]; omega)]]; exact nil_ok ((fun _ _ h => h.sub (.cons _ (.refl _))) I w h))
              exact d_tup2 (fun _ _ h => h) (d_int hE.symm)
            ·
              have r9 : allP p (rows[k]?.getD default) := Classical.not_not.1 h10
              refine run_skip ?_
              refine run_inBlock ?_
              refine run_region ?_
              first | refine run_op (loc_add rfl rfl (by first | omega | assumption)) rfl ?_ | refine run_op (loc_addW rfl rfl) rfl ?_
              refine run_op (loc_move rfl) rfl ?_
              refine run_nil ?_
              exact run_againC ih6 (k + 1) (⟨by omega, fun i hi => by by_cases e : i = k; (· subst e; unfold rowErr; rw [if_neg (by omega), if_neg (Classical.not_not.2 r9)]); (· exact hbk i (by omega))⟩) (by omega) (.cons rfl (by first | exact fun _ _ h => h | exact d_int (by omega) | exact d_int (by simp) | exact d_intN (by omega) | exact d_any) .nil) (.cons rfl (fun _ _ x => x) (.cons rfl (fun _ _ x => x) (.cons rfl (fun _ _ x => x) (.cons rfl (fun _ _ x => x) (.cons rfl (fun _ _ x => x) (.cons rfl (fun _ _ x => x) (.cons rfl (fun _ _ x => x) (.nil))))))))
        ·
          refine run_exit rfl ?_
          refine run_seq ?_
          refine run_freezeCells (s := 13) rfl (.here) ?_
          have hE : holdE p s d g wd rows j = 0 := by unfold holdE; rw [if_neg (Classical.not_not.2 c1), if_neg (by omega), if_neg (by omega), firstErr_none' (fun i hi => hbk i (by omega))]
          have hall : ∀ r ∈ rows, (r.length : Int) = wd ∧ ∀ x ∈ r, hasP p x := by
            intro r hr
            obtain ⟨i, hi⟩ := List.getElem?_of_mem hr
            have h1 := hbk i (by have := (List.getElem?_eq_some_iff.1 hi).1; omega)
            rw [hi] at h1
            exact rowErr_ok h1
          refine run_region ?_
          refine run_new (loc_allocOwn (by simp)) rfl (fun b16 _ => ?_)
          refine run_nil ?_
          refine run_seq ?_
          refine run_seq ?_
          refine run_region ?_
          refine run_op (loc_move rfl) rfl ?_
          refine run_op (loc_fieldAddr rfl) rfl ?_
          refine run_op (loc_load1 rfl) rfl ?_
          refine run_op (loc_call (groups_spec _ _ ⟨by omega, by omega⟩ (by omega)) rfl) rfl ?_
          refine run_nil ?_
          refine run_block ?_
          refine run_rowNil 35 1 fR ?_
          refine run_cellsUp (kk := 0) (b := b16) (dVal (.slice none 0 0)) (dSlV (.slice none 0 0)) (.there (.here)) rfl (fun J u h => ⟨h, _, _, _, h⟩) ?_
          refine run_front (.here) ?_
          refine run_front (.there (.here)) ?_
          refine run_rangeFunc (σ := Value) (ps := [65, 66]) (fun i v0 => True) (fun i v0 => [rCells b16 36 [dSlV v0], rRow v0 35 1 fR (((grpL rows g.toNat).take i).map fun q => heldG p j wd.toNat q.2)]) (.slice none 0 0) rfl rfl rfl (fun _ => rfl) rfl (trivial) rfl (fun i x1 v0 l1 r1 F1 J hx1 hφ => ?_) (fun D v0 hφ => ?_)
          ·
            dsimp only [setP]
            have hmem := List.mem_of_getElem? hx1
            have hii := (List.getElem?_eq_some_iff.1 hx1).1
            obtain ⟨hgm, hgl⟩ := grpL_mem hmem
            have hml : (((grpL rows g.toNat).take i).map fun q => heldG p j wd.toNat q.2).length = i := by rw [List.length_map, List.length_take]; omega
            rw [grpL_len] at hii
            have hgn : grpN rows.length g.toNat ≤ rows.length := by by_cases h : grpN rows.length g.toNat ≤ rows.length; (· exact h); (· exfalso; have := (grpN_lt (n := rows.length) (g := g.toNat) (i := rows.length) (by omega)).1 (by omega); have := Nat.le_mul_of_pos_right rows.length (show 0 < g.toNat by omega); omega)
            refine run_region ?_
            refine run_op (loc_assign rfl) rfl ?_
            refine run_nil ?_
            refine run_beginR (.here) ?_
            refine run_block ?_
            refine run_seq ?_
            refine run_region ?_
            refine run_op (loc_load1 rfl) rfl ?_
            refine run_new (loc_makeSlice rfl rfl (by first | omega | assumption) (by first | omega | assumption) _ _ rfl (by simp)) rfl (fun b68 _ => ?_)
            refine run_op (loc_assign rfl) rfl ?_
            refine run_nil ?_
            refine run_seq ?_
            refine run_seq ?_
            refine run_region ?_
            refine run_op (loc_move rfl) rfl ?_
            first | refine runL_fact (s := 69) rfl (fun _ _ h => dSl_len h) (fun hlen12 => ?_) | skip
            refine run_op (loc_len rfl) rfl ?_
            refine run_op (loc_move rfl) rfl ?_
            refine run_nil ?_
            refine run_block ?_
            refine run_loopF (σ := Nat) (ks := [9, 13, 16, 19, 69, 70]) (.cons rfl (.cons rfl (.cons rfl (.cons rfl (.cons rfl (.cons rfl (.nil))))))) (fun k => [(71, dInt .i64 (k : Nat))]) (fun k => [rRow (.slice (some ⟨b68, 0, none⟩) wd.toNat wd.toNat) 3 1 fI (heldN p j wd.toNat x1.2 k)]) (fun k => k ≤ x1.2.length) (fun k => x1.2.length - k) (0) (Nat.zero_le _) (.cons rfl (by first | exact fun _ _ h => h | exact d_int (by omega) | exact d_int (by simp) | exact d_intN (by omega) | exact d_any) .nil) (rfl) ?_
            intro k hk ih13
            have hho := heldN_ok hpb j wd.toNat x1.2 k
            have hpw : 0 ≤ powM p j k ∧ powM p j k < p := mod_bd _ (by omega)
            refine run_seq ?_
            refine run_region ?_
            refine run_op (loc_lss rfl rfl) rfl ?_
            refine run_nil ?_
            refine run_seq ?_
            refine run_cond rfl (fun h14 => ?_) (fun h14 => ?_)
            ·
              have hrow := hgm (x1.2[k]?.getD default) (getD_mem (by omega))
              have hre := hall _ hrow
              refine run_skip ?_
              refine run_seq ?_
              refine run_block ?_
              refine run_seq ?_
              refine run_region ?_
              refine run_op (loc_move rfl) rfl ?_
              first | refine run_op (loc_index rfl rfl (by first | omega | assumption)) rfl ?_ | refine run_op (loc_indexI rfl rfl (by first | omega | assumption)) rfl ?_
              refine run_op (loc_load1 rfl) rfl ?_
              refine run_op (loc_assign rfl) rfl ?_
              refine run_op (loc_assign rfl) rfl ?_
              refine run_nil ?_
              refine dr_start _ (.none) [⟨[(13, none)], [], none⟩,
                  ⟨[(19, none)], [], none⟩,
                  ⟨[(13, none)], [], none⟩,
                  ⟨[(9, none)], [], none⟩,
                  ⟨[(20, none)], [], none⟩,
                  ⟨[(78, some (2, false)), (79, some (3, false)), (80, some (4, false))], [2, 3, 4], none⟩,
                  ⟨[(21, none)], [], none⟩,
                  ⟨[(76, some (0, false)), (77, some (1, false)), (81, some (5, false)), (82, some (6, false))], [0, 1, 2, 3, 4, 5, 6], some (0, 0, true)⟩] [_, _, _, _] _ rfl rfl ?_
              refine dq_pure rfl (fun s => .g rfl (.nil)) (fun s hs _ => loc_load1 rfl) (by exact .nil) ?_
              refine dq_pure rfl (fun s => .g rfl (.nil)) (fun s hs _ => loc_move rfl) (by exact .nil) ?_
              refine dq_pure rfl (fun s => .g rfl (.nil)) (fun s hs _ => loc_load1 rfl) (by exact .nil) ?_
              refine dq_pure rfl (fun s => .g rfl (.nil)) (fun s hs _ => loc_load1 rfl) (by exact .nil) ?_
              refine dq_pure rfl (fun s => .g rfl (.nil)) (fun s hs _ => loc_move rfl) (by exact .nil) ?_
              refine dq_pure rfl (fun s => .op rfl (.op rfl (.op rfl (.nil)))) (fun s hs _ => loc_call (power_spec _ _ _ ⟨hpb, hpb2⟩ ⟨by omega, by omega⟩ (by omega)) rfl) (by exact .nil) ?_
              refine dq_pure rfl (fun s => .g rfl (.nil)) (fun s hs _ => loc_move rfl) (by exact .nil) ?_
              refine dq_write rfl (fun s => .op rfl (.op rfl (.op rfl (.op rfl (.nil))))) rfl rfl (fun s hs => loc_callM (addTimes_spec _ _ _ _ _ ⟨hpb, hpb2⟩ ⟨by omega, by omega⟩ hho.2 hre.2 (by rw [hho.1]; omega)) rfl) (by exact .nil) ?_
              refine dq_end (rs := [_, _, _, _]) () rfl (fun _ => rfl) (.nil) rfl (fun _ _ => ?_)
              dsimp only [outG, outM, List.map, List.set, id]
              refine run_inBlock ?_
              refine run_region ?_
              first | refine run_op (loc_add rfl rfl (by first | omega | assumption)) rfl ?_ | refine run_op (loc_addW rfl rfl) rfl ?_
              refine run_op (loc_move rfl) rfl ?_
              refine run_nil ?_
              exact run_againF ih13 (k + 1) (by omega) (by omega) (.cons rfl (by first | exact fun _ _ h => h | exact d_int (by omega) | exact d_int (by simp) | exact d_intN (by omega) | exact d_any) .nil) (.cons rfl (fun _ _ x => x) (.cons rfl (fun _ _ x => x) (.cons rfl (fun _ _ x => x) (.cons rfl (fun _ _ x => x) (.cons rfl (fun _ _ x => x) (.cons rfl (fun _ _ x => x) (.nil))))))) (by simp only [appR]; rw [heldN_snoc]; rfl)
            ·
              refine run_exit rfl ?_
              refine run_freezeRow (s := 19) rfl (.here) ?_
              refine run_region ?_
              first | refine run_op (LocP.upV (loc_loadOwn1 rfl (.there (.here)) (by rfl))) rfl ?_ | refine run_op (loc_loadOwn1 rfl (.there (.here)) (by rfl)) rfl ?_
              refine run_op (loc_move rfl) rfl ?_
              refine run_op (loc_buildSlice rfl rfl (.one rfl (.nil)) rfl rfl) rfl ?_
              refine run_append1 rfl (.there (.there (.here))) rfl (by rfl) (by rfl) (by first | omega | (unfold lenMax; omega) | assumption | (simp; omega) | (simp [lenMax]; omega)) (by first | omega | (unfold lenMax; omega) | assumption | (simp; omega) | (simp [lenMax]; omega)) rfl (fun v15 => ?_)
              refine runL_rowV (s := 88) rfl (.there (.there (.here))) ?_
              refine run_store1 rfl rfl (.there (.here)) (by rfl) ?_
              refine run_nil ?_
              refine run_inBlock ?_
              refine run_inv (M' := rBusy l1 r1 :: rCells b16 36 [dSlV v15] :: rRow v15 35 1 fR (((grpL rows g.toNat).take (i + 1)).map fun q => heldG p j wd.toNat q.2) :: F1) (fun I w h => by rw [List.take_add_one, hx1, List.map_append]; rw [show k = x1.2.length by omega] at h; exact h) ?_
              exact run_roundEnd (v15) (trivial) .here rfl
          ·
            refine run_inBlock ?_
            refine run_seq ?_
            refine run_region ?_
            first | refine run_op (LocP.upV (loc_loadOwn1 rfl (.there (.here)) (by rfl))) rfl ?_ | refine run_op (loc_loadOwn1 rfl (.there (.here)) (by rfl)) rfl ?_
            refine run_op (loc_assign rfl) rfl ?_
            refine run_op (loc_assign rfl) rfl ?_
            refine run_nil ?_
            refine run_retMk (v0) (.here) Try.func62 rfl (.tmp rfl (.tmp rfl (.nil))) ?_ (trivial) (fun I w h => by have h2 := h.sub (.cons _ (.refl _)); rw [List.take_of_length_le (Nat.le_refl _)] at h2; rw [show holdG p s d g wd rows j = (grpL rows g.toNat).map (fun q => heldG p j wd.toNat q.2) by unfold holdG; rw [if_pos hE]]; exact (show Inv I (rRow v0 35 1 fR _ :: F) w from h2))
            exact d_tup2 (fun _ _ h => h) (d_int hE.symm)

theorem hold_spec (p s d g wd j : Int) (rows : List (List Int)) : SpecP Try.prog 62 [dAgg [dInt .i64 p], dAgg [dInt .i64 s, dInt .i64 d, dInt .i64 g], dInt .i64 wd, dRows rows, dInt .i64 j] (dTup [dRows (holdG p s d g wd rows j), dInt .i64 (holdE p s d g wd rows j)]) := spec_freeze2 (holdM_spec p s d g wd j rows)
theorem tcheck_spec (t : Tab) : SpecP Try.prog 61 [dTab t] (dInt .i64 (checkT t)) := by
  refine specP_of_body Try.func61 rfl rfl (fun I M => ?_)
  refine run_seq ?_
  refine run_region ?_
  refine run_op (loc_boxN rfl) rfl ?_
  refine run_op (loc_assign rfl) rfl ?_
  refine run_nil ?_
  refine run_seq ?_
  refine run_region ?_
  refine run_op (loc_fieldAddr rfl) rfl ?_
  refine run_op (loc_loadN rfl rfl) rfl ?_
  refine run_op (loc_call (of_spec _) rfl) rfl ?_
  refine run_op (loc_move rfl) rfl ?_
  refine run_op (loc_extract rfl rfl) rfl ?_
  refine run_op (loc_extract rfl rfl) rfl ?_
  refine run_op (loc_assign rfl) rfl ?_
  refine run_op (loc_assign rfl) rfl ?_
  refine run_nil ?_
  refine run_seq ?_
  refine run_block ?_
  refine run_seq ?_
  refine run_region ?_
  refine run_op (loc_fieldAddr rfl) rfl ?_
  refine run_op (loc_load1 rfl) rfl ?_
  refine run_op (loc_lss rfl rfl) rfl ?_
  refine run_op (loc_move rfl) rfl ?_
  refine run_gfirst rfl rfl (by first | exact guard_true _ | exact guard_false _ | exact guard_if (guard_true _) | exact guard_if (guard_false _)) (fun hg => loc_fieldAddr rfl) rfl ?_
  refine run_gop rfl rfl (by first | exact guard_true _ | exact guard_false _ | exact guard_if (guard_true _) | exact guard_if (guard_false _)) (fun hg => loc_load1 rfl) rfl ?_
  refine run_gop rfl rfl (by first | exact guard_true _ | exact guard_false _ | exact guard_if (guard_true _) | exact guard_if (guard_false _)) (fun hg => loc_geq rfl rfl) rfl ?_
  refine run_gleave ?_
  refine run_op (loc_or rfl rfl) rfl ?_
  refine run_op (loc_assign rfl) rfl ?_
  refine run_nil ?_
  refine run_cond rfl (fun h1 => ?_) (fun h1 => ?_)
  ·
    have c1 := h1
    refine run_seq ?_
    refine run_region ?_
    refine run_op (loc_assign rfl) rfl ?_
    refine run_nil ?_
    refine run_retP Try.func61 rfl rfl ?_
    exact d_int (by unfold checkT; rw [if_pos c1])
  ·
    have c1 := h1
    refine run_seq ?_
    refine run_region ?_
    refine run_op (loc_move rfl) rfl ?_
    refine run_op (loc_not rfl) rfl ?_
    refine run_op (loc_assign rfl) rfl ?_
    refine run_nil ?_
    refine run_cond rfl (fun h2 => ?_) (fun h2 => ?_)
    ·
      have c2 := h2
      refine run_seq ?_
      refine run_region ?_
      refine run_op (loc_assign rfl) rfl ?_
      refine run_nil ?_
      refine run_retP Try.func61 rfl rfl ?_
      exact d_int (by unfold checkT; rw [if_neg c1, if_pos c2])
    ·
      have c2 := Classical.not_not.1 h2
      refine run_seq ?_
      refine run_region ?_
      refine run_op (loc_fieldAddr rfl) rfl ?_
      refine run_op (loc_load1 rfl) rfl ?_
      refine run_op (loc_lss rfl rfl) rfl ?_
      refine run_op (loc_move rfl) rfl ?_
      refine run_gfirst rfl rfl (by first | exact guard_true _ | exact guard_false _ | exact guard_if (guard_true _) | exact guard_if (guard_false _)) (fun hg => loc_fieldAddr rfl) rfl ?_
      refine run_gop rfl rfl (by first | exact guard_true _ | exact guard_false _ | exact guard_if (guard_true _) | exact guard_if (guard_false _)) (fun hg => loc_load1 rfl) rfl ?_
      refine run_gop rfl rfl (by first | exact guard_true _ | exact guard_false _ | exact guard_if (guard_true _) | exact guard_if (guard_false _)) (fun hg => loc_gtr rfl rfl) rfl ?_
      refine run_gleave ?_
      refine run_op (loc_or rfl rfl) rfl ?_
      refine run_op (loc_assign rfl) rfl ?_
      refine run_nil ?_
      refine run_cond rfl (fun h3 => ?_) (fun h3 => ?_)
      ·
        have c3 := h3
        refine run_seq ?_
        refine run_region ?_
        refine run_op (loc_assign rfl) rfl ?_
        refine run_nil ?_
        refine run_retP Try.func61 rfl rfl ?_
        exact d_int (by unfold checkT; rw [if_neg c1, if_neg (Classical.not_not.2 c2), if_pos c3])
      ·
        have c3 := h3
        refine run_seq ?_
        refine run_region ?_
        refine run_op (loc_fieldAddr rfl) rfl ?_
        refine run_op (loc_load1 rfl) rfl ?_
        first | refine runL_fact (s := 36) rfl (fun _ _ h => dSl_len h) (fun hlen4 => ?_) | skip
        refine run_op (loc_len rfl) rfl ?_
        refine run_op (loc_gtr rfl rfl) rfl ?_
        refine run_op (loc_assign rfl) rfl ?_
        refine run_nil ?_
        refine run_cond rfl (fun h5 => ?_) (fun h5 => ?_)
        ·
          have c4 := h5
          refine run_seq ?_
          refine run_region ?_
          refine run_op (loc_assign rfl) rfl ?_
          refine run_nil ?_
          refine run_retP Try.func61 rfl rfl ?_
          exact d_int (by unfold checkT; rw [if_neg c1, if_neg (Classical.not_not.2 c2), if_neg c3, if_pos (by omega)])
        ·
          have c4 := h5
          refine run_skip ?_
          refine run_inBlock ?_
          refine run_seq ?_
          refine run_seq ?_
          refine run_region ?_
          refine run_op (loc_fieldAddr rfl) rfl ?_
          refine run_op (loc_load1 rfl) rfl ?_
          first | refine runL_fact (s := 40) rfl (fun _ _ h => dSl_len h) (fun hlen6 => ?_) | skip
          refine run_op (loc_len rfl) rfl ?_
          refine run_op (loc_move rfl) rfl ?_
          refine run_nil ?_
          refine run_block ?_
          have hof : ofP t.p = t.p := by unfold ofP; rw [if_pos c2]
          rw [hof]
          refine run_loopC (σ := Nat) (ks := [1, 3, 40, 41]) (.cons rfl (.cons rfl (.cons rfl (.cons rfl (.nil))))) (fun k => [(42, dInt .i64 (k : Nat))]) (fun k => k ≤ t.rows.length ∧ (∀ j, j < k → rowErr t.p t.width (t.rows[j]?.getD default) = 0)) (fun k => t.rows.length - k) (0) (⟨by omega, fun j hj => by omega⟩) (.cons rfl (by first | exact fun _ _ h => h | exact d_int (by omega) | exact d_int (by simp) | exact d_intN (by omega) | exact d_any) .nil) ?_
          rintro k ⟨hk, hbk⟩ ih7
          replace c4 : ¬ 1024 < t.rows.length := by omega
          refine run_seq ?_
          refine run_region ?_
          refine run_op (loc_lss rfl rfl) rfl ?_
          refine run_nil ?_
          refine run_seq ?_
          refine run_cond rfl (fun h8 => ?_) (fun h8 => ?_)
          ·
            refine run_skip ?_
            refine run_seq ?_
            refine run_block ?_
            refine run_seq ?_
            refine run_region ?_
            first | refine run_op (loc_index rfl rfl (by first | omega | assumption)) rfl ?_ | refine run_op (loc_indexI rfl rfl (by first | omega | assumption)) rfl ?_
            refine run_op (loc_load1 rfl) rfl ?_
            refine run_op (loc_assign rfl) rfl ?_
            refine run_nil ?_
            refine run_seq ?_
            refine run_seq ?_
            refine run_region ?_
            refine run_op (loc_move rfl) rfl ?_
            first | refine runL_fact (s := 46) rfl (fun _ _ h => dSl_len h) (fun hlen9 => ?_) | skip
            refine run_op (loc_len rfl) rfl ?_
            refine run_op (loc_fieldAddr rfl) rfl ?_
            refine run_op (loc_load1 rfl) rfl ?_
            refine run_op (loc_neq rfl rfl) rfl ?_
            refine run_nil ?_
            refine run_cond rfl (fun h10 => ?_) (fun h10 => ?_)
            ·
              refine run_seq ?_
              refine run_region ?_
              refine run_op (loc_assign rfl) rfl ?_
              refine run_nil ?_
              refine run_retP Try.func61 rfl rfl ?_
              exact d_int (by unfold checkT; rw [if_neg c1, if_neg (Classical.not_not.2 c2), if_neg c3, if_neg c4, firstErr_at (i := k) (by omega) hbk (by unfold rowErr; rw [if_pos (by omega)]; omega), rowErr, if_pos (by omega)])
            ·
              refine run_skip ?_
              refine run_seq ?_
              refine run_region ?_
              refine run_op (loc_move rfl) rfl ?_
              refine run_op (loc_move rfl) rfl ?_
              refine run_op (loc_call (all_spec _ _) rfl) rfl ?_
              refine run_op (loc_not rfl) rfl ?_
              refine run_nil ?_
              refine run_cond rfl (fun h11 => ?_) (fun h11 => ?_)
              ·
                have r9 : ¬ allP t.p (t.rows[k]?.getD default) := h11
                refine run_seq ?_
                refine run_region ?_
                refine run_op (loc_assign rfl) rfl ?_
                refine run_nil ?_
                refine run_retP Try.func61 rfl rfl ?_
                exact d_int (by unfold checkT; rw [if_neg c1, if_neg (Classical.not_not.2 c2), if_neg c3, if_neg c4, firstErr_at (i := k) (by omega) hbk (by unfold rowErr; rw [if_neg (by omega), if_pos r9]; omega), rowErr, if_neg (by omega), if_pos r9])
              ·
                have r9 : allP t.p (t.rows[k]?.getD default) := Classical.not_not.1 h11
                refine run_skip ?_
                refine run_inBlock ?_
                refine run_region ?_
                first | refine run_op (loc_add rfl rfl (by first | omega | assumption)) rfl ?_ | refine run_op (loc_addW rfl rfl) rfl ?_
                refine run_op (loc_move rfl) rfl ?_
                refine run_nil ?_
                exact run_againC ih7 (k + 1) (⟨by omega, fun j hj => by by_cases e : j = k; (· subst e; unfold rowErr; rw [if_neg (by omega), if_neg (Classical.not_not.2 r9)]); (· exact hbk j (by omega))⟩) (by omega) (.cons rfl (by first | exact fun _ _ h => h | exact d_int (by omega) | exact d_int (by simp) | exact d_intN (by omega) | exact d_any) .nil) (.cons rfl (fun _ _ x => x) (.cons rfl (fun _ _ x => x) (.cons rfl (fun _ _ x => x) (.cons rfl (fun _ _ x => x) (.nil)))))
          ·
            refine run_exit rfl ?_
            refine run_seq ?_
            refine run_region ?_
            refine run_op (loc_assign rfl) rfl ?_
            refine run_nil ?_
            refine run_retP Try.func61 rfl rfl ?_
            exact d_int (by unfold checkT; rw [if_neg c1, if_neg (Classical.not_not.2 c2), if_neg c3, if_neg c4, firstErr_none' (fun j hj => hbk j (by omega))])

end Go.Q

namespace Go.Q
open Classical

def shapeS (s : Schm) : Prop := (2 ≤ s.servers ∧ s.servers ≤ 10) ∧ ((s.kind = 1 ∧ s.degree = 0 ∧ s.group = 0) ∨ (s.kind = 2 ∧ 1 ≤ s.degree ∧ s.degree ≤ s.servers - 1 ∧ s.group = 0) ∨ (s.kind = 3 ∧ 1 ≤ s.degree ∧ s.degree ≤ s.servers ∧ 1 ≤ s.group ∧ s.group ≤ s.servers ∧ 2 * s.group + s.degree - 1 ≤ s.servers))
noncomputable def thrS (s : Schm) : Int := if ¬ shapeS s then 0 else if s.kind = 1 then s.servers - 1 else s.degree
noncomputable def needS (s : Schm) : Int := if ¬ shapeS s then 0 else if s.kind = 1 then s.servers else if s.kind = 2 then s.degree + 1 else 2 * s.group + s.degree - 1
def validS (s : Schm) (p : Int) : Prop := shapeS s ∧ okP p ∧ (s.kind = 1 ∨ s.servers < p)
def bearsS (s : Schm) (a b : Int) : Prop := shapeS s ∧ (0 ≤ a ∧ a ≤ s.servers) ∧ (0 ≤ b ∧ b ≤ s.servers) ∧ needS s + a + 2 * b ≤ s.servers
noncomputable def unitsS (s : Schm) (n : Int) : Int := if ¬ shapeS s ∨ ¬ (1 ≤ n ∧ n ≤ 1024) then 0 else if s.kind = 3 then (n + s.group - 1) / s.group else n
theorem shape_bd {s : Schm} (h : shapeS s) : (2 ≤ s.servers ∧ s.servers ≤ 10) ∧ (0 ≤ s.degree ∧ s.degree ≤ 10) ∧ (0 ≤ s.group ∧ s.group ≤ 10) := by
  unfold shapeS at h
  omega
theorem shape_kind {s : Schm} (h : shapeS s) : s.kind = 1 ∨ s.kind = 2 ∨ s.kind = 3 := by
  unfold shapeS at h
  omega
theorem need_map {s : Schm} (h : shapeS s) : ([] ++ [((1 : Int), s.servers)] ++ [((2 : Int), s.degree + 1)] ++ [((3 : Int), 2 * s.group + s.degree - 1)]).lookup s.kind = some (needS s) := by
  have e : needS s = if s.kind = 1 then s.servers else if s.kind = 2 then s.degree + 1 else 2 * s.group + s.degree - 1 := by unfold needS; rw [if_neg (Classical.not_not.2 h)]
  rcases shape_kind h with hk | hk | hk <;> rw [e, hk] <;> simp [List.lookup]
noncomputable def lookE (s : Schm) (p n : Int) : Int := if ¬ validS s p then 40 else if ¬ (1 ≤ n ∧ n ≤ 1024) then 1 else 0
theorem lookE_zero {s : Schm} {p n : Int} (h : lookE s p n = 0) : validS s p ∧ (1 ≤ n ∧ n ≤ 1024) := by
  unfold lookE at h
  split at h
  · cases h
  · split at h
    · cases h
    · rename_i h1 h2
      exact ⟨Classical.not_not.1 h1, by omega⟩
theorem lookE_ok {s : Schm} {p n : Int} (h : validS s p) (hn : 1 ≤ n ∧ n ≤ 1024) : lookE s p n = 0 := by
  unfold lookE
  rw [if_neg (Classical.not_not.2 h), if_neg (by omega)]

/-! ### Limits, queries, what is held -/

noncomputable def limE (s : Schm) (p n : Int) : Int := if lookE s p n ≠ 0 then lookE s p n else if s.kind = 1 then parE p n s.servers else if s.kind = 2 then planRE p s.servers s.degree n else codRE p s.servers s.degree s.group ((n + s.group - 1) / s.group)
noncomputable def limL (s : Schm) (p n : Int) : List Int := if lookE s p n ≠ 0 then [] else if s.kind = 1 then limsP p n s.servers else if s.kind = 2 then limsC p s.servers s.degree n else limsG p s.servers s.degree s.group ((n + s.group - 1) / s.group)
noncomputable def qryE (s : Schm) (p n i : Int) (t : Tape) : Int := if lookE s p n ≠ 0 then lookE s p n else if ¬ (0 ≤ i ∧ i ≤ n - 1) then 6 else if s.kind = 1 then pqE p n s.servers i t else if s.kind = 2 then cqE p s.servers s.degree n i t else gqE p s.servers s.degree s.group ((n + s.group - 1) / s.group) (i / s.group) t
noncomputable def qryL (s : Schm) (p n i : Int) (t : Tape) : List (List Int) := if lookE s p n ≠ 0 ∨ ¬ (0 ≤ i ∧ i ≤ n - 1) then [] else if s.kind = 1 then pqL p n s.servers i t else if s.kind = 2 then cqL p s.servers s.degree n i t else gqL p s.servers s.degree s.group ((n + s.group - 1) / s.group) (i / s.group) t
noncomputable def qryT (s : Schm) (p n i : Int) (t : Tape) : Tape := if lookE s p n ≠ 0 ∨ ¬ (0 ≤ i ∧ i ≤ n - 1) then ⟨[], 0⟩ else if s.kind = 1 then pqT p n s.servers i t else if s.kind = 2 then cqT p s.servers s.degree n i t else gqT p s.servers s.degree s.group ((n + s.group - 1) / s.group) (i / s.group) t
noncomputable def hldE (s : Schm) (t : Tab) (j : Int) : Int := if checkT t ≠ 0 then checkT t else if ¬ validS s t.p then 40 else if ¬ (1 ≤ j ∧ j ≤ s.servers) then 1 else if s.kind = 3 then holdE t.p s.servers s.degree s.group t.width t.rows j else 0
noncomputable def hldL (s : Schm) (t : Tab) (j : Int) : List (List Int) := if checkT t ≠ 0 ∨ ¬ validS s t.p ∨ ¬ (1 ≤ j ∧ j ≤ s.servers) then [] else if s.kind = 3 then holdG t.p s.servers s.degree s.group t.width t.rows j else t.rows
theorem hld_no {a : Int} {b c : Prop} (h1 : a = 0) (h2 : b) (h3 : c) : ¬ (a ≠ 0 ∨ ¬ b ∨ ¬ c) := by
  rintro (h | h | h)
  · exact h h1
  · exact h h2
  · exact h h3
theorem take_snocR {xs : List (List Int)} {k : Nat} (h : k < xs.length) : xs.take (k + 1) = xs.take k ++ [xs[k]?.getD default] := by
  rw [List.take_add_one, List.getElem?_eq_getElem h]; rfl
theorem specP_post {P : Program} {f : FuncId} {Ds : List D} {d d' : D} (h : SpecP P f Ds d) (hd : ∀ I v, d.rel I v → d'.rel I v) : SpecP P f Ds d' := by
  intro I M w vs hv hi
  refine (h I M w vs hv hi).mono ?_
  rintro e w' ⟨v, rfl, J, h1, h2, h3⟩
  exact ⟨v, rfl, J, h1, hd _ _ h2, h3⟩
theorem need_bd (s : Schm) : 0 ≤ needS s ∧ needS s ≤ 30 := by
  unfold needS
  by_cases h : shapeS s
  · have := shape_bd h
    rw [if_neg (Classical.not_not.2 h)]
    unfold shapeS at h
    split <;> (try split) <;> omega
  · rw [if_pos h]; omega
theorem bears_wrap {s : Schm} {a b : Int} (h1 : shapeS s) (h2 : 0 ≤ a ∧ a ≤ s.servers) (h3 : 0 ≤ b ∧ b ≤ s.servers) : IntKind.i64.wrap (IntKind.i64.wrap (needS s + a) + IntKind.i64.wrap (2 * b)) = needS s + a + 2 * b := by
  have := shape_bd h1
  have := need_bd s
  rw [IntWalk.i64_in (needS s + a) (by omega), IntWalk.i64_in (2 * b) (by omega), IntWalk.i64_in _ (by omega)]
theorem un_no {A : Prop} {n : Int} (h : ¬ ((¬ A ∨ n < 1) ∨ 1024 < n)) : ¬ (¬ A ∨ ¬ (1 ≤ n ∧ n ≤ 1024)) := by
  rintro (h1 | h1)
  · exact h (.inl (.inl h1))
  · by_cases hh : n < 1
    · exact h (.inl (.inr hh))
    · exact h (.inr (by omega))
theorem un_yes {A : Prop} {n : Int} (h : (¬ A ∨ n < 1) ∨ 1024 < n) : ¬ A ∨ ¬ (1 ≤ n ∧ n ≤ 1024) := by
  rcases h with (h | h) | h
  · exact .inl h
  · exact .inr (by omega)
  · exact .inr (by omega)
end Go.Q

namespace Go.Q
variable {P : Program} {N : Nat} {g : G} {M : List Res}
variable {dst : Option Tmp} {ty : TypeId} {pos : String} {after : Array Edge} {gd : Option (Nat × Bool)}

/-- A value in an interface, with its type. -/
def dIface (t : TypeId) (d : D) : D := ⟨fun I v => ∃ u, v = .iface t u ∧ d.rel I u, fun h ⟨u, e, r⟩ => ⟨u, e, d.mono h r⟩⟩
instance (t : TypeId) (d : D) : One (dIface t d) := ⟨fun ⟨_, h, _⟩ => by rw [h]; exact ⟨rfl, rfl⟩⟩

class TyConc (P : Program) (t : TypeId) : Prop where
  eq : ∀ w : World, ∀ v, (Instr.makeInterface t v).run P w = .ok (.iface t v) w
class TyMeth (P : Program) (t : TypeId) (name : String) (f : FuncId) : Prop where
  eq : ∀ (w : World) (v : Value) (args : Array Value), (callMethod (.iface t v) name args).run P w = (callFunc f (#[v] ++ args)).run P w

theorem loc_makeIface {t : TypeId} [ht : TyConc P t] {x : Operand} {d : D} (hx : opd g x = some d) : LocP P ⟨dst, .makeInterface t x, ty, pos, after, gd⟩ g N M (dIface t d) :=
  locP_of_run fun I a w hs hi => ⟨.iface t (a.eval x), by simp [execOp, ht.eq], _, rfl, opd_sound hs hx⟩

theorem loc_invoke {t : TypeId} {name : String} {f : FuncId} [hm : TyMeth P t name f] [hf : TyFn P f] {x : Operand} {xs : List Operand} {ats : Array TypeId} {Ds : List D} {d d' : D} (hs : SpecP P f (d :: Ds) d') (hr : opd g x = some (dIface t d)) (hx : opds g xs = some Ds) :
    LocP P ⟨dst, .call ⟨.invoke x name, xs.toArray, ats⟩, ty, pos, after, gd⟩ g N M d' := by
  constructor
  intro I a w K Q hsl hi hK
  obtain ⟨u, hu, hd⟩ := opd_sound hsl hr
  unfold Oper.wp
  have he : (execOp a.eval ⟨dst, .call ⟨.invoke x name, xs.toArray, ats⟩, ty, pos, after, gd⟩).run P w = .ok (.enter f (u :: xs.map a.eval).toArray) w := by
    have h1 : (callFunc f (#[u] ++ (xs.map a.eval).toArray)).run P w = .ok (.enter f (#[u] ++ (xs.map a.eval).toArray)) w := run_callFunc hf _ w
    have h2 := hm.eq w u (xs.map a.eval).toArray
    rw [h1] at h2
    have ht : List.take xs.length (xs.map a.eval) = xs.map a.eval := List.take_of_length_le (by simp)
    simpa [execOp, resolve, invoke, hu, ht] using h2
  rw [he]
  refine Calls.mono (hs I M w (u :: xs.map a.eval) ⟨hd, opds_sound hsl hx⟩ hi) ?_
  rintro e w' ⟨v, rfl, J, h1, h2, h3⟩
  exact hK v w' J h1 h2 h3

/-- A value in an interface, of which one method is known. -/
def dMeth (P : Program) (name : String) (Ds : List D) (d : D) : D :=
  ⟨fun I v => ∃ (t : TypeId) (u : Value) (f : FuncId) (dr : D), v = .iface t u ∧ TyMeth P t name f ∧ TyFn P f ∧ dr.rel I u ∧ SpecP P f (dr :: Ds) d,
   fun h ⟨t, u, f, dr, e, h1, h2, h3, h4⟩ => ⟨t, u, f, dr, e, h1, h2, dr.mono h h3, h4⟩⟩
theorem iface_meth {t : TypeId} {name : String} {f : FuncId} {dr d : D} {Ds : List D} [hm : TyMeth P t name f] [hf : TyFn P f] (hs : SpecP P f (dr :: Ds) d) : ∀ I v, (dIface t dr).rel I v → (dMeth P name Ds d).rel I v :=
  fun _ _ ⟨u, e, hr⟩ => ⟨t, u, f, dr, e, hm, hf, hr, hs⟩

theorem loc_invokeM {name : String} {x : Operand} {xs : List Operand} {ats : Array TypeId} {Ds : List D} {d' : D} (hr : opd g x = some (dMeth P name Ds d')) (hx : opds g xs = some Ds) :
    LocP P ⟨dst, .call ⟨.invoke x name, xs.toArray, ats⟩, ty, pos, after, gd⟩ g N M d' := by
  constructor
  intro I a w K Q hsl hi hK
  obtain ⟨t, u, f, dr, hu, hm, hf, hd, hs⟩ := opd_sound hsl hr
  unfold Oper.wp
  have he : (execOp a.eval ⟨dst, .call ⟨.invoke x name, xs.toArray, ats⟩, ty, pos, after, gd⟩).run P w = .ok (.enter f (u :: xs.map a.eval).toArray) w := by
    have h1 : (callFunc f (#[u] ++ (xs.map a.eval).toArray)).run P w = .ok (.enter f (#[u] ++ (xs.map a.eval).toArray)) w := run_callFunc hf _ w
    have h2 := hm.eq w u (xs.map a.eval).toArray
    rw [h1] at h2
    have ht : List.take xs.length (xs.map a.eval) = xs.map a.eval := List.take_of_length_le (by simp)
    simpa [execOp, resolve, invoke, hu, ht] using h2
  rw [he]
  refine Calls.mono (hs I M w (u :: xs.map a.eval) ⟨hd, opds_sound hsl hx⟩ hi) ?_
  rintro e w' ⟨v, rfl, J, h1, h2, h3⟩
  exact hK v w' J h1 h2 h3
end Go.Q

namespace Go.Q
variable {P : Program} {N : Nat} {g : G} {M : List Res}
variable {dst : Option Tmp} {ty : TypeId} {pos : String} {after : Array Edge} {gd : Option (Nat × Bool)}

class TyMap (P : Program) (t kt et : TypeId) : Prop where
  eq : P.underlying t = some (.map kt et)
  key : P.underlying kt = some (.int .i64)

def entI (p : Int × Int) : Value × Value := (.int .i64 p.1, .int .i64 p.2)
/-- A map of the call's own. -/
def rMap (b : Nat) (es : List (Int × Int)) : Res :=
  ⟨some b, fun _ o => ∃ ms clock, o = some (.map ms clock) ∧ ms.toList.map (fun e => (e.key, e.val)) = es.map entI, fun _ h => h⟩

theorem own_map {I : Imm} {b : Nat} {es : List (Int × Int)} {w : World} (h : Inv I M w) (hm : rMap b es ∈ M) : ∃ ms clock, w.heap[b]? = some (.map ms clock) ∧ ms.toList.map (fun e => (e.key, e.val)) = es.map entI := by
  obtain ⟨_, o, h1, ms, clock, h2, h3⟩ := h.own _ hm
  injection h2 with h2
  subst h2
  exact ⟨ms, clock, h1, h3⟩

theorem findI {d : TypeDesc} (hd : d = .int .i64) {a : Int} : ∀ {l : List MapEntry} {es : List (Int × Int)} {i : Nat}, l.map (fun e => (e.key, e.val)) = es.map entI →
    Instr.findNow d (.int .i64 a) l i = some none ∧ es.lookup a = none ∨ ∃ j c, Instr.findNow d (.int .i64 a) l i = some (some (j, .int .i64 c)) ∧ es.lookup a = some c
  | [], [], i, _ => .inl ⟨rfl, rfl⟩
  | e :: l, p :: es, i, h => by
    simp only [List.map_cons, List.cons.injEq, entI, Prod.mk.injEq] at h
    obtain ⟨⟨h1, h2⟩, h3⟩ := h
    subst hd
    by_cases hc : a = p.1
    · right
      refine ⟨i, p.2, ?_, ?_⟩
      · simp [Instr.findNow, h1, h2, Instr.sameNow, hc]
      · simp [List.lookup, hc]
    · rcases findI (d := .int .i64) rfl (a := a) (i := i + 1) h3 with ⟨g1, g2⟩ | ⟨j, c, g1, g2⟩
      · left
        refine ⟨?_, ?_⟩
        · have hb : (a == p.1) = false := by simpa using hc
          simp only [Instr.findNow, h1, Instr.sameNow, if_true, hb, g1]
        · have : (a == p.1) = false := by simpa using hc
          obtain ⟨p1, p2⟩ := p
          simp only [List.lookup, this]
          exact g2
      · right
        refine ⟨j, c, ?_, ?_⟩
        · have hb : (a == p.1) = false := by simpa using hc
          simp only [Instr.findNow, h1, Instr.sameNow, if_true, hb, g1]
        · have : (a == p.1) = false := by simpa using hc
          obtain ⟨p1, p2⟩ := p
          simp only [List.lookup, this]
          exact g2
  | [], _ :: _, _, h => by simp at h
  | _ :: _, [], _, h => by simp at h

theorem loc_makeMap {t : TypeId} : LocM P ⟨dst, .makeMap t none, ty, pos, after, gd⟩ g N [] (fun _ : Nat => True) (fun b => dVal (.map (some b))) (fun b => [rMap b []]) := by
  constructor
  intro F I a w K Q hs hi hK
  unfold Oper.wp
  have hrun : (execOp a.eval ⟨dst, .makeMap t none, ty, pos, after, gd⟩).run P w = .ok (.value (.map (some w.heap.size))) (w.alloc (.map #[] 0)) := by
    simp [execOp, Instr.makeMap]
  rw [hrun]
  exact hK w.heap.size _ _ I trivial I.le_refl rfl (hi.allocOwn _ _ rfl ⟨#[], 0, rfl, rfl⟩)

theorem loc_lookupI {t kt et : TypeId} [ht : TyMap P t kt et] {x y : Operand} {b : Nat} {a c : Int} {es : List (Int × Int)} (hx : opd g x = some (dVal (.map (some b)))) (hy : opd g y = some (dInt .i64 a)) (hm : In (rMap b es) M) (hl : es.lookup a = some c) :
    LocP P ⟨dst, .lookup t x y false, ty, pos, after, gd⟩ g N M (dInt .i64 c) :=
  locP_of_run fun I st w hs hinv => by
    have hp : st.eval x = .map (some b) := opd_sound hs hx
    have hk : st.eval y = .int .i64 a := opd_sound hs hy
    obtain ⟨ms, clock, h1, h2⟩ := own_map hinv hm.mem
    refine ⟨.int .i64 c, ?_, rfl⟩
    have hck : ∀ e n, (Instr.checkKey e (n + 1) kt (.int .i64 a)).run P w = .ok () w := fun e n => by
      unfold Instr.checkKey
      simp [run_underlying ht.key]
    rcases findI (d := .int .i64) rfl (a := a) (i := 0) h2 with ⟨_, g2⟩ | ⟨j, c', g1, g2⟩
    · rw [hl] at g2; cases g2
    · rw [hl] at g2
      injection g2 with g2
      subst g2
      have hf := MapKept.run_findKey (P := P) (w := w) ht.key g1
      simp [execOp, hp, hk, Instr.lookup, run_underlying ht.eq, MapKept.run_getObj_map h1, hck _ 9999, hf]

theorem loc_insertI {t kt et : TypeId} [ht : TyMap P t kt et] {x y z : Operand} {b : Nat} {a c : Int} {es : List (Int × Int)} (hx : opd g x = some (dVal (.map (some b)))) (hy : opd g y = some (dInt .i64 a)) (hz : opd g z = some (dInt .i64 c)) (hl : es.lookup a = none) :
    LocM P ⟨none, .insert t x y z, ty, pos, after, gd⟩ g N [rMap b es] (fun _ : Unit => True) (fun _ => dTop) (fun _ => [rMap b (es ++ [(a, c)])]) := by
  constructor
  intro F I st w K Q hs hi hK
  have hp : st.eval x = .map (some b) := opd_sound hs hx
  have hk : st.eval y = .int .i64 a := opd_sound hs hy
  have hv : st.eval z = .int .i64 c := opd_sound hs hz
  obtain ⟨ms, clock, h1, h2⟩ := own_map hi (List.mem_cons_self ..)
  have hck : ∀ e n, (Instr.checkKey e (n + 1) kt (.int .i64 a)).run P w = .ok () w := fun e n => by
    unfold Instr.checkKey
    simp [run_underlying ht.key]
  rcases findI (d := .int .i64) rfl (a := a) (i := 0) h2 with ⟨g1, _⟩ | ⟨j, c', _, g2⟩
  · have hf := MapKept.run_findKey (P := P) (w := w) ht.key g1
    have hst := MapKept.run_setObj_map (P := P) (.map (ms.push { key := .int .i64 a, val := .int .i64 c, born := clock }) (clock + 1)) h1
    unfold Oper.wp
    have hrun : (execOp st.eval ⟨none, .insert t x y z, ty, pos, after, gd⟩).run P w = .ok .skip { w with heap := w.heap.setIfInBounds b (.map (ms.push { key := .int .i64 a, val := .int .i64 c, born := clock }) (clock + 1)) } := by
      simp [execOp, hp, hk, hv, Instr.mapUpdate, run_underlying ht.eq, MapKept.run_getObj_map h1, hck _ 9999, hf, hst]
    rw [hrun]
    refine hK () undef _ I trivial I.le_refl trivial ?_
    have hh := MapKept.heap_set (w := w) (o' := .map (ms.push { key := .int .i64 a, val := .int .i64 c, born := clock }) (clock + 1)) h1
    exact hi.write rfl rfl rfl rfl rfl (fun q hq _ => hh.2 q hq) hh.1 ⟨_, _, rfl, by simp [h2, entI]⟩
  · rw [hl] at g2; cases g2

end Go.Q
