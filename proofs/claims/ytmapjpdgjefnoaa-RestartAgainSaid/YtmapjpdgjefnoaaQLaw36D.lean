/- The law of reads that are taken up again. -/
import Derived.Test.YtmapjpdgjefnoaaQDiskP
import Derived.Test.YtmapjpdgjefnoaaQPlainR4
set_option linter.unusedVariables false
set_option linter.unusedSimpArgs false
namespace Go.Q
open Go.Proofs

open Classical
theorem dice_okA {xs : List Int} (h : ∀ x ∈ xs, 0 ≤ x ∧ x ≤ 255) : okDc ⟨xs.take 300, 0⟩ := ⟨fun x hm => h x (List.mem_of_mem_take hm), by simp; omega⟩
theorem restartAgain_spec (xs : List Int) (hx : ∀ x ∈ xs, 0 ≤ x ∧ x ≤ 255) : SpecP Try.prog 10 [dBy xs] (dB True) := by
  refine specP_of_body Try.func10 rfl rfl (fun I M => ?_)
  refine run_seq ?_
  refine run_region ?_
  refine run_op (loc_assign rfl) rfl ?_
  refine run_nil ?_
  refine run_seq ?_
  refine run_seq ?_
  refine run_region ?_
  refine run_op (loc_call (sane36_spec) rfl) rfl ?_
  refine run_op (loc_not rfl) rfl ?_
  refine run_nil ?_
  refine run_cond rfl (fun h1 => ?_) (fun h1 => ?_)
  · exfalso; exact h1 trivial
  ·
    refine run_skip ?_
    refine run_seq ?_
    refine run_region ?_
    refine run_op (loc_move rfl) rfl ?_
    refine run_callN rfl (dnew_spec _) rfl (fun vd hvd => ?_)
    refine run_op (loc_assign rfl) rfl ?_
    refine run_nil ?_
    have hd0 := dice_okA hx
    have hd1 := Dc.next_ok hd0
    have hd2 := Dc.next_ok hd1
    have hv1 := Dc.val_nonneg (d := (⟨xs.take 300, 0⟩ : Dc)) (n := 250) (by omega)
    have hv2 := Dc.val_lt (d := (⟨xs.take 300, 0⟩ : Dc)) (n := 250) (by omega)
    have hv3 := Dc.val_nonneg (d := Dc.next (⟨xs.take 300, 0⟩ : Dc)) (n := 14) (by omega)
    have hv4 := Dc.val_lt (d := Dc.next (⟨xs.take 300, 0⟩ : Dc)) (n := 14) (by omega)
    obtain ⟨f1, f3, -⟩ := newD_ok (s := 1 + Dc.val (⟨xs.take 300, 0⟩ : Dc) 250) (by omega)
    have f2 := again_new (s := 1 + Dc.val (⟨xs.take 300, 0⟩ : Dc) 250) (by omega)
    refine run_seq ?_
    refine run_region ?_
    refine run_op (loc_move rfl) rfl ?_
    refine run_callM rfl (.here) (pick_spec _ _ _ (by assumption) (by omega)) rfl (fun s2 hs2 => ?_)
    first | refine run_op (loc_add rfl rfl (by first | omega | assumption | (simp only [List.length_map, List.length_set]; omega))) rfl ?_ | refine run_op (loc_addW rfl rfl) rfl ?_
    refine run_op (loc_call (newD_spec _) rfl) rfl ?_
    refine run_op (loc_move rfl) rfl ?_
    refine run_op (loc_extract rfl rfl) rfl ?_
    refine run_op (loc_extract rfl rfl) rfl ?_
    refine run_new (loc_allocOwn (by simp)) rfl (fun b4 _ => ?_)
    refine run_storeN (ho := (by show OneAll [_, _, _]; infer_instance)) rfl rfl (.here) (by rfl) ?_
    refine run_op (loc_assign rfl) rfl ?_
    refine run_nil ?_
    refine run_seq ?_
    refine run_seq ?_
    refine run_region ?_
    refine run_op (loc_move rfl) rfl ?_
    refine run_op (loc_neq rfl rfl) rfl ?_
    refine run_nil ?_
    refine run_cond rfl (fun h3 => ?_) (fun h3 => ?_)
    · exfalso; exact h3 f1
    ·
      refine run_skip ?_
      refine run_seq ?_
      refine run_region ?_
      refine run_new (loc_makeSliceN (m := 8) rfl rfl (by omega) (by omega) rfl (by decide) (by simp)) rfl (fun b37 _ => ?_)
      refine run_op (loc_assign rfl) rfl ?_
      refine run_nil ?_
      refine run_seq ?_
      refine run_region ?_
      refine run_new (loc_makeSlice rfl rfl (by omega) (by omega) (fun p : Prop => dB p) False rfl (by simp)) rfl (fun b38 _ => ?_)
      refine run_op (loc_assign rfl) rfl ?_
      refine run_nil ?_
      refine run_seq ?_
      refine run_region ?_
      refine run_op (loc_assign rfl) rfl ?_
      refine run_nil ?_
      refine run_seq ?_
      refine run_seq ?_
      refine run_region ?_
      refine run_op (loc_move rfl) rfl ?_
      refine run_callM rfl (.there (.there (.there (.here)))) (pick_spec _ _ _ (by assumption) (by omega)) rfl (fun s4 hs4 => ?_)
      refine run_op (loc_assign rfl) rfl ?_
      refine run_nil ?_
      refine run_bufUp (els' := (List.replicate 8 (⟨[], 0⟩ : Tape)).map cTape) (.there (.here)) (by simp) (relL_repUp (ds := zeroDs (Value.agg #[.slice none 0 0, .int .i64 0])) (ds' := cTape ⟨[], 0⟩) (fun J vs hv => by match vs, hv with | [a, b], hv => exact ⟨d_nil _ _ hv.1, hv.2.1, trivial⟩) rfl 8) ?_
      refine run_block ?_
      refine run_front (.there (.there (.there (.here)))) ?_
      refine run_front (.there (.here)) ?_
      refine run_front (.there (.there (.here))) ?_
      refine run_front (.there (.there (.there (.here)))) ?_
      refine run_loopF (σ := Int × Disk × List Tape × List Prop × Dc) (ks := [3, 4, 6, 7]) (.cons rfl (.cons rfl (.cons rfl (.cons rfl (.nil))))) (fun s => [(8, dInt .i64 s.2.1.drawn), (9, dInt .i64 s.1)]) (fun s => [rCells b4 49 (cDisk s.2.1), rBuf b37 53 2 (s.2.2.1.map cTape), rRow (.slice (some ⟨b38, 0, none⟩) 8 8) 4 1 (fun p : Prop => [dB p]) s.2.2.2.1, rDc vd s.2.2.2.2]) (fun s => (0 ≤ s.1 ∧ s.1 ≤ 13) ∧ againI s.2.1 s.2.2.1 s.2.2.2.1 ∧ s.2.1.drawn ≤ 6 * (13 - s.1) ∧ okDc s.2.2.2.2) (fun s => s.1.toNat) ((Dc.val (Dc.next (⟨xs.take 300, 0⟩ : Dc)) 14, newD (1 + Dc.val (⟨xs.take 300, 0⟩ : Dc) 250), List.replicate 8 ⟨[], 0⟩, List.replicate 8 False, Dc.next (Dc.next (⟨xs.take 300, 0⟩ : Dc)))) (⟨⟨by simp only; omega, by simp only; omega⟩, f2, by simp only; rw [f3]; simp only; omega, hd2⟩) (.cons rfl (d_int (by rw [f3])) (.cons rfl (by first | exact fun _ _ h => h | exact d_int (by omega) | exact d_int (by simp) | exact d_intN (by omega) | exact d_any) .nil)) (rfl) ?_
      rintro s ⟨h1, hag, hdl, hq⟩ ih5
      have hok := hag.ok
      have hap := hag.apart
      have htl := hag.tl
      have hol := hag.ol
      have hfw := again_few hag
      have most := hok.most
      have dr := hok.drawn
      have hq1 := Dc.next_ok hq
      have hk0 := Dc.val_nonneg (d := s.2.2.2.2) (n := 8) (by omega)
      have hk8 := Dc.val_lt (d := s.2.2.2.2) (n := 8) (by omega)
      refine run_seq ?_
      refine run_seq ?_
      refine run_region ?_
      refine run_op (loc_move rfl) rfl ?_
      refine run_op (loc_gtr rfl rfl) rfl ?_
      refine run_nil ?_
      refine run_cond rfl (fun h6 => ?_) (fun h6 => ?_)
      ·
        refine run_skip ?_
        refine run_seq ?_
        refine run_block ?_
        refine run_seq ?_
        refine run_region ?_
        refine run_op (loc_move rfl) rfl ?_
        refine run_callM rfl (.there (.there (.there (.here)))) (pick_spec _ _ _ (by assumption) (by omega)) rfl (fun s7 hs7 => ?_)
        refine run_op (loc_assign rfl) rfl ?_
        refine run_nil ?_
        obtain ⟨k, hk⟩ : ∃ k : Nat, s.2.2.2.2.val 8 = k := ⟨(s.2.2.2.2.val 8).toNat, by omega⟩
        refine run_recast (s := 10) rfl (d_int (n := (k : Int)) (by omega)) ?_
        have hq2 : okDc (if s.2.2.2.1[k]?.getD default then s.2.2.2.2.next.next else s.2.2.2.2.next) := by split; (· exact Dc.next_ok hq1); (· exact hq1)
        have hq3 := Dc.next_ok hq2
        have hq4 := Dc.next_ok hq3
        have hq5 := Dc.next_ok hq4
        have hw0 := Dc.val_nonneg (d := (if s.2.2.2.1[k]?.getD default then s.2.2.2.2.next.next else s.2.2.2.2.next)) (n := 20) (by omega)
        have hz0 := Dc.val_lt (d := (if s.2.2.2.1[k]?.getD default then s.2.2.2.2.next.next else s.2.2.2.2.next)) (n := 20) (by omega)
        have hw1 := Dc.val_nonneg (d := (Dc.next (if s.2.2.2.1[k]?.getD default then s.2.2.2.2.next.next else s.2.2.2.2.next))) (n := 7) (by omega)
        have hz1 := Dc.val_lt (d := (Dc.next (if s.2.2.2.1[k]?.getD default then s.2.2.2.2.next.next else s.2.2.2.2.next))) (n := 7) (by omega)
        have hw2 := Dc.val_nonneg (d := (Dc.next (Dc.next (if s.2.2.2.1[k]?.getD default then s.2.2.2.2.next.next else s.2.2.2.2.next)))) (n := 5) (by omega)
        have hz2 := Dc.val_lt (d := (Dc.next (Dc.next (if s.2.2.2.1[k]?.getD default then s.2.2.2.2.next.next else s.2.2.2.2.next)))) (n := 5) (by omega)
        refine run_seq ?_
        refine run_seq ?_
        refine run_region ?_
        refine run_op (loc_move rfl) rfl ?_
        refine run_op (loc_move rfl) rfl ?_
        first | refine run_op (loc_indexRow rfl rfl (by first | omega | assumption | (simp only [List.length_map, List.length_set]; omega))) rfl ?_ | refine run_op (loc_indexRowI rfl rfl (by first | omega | assumption | (simp only [List.length_map, List.length_set]; omega))) rfl ?_
        refine run_op (loc_loadRow1 rfl (.there (.there (.here))) (by first | omega | assumption | (simp only [List.length_map, List.length_set]; omega))) rfl ?_
        refine run_op (loc_move rfl) rfl ?_
        refine run_gfirst rfl rfl (by first | exact guard_true _ | exact guard_false _ | exact guard_if (guard_true _) | exact guard_if (guard_false _)) (fun hg => loc_move rfl) rfl ?_
        refine run_gopM (rDc vd) rfl rfl (by first | exact guard_true _ | exact guard_false _ | exact guard_if (guard_true _) | exact guard_if (guard_false _)) (fun hg => loc_callM (pick_spec _ _ _ (by assumption) (by omega)) rfl) rfl (.there (.there (.there (.here)))) ?_
        refine run_gop rfl rfl (by first | exact guard_true _ | exact guard_false _ | exact guard_if (guard_true _) | exact guard_if (guard_false _)) (fun hg => loc_eql rfl rfl) rfl ?_
        refine run_gleave ?_
        refine run_op (loc_and rfl rfl) rfl ?_
        refine run_nil ?_
        refine run_cond rfl (fun h8 => ?_) (fun h8 => ?_)
        ·
          obtain ⟨he1, he2⟩ := again_end hag (show k < 8 by omega) h8.1
          refine run_seq ?_
          refine run_region ?_
          refine run_op (loc_loadOwnN rfl (.here) (by rfl)) rfl ?_
          refine run_op (loc_move rfl) rfl ?_
          refine run_op (loc_call (endD_spec _ _ (by omega)) rfl) rfl ?_
          refine run_op (loc_move rfl) rfl ?_
          refine run_op (loc_extract rfl rfl) rfl ?_
          refine run_op (loc_extract rfl rfl) rfl ?_
          refine run_new (loc_allocOwn (by simp)) rfl (fun b9 _ => ?_)
          refine run_storeN (ho := (by show OneAll [_, _, _]; infer_instance)) rfl rfl (.here) (by rfl) ?_
          refine run_op (loc_assign rfl) rfl ?_
          refine run_nil ?_
          refine run_seq ?_
          refine run_seq ?_
          refine run_region ?_
          refine run_op (loc_move rfl) rfl ?_
          refine run_op (loc_neq rfl rfl) rfl ?_
          refine run_nil ?_
          refine run_cond rfl (fun h10 => ?_) (fun h10 => ?_)
          · exfalso; exact h10 he1
          ·
            refine run_skip ?_
            refine run_seq ?_
            refine run_region ?_
            refine run_op (loc_move rfl) rfl ?_
            refine run_op (loc_move rfl) rfl ?_
            refine run_op (loc_loadOwnN rfl (.here) (by rfl)) rfl ?_
            refine run_storeN (ho := (by show OneAll [_, _, _]; infer_instance)) rfl rfl (.there (.here)) (by rfl) ?_
            first | refine run_op (loc_indexRow rfl rfl (by first | omega | assumption | (simp only [List.length_map, List.length_set]; omega))) rfl ?_ | refine run_op (loc_indexRowI rfl rfl (by first | omega | assumption | (simp only [List.length_map, List.length_set]; omega))) rfl ?_
            refine run_storeRow1 rfl (.there (.there (.there (.here)))) rfl (by rfl) (by first | omega | assumption | (simp only [List.length_map, List.length_set]; omega)) ?_
            refine run_nil ?_
            refine run_exit rfl ?_
            refine run_region ?_
            refine run_op (loc_move rfl) rfl ?_
            first | refine run_op (loc_sub rfl rfl (by first | omega | assumption | (simp only [List.length_map, List.length_set]; omega))) rfl ?_ | refine run_op (loc_subW rfl rfl) rfl ?_
            refine run_op (loc_assign rfl) rfl ?_
            refine run_nil ?_
            refine run_drop (.cons _ (.refl _)) ?_
            exact run_againF ih5 ((s.1 - 1, endD s.2.1 k, s.2.2.1, s.2.2.2.1.set k False, (if s.2.2.2.1[k]?.getD default then s.2.2.2.2.next.next else s.2.2.2.2.next))) (⟨⟨by simp only; omega, by simp only; omega⟩, he2, by simp only; rw [end_drawn]; omega, hq2⟩) (by simp only; omega) (.cons rfl (d_int (by rw [end_drawn])) (.cons rfl (by first | exact fun _ _ h => h | exact d_int (by omega) | exact d_int (by simp) | exact d_intN (by omega) | exact d_any) .nil)) (.cons rfl (fun _ _ x => x) (.cons rfl (fun _ _ x => x) (.cons rfl (fun _ _ x => x) (.cons rfl (fun _ _ x => x) (.nil))))) (rfl)
        ·
          refine run_skip ?_
          refine run_seq ?_
          refine run_region ?_
          refine run_op (loc_move rfl) rfl ?_
          refine run_callM rfl (.there (.there (.there (.here)))) (pick_spec _ _ _ (by assumption) (by omega)) rfl (fun s11 hs11 => ?_)
          first | refine run_op (loc_add rfl rfl (by first | omega | assumption | (simp only [List.length_map, List.length_set]; omega))) rfl ?_ | refine run_op (loc_addW rfl rfl) rfl ?_
          refine run_op (loc_move rfl) rfl ?_
          refine run_callM rfl (.there (.there (.there (.here)))) (pick_spec _ _ _ (by assumption) (by omega)) rfl (fun s12 hs12 => ?_)
          refine run_op (loc_assign rfl) rfl ?_
          refine run_op (loc_assign rfl) rfl ?_
          refine run_nil ?_
          refine run_seq ?_
          refine run_addNone ?_
          refine run_addNone ?_
          refine dr_start _ (.two (τ1 := Nat) (τ2 := Nat) 12 13 (fun _ => True) (fun _ => True)) [⟨[(4, none)], [], some (2, 0, false)⟩,
              ⟨[(10, none)], [], none⟩,
              ⟨[(3, none)], [], none⟩,
              ⟨[(76, some (2, false))], [2], some (5, 0, true)⟩,
              ⟨[(77, some (3, false))], [2, 3], none⟩,
              ⟨[(13, none)], [], none⟩,
              ⟨[(14, none)], [], none⟩,
              ⟨[(74, some (0, false)), (75, some (1, false)), (78, some (4, false)), (79, some (5, false)), (80, some (6, false))], [0, 1, 2, 3, 4, 5, 6], none⟩,
              ⟨[(81, some (7, false))], [0, 1, 2, 3, 4, 5, 6, 7], none⟩,
              ⟨[(73, some (8, false))], [0, 1, 2, 3, 4, 5, 6, 7, 8], none⟩,
              ⟨[(73, some (8, false))], [0, 1, 2, 3, 4, 5, 6, 7, 8], none⟩,
              ⟨[(73, some (8, false))], [0, 1, 2, 3, 4, 5, 6, 7, 8], none⟩,
              ⟨[], [], some (1, 0, true)⟩,
              ⟨[], [], some (0, 0, true)⟩,
              ⟨[(15, some (12, false)), (82, some (9, false))], [0, 1, 2, 3, 4, 5, 6, 7, 8, 9, 12, 13], some (1, 1, true)⟩,
              ⟨[(16, some (13, false)), (83, some (10, false))], [0, 1, 2, 3, 4, 5, 6, 7, 8, 9, 10, 12, 13, 14], some (0, 1, true)⟩,
              ⟨[(84, some (11, false))], [0, 1, 2, 3, 4, 5, 6, 7, 8, 9, 10, 11, 12, 13, 14, 15], none⟩] [_, _, _, _, _, _] _ rfl rfl ?_
          refine dq_read rfl (fun s => .g rfl (.nil)) rfl rfl (fun s hs _ hm => loc_loadOwnN rfl hm (by rfl)) (by exact .cons (.inr fun s s' h => by obtain ⟨a, b⟩ := s; obtain ⟨c, d⟩ := s'; have h : d = b := h; subst h; exact rfl) (.cons (.inr fun s s' h => by obtain ⟨a, b⟩ := s; obtain ⟨c, d⟩ := s'; have h : c = a := h; subst h; exact rfl) (.nil))) ?_
          refine dq_pure rfl (fun s => .g rfl (.nil)) (fun s hs _ => loc_move rfl) (by exact .cons (.inr fun s s' h => by obtain ⟨a, b⟩ := s; obtain ⟨c, d⟩ := s'; have h : d = b := h; subst h; exact rfl) (.cons (.inr fun s s' h => by obtain ⟨a, b⟩ := s; obtain ⟨c, d⟩ := s'; have h : c = a := h; subst h; exact rfl) (.nil))) ?_
          refine dq_pure rfl (fun s => .g rfl (.nil)) (fun s hs _ => loc_move rfl) (by exact .cons (.inr fun s s' h => by obtain ⟨a, b⟩ := s; obtain ⟨c, d⟩ := s'; have h : d = b := h; subst h; exact rfl) (.cons (.inr fun s s' h => by obtain ⟨a, b⟩ := s; obtain ⟨c, d⟩ := s'; have h : c = a := h; subst h; exact rfl) (.nil))) ?_
          refine dq_write rfl (fun s => .op rfl (.nil)) rfl rfl (fun s hs => loc_callM (pick_spec _ _ _ (by assumption) (by omega)) rfl) (by exact .cons (.inr fun s s' h => by obtain ⟨a, b⟩ := s; obtain ⟨c, d⟩ := s'; have h : d = b := h; subst h; exact ⟨rfl, rfl⟩) (.cons (.inr fun s s' h => by obtain ⟨a, b⟩ := s; obtain ⟨c, d⟩ := s'; have h : c = a := h; subst h; exact ⟨rfl, rfl⟩) (.nil))) ?_
          first | refine dq_pure rfl (fun s => .op rfl (.nil)) (fun s hs _ => loc_add rfl rfl (by first | omega | assumption | (simp only [List.length_map, List.length_set]; omega))) (by exact .cons (.inr fun s s' h => by obtain ⟨a, b⟩ := s; obtain ⟨c, d⟩ := s'; have h : d = b := h; subst h; exact rfl) (.cons (.inr fun s s' h => by obtain ⟨a, b⟩ := s; obtain ⟨c, d⟩ := s'; have h : c = a := h; subst h; exact rfl) (.nil))) ?_ | refine dq_pure rfl (fun s => .op rfl (.nil)) (fun s hs _ => loc_addW rfl rfl) (by exact .cons (.inr fun s s' h => by obtain ⟨a, b⟩ := s; obtain ⟨c, d⟩ := s'; have h : d = b := h; subst h; exact rfl) (.cons (.inr fun s s' h => by obtain ⟨a, b⟩ := s; obtain ⟨c, d⟩ := s'; have h : c = a := h; subst h; exact rfl) (.nil))) ?_
          refine dq_pure rfl (fun s => .g rfl (.nil)) (fun s hs _ => loc_move rfl) (by exact .cons (.inr fun s s' h => by obtain ⟨a, b⟩ := s; obtain ⟨c, d⟩ := s'; have h : d = b := h; subst h; exact rfl) (.cons (.inr fun s s' h => by obtain ⟨a, b⟩ := s; obtain ⟨c, d⟩ := s'; have h : c = a := h; subst h; exact rfl) (.nil))) ?_
          refine dq_pure rfl (fun s => .g rfl (.nil)) (fun s hs _ => loc_move rfl) (by exact .cons (.inr fun s s' h => by obtain ⟨a, b⟩ := s; obtain ⟨c, d⟩ := s'; have h : d = b := h; subst h; exact rfl) (.cons (.inr fun s s' h => by obtain ⟨a, b⟩ := s; obtain ⟨c, d⟩ := s'; have h : c = a := h; subst h; exact rfl) (.nil))) ?_
          refine dq_pure rfl (fun s => .op rfl (.op rfl (.op rfl (.op rfl (.op rfl (.nil)))))) (fun s hs _ => loc_call (begin_spec _ _ _ _ _ (by omega) (by omega)) rfl) (by exact .cons (.inr fun s s' h => by obtain ⟨a, b⟩ := s; obtain ⟨c, d⟩ := s'; have h : d = b := h; subst h; exact rfl) (.cons (.inr fun s s' h => by obtain ⟨a, b⟩ := s; obtain ⟨c, d⟩ := s'; have h : c = a := h; subst h; exact rfl) (.nil))) ?_
          refine dq_pure rfl (fun s => .op rfl (.nil)) (fun s hs _ => loc_move rfl) (by exact .cons (.inr fun s s' h => by obtain ⟨a, b⟩ := s; obtain ⟨c, d⟩ := s'; have h : d = b := h; subst h; exact rfl) (.cons (.inr fun s s' h => by obtain ⟨a, b⟩ := s; obtain ⟨c, d⟩ := s'; have h : c = a := h; subst h; exact rfl) (.nil))) ?_
          refine dq_pure rfl (fun s => .op rfl (.nil)) (fun s hs _ => loc_extract rfl rfl) (by exact .cons (.inr fun s s' h => by obtain ⟨a, b⟩ := s; obtain ⟨c, d⟩ := s'; have h : d = b := h; subst h; exact rfl) (.cons (.inr fun s s' h => by obtain ⟨a, b⟩ := s; obtain ⟨c, d⟩ := s'; have h : c = a := h; subst h; exact rfl) (.nil))) ?_
          refine dq_pure rfl (fun s => .op rfl (.nil)) (fun s hs _ => loc_extract rfl rfl) (by exact .cons (.inr fun s s' h => by obtain ⟨a, b⟩ := s; obtain ⟨c, d⟩ := s'; have h : d = b := h; subst h; exact rfl) (.cons (.inr fun s s' h => by obtain ⟨a, b⟩ := s; obtain ⟨c, d⟩ := s'; have h : c = a := h; subst h; exact rfl) (.nil))) ?_
          refine dq_pure rfl (fun s => .op rfl (.nil)) (fun s hs _ => loc_extract rfl rfl) (by exact .cons (.inr fun s s' h => by obtain ⟨a, b⟩ := s; obtain ⟨c, d⟩ := s'; have h : d = b := h; subst h; exact rfl) (.cons (.inr fun s s' h => by obtain ⟨a, b⟩ := s; obtain ⟨c, d⟩ := s'; have h : c = a := h; subst h; exact rfl) (.nil))) ?_
          refine dq_choose Prod.fst (fun s t => (t, s.2)) rfl (fun _ _ => ⟨rfl, id, rfl⟩) (fun s => .nil) rfl rfl (fun s hs => locM_new (loc_allocOwn (by simp))) (by exact .cons (.inl rfl) (.cons (.inr (.inr fun s s' h => by obtain ⟨a, b⟩ := s; obtain ⟨c, d⟩ := s'; have h : c = a := h; subst h; exact rfl)) (.nil))) ?_
          refine dq_choose Prod.snd (fun s t => (s.1, t)) rfl (fun _ _ => ⟨rfl, id, rfl⟩) (fun s => .nil) rfl rfl (fun s hs => locM_new (loc_allocOwn (by simp))) (by exact .cons (.inr (.inr fun s s' h => by obtain ⟨a, b⟩ := s; obtain ⟨c, d⟩ := s'; have h : d = b := h; subst h; exact rfl)) (.cons (.inl rfl) (.nil))) ?_
          refine dq_write0 rfl (fun s => .op rfl (.op rfl (.nil))) rfl rfl (fun s hs => loc_storeN (ho := (by show OneAll [_, _, _]; infer_instance)) rfl rfl rfl) (by exact .cons (.inl rfl) (.cons (.inl rfl) (.nil))) ?_
          refine dq_write0 rfl (fun s => .op rfl (.op rfl (.nil))) rfl rfl (fun s hs => loc_storeN (ho := (by show OneAll [_, _]; infer_instance)) rfl rfl rfl) (by exact .cons (.inl rfl) (.cons (.inl rfl) (.nil))) ?_
          refine dq_pure rfl (fun s => .op rfl (.nil)) (fun s hs _ => loc_assign rfl) (by exact .cons (.inl rfl) (.cons (.inl rfl) (.nil))) ?_
          refine dq_end (rs := [_, _, _, _, _, _]) (0, 0) rfl (fun _ => rfl) (.cons rfl (.cons rfl (.nil))) rfl (fun s9 _ => ?_)
          obtain ⟨b13, b14⟩ := s9
          dsimp only [outG, outM, List.map, List.set, id]
          refine run_seq ?_
          refine run_seq ?_
          refine run_region ?_
          refine run_op (loc_move rfl) rfl ?_
          refine run_op (loc_move rfl) rfl ?_
          first | refine run_op (loc_indexRow rfl rfl (by first | omega | assumption | (simp only [List.length_map, List.length_set]; omega))) rfl ?_ | refine run_op (loc_indexRowI rfl rfl (by first | omega | assumption | (simp only [List.length_map, List.length_set]; omega))) rfl ?_
          refine run_op (loc_loadRow1 rfl (.there (.there (.there (.there (.here))))) (by first | omega | assumption | (simp only [List.length_map, List.length_set]; omega))) rfl ?_
          refine run_nil ?_
          refine run_cond rfl (fun h15 => ?_) (fun h15 => ?_)
          ·
            have hop := h15
            have hbt := begin_there (v := (1 + Dc.val (Dc.next (Dc.next (if s.2.2.2.1[k]?.getD default then s.2.2.2.2.next.next else s.2.2.2.2.next))) 5)) (p := (2 + Dc.val (if s.2.2.2.1[k]?.getD default then s.2.2.2.2.next.next else s.2.2.2.2.next) 20)) (n := (Dc.val (Dc.next (if s.2.2.2.1[k]?.getD default then s.2.2.2.2.next.next else s.2.2.2.2.next)) 7)) hok (by omega) (by omega) (by omega) (by omega) ((hag.th k (by omega)).1 hop)
            refine run_seq ?_
            refine run_seq ?_
            refine run_region ?_
            refine run_op (loc_move rfl) rfl ?_
            refine run_op (loc_neq rfl rfl) rfl ?_
            refine run_op (loc_move rfl) rfl ?_
            refine run_gfirst rfl rfl (by first | exact guard_true _ | exact guard_false _ | exact guard_if (guard_true _) | exact guard_if (guard_false _)) (fun hg => loc_loadOwnN rfl (.there (.here)) (by rfl)) rfl ?_
            refine run_gop rfl rfl (by first | exact guard_true _ | exact guard_false _ | exact guard_if (guard_true _) | exact guard_if (guard_false _)) (fun hg => loc_loadOwnN rfl (.there (.there (.here))) (by rfl)) rfl ?_
            refine run_gop rfl rfl (by first | exact guard_true _ | exact guard_false _ | exact guard_if (guard_true _) | exact guard_if (guard_false _)) (fun hg => loc_call (rsameD_spec _ _) rfl) rfl ?_
            refine run_gop rfl rfl (by first | exact guard_true _ | exact guard_false _ | exact guard_if (guard_true _) | exact guard_if (guard_false _)) (fun hg => loc_not rfl) rfl ?_
            refine run_gleave ?_
            refine run_op (loc_or rfl rfl) rfl ?_
            refine run_nil ?_
            refine run_cond rfl (fun h16 => ?_) (fun h16 => ?_)
            · exfalso; rcases h16 with hh | hh; (· exact hh hbt); (· exact hh (begin_err (by rw [hbt]; omega)))
            ·
              refine run_skip ?_
              refine run_exit rfl ?_
              refine run_region ?_
              refine run_op (loc_move rfl) rfl ?_
              first | refine run_op (loc_sub rfl rfl (by first | omega | assumption | (simp only [List.length_map, List.length_set]; omega))) rfl ?_ | refine run_op (loc_subW rfl rfl) rfl ?_
              refine run_op (loc_assign rfl) rfl ?_
              refine run_nil ?_
              refine run_drop (.cons _ (.cons _ (.refl _))) ?_
              exact run_againF ih5 ((s.1 - 1, s.2.1, s.2.2.1, s.2.2.2.1, (Dc.next (Dc.next (Dc.next (if s.2.2.2.1[k]?.getD default then s.2.2.2.2.next.next else s.2.2.2.2.next)))))) (⟨⟨by simp only; omega, by simp only; omega⟩, hag, by simp only; omega, hq5⟩) (by simp only; omega) (.cons rfl (by first | exact fun _ _ h => h | exact d_int (by omega) | exact d_int (by simp) | exact d_intN (by omega) | exact d_any) (.cons rfl (by first | exact fun _ _ h => h | exact d_int (by omega) | exact d_int (by simp) | exact d_intN (by omega) | exact d_any) .nil)) (.cons rfl (fun _ _ x => x) (.cons rfl (fun _ _ x => x) (.cons rfl (fun _ _ x => x) (.cons rfl (fun _ _ x => x) (.nil))))) (rfl)
          ·
            have hop := h15
            have hbe := begin_eq (v := (1 + Dc.val (Dc.next (Dc.next (if s.2.2.2.1[k]?.getD default then s.2.2.2.2.next.next else s.2.2.2.2.next))) 5)) (p := (2 + Dc.val (if s.2.2.2.1[k]?.getD default then s.2.2.2.2.next.next else s.2.2.2.2.next) 20)) (n := (Dc.val (Dc.next (if s.2.2.2.1[k]?.getD default then s.2.2.2.2.next.next else s.2.2.2.2.next)) 7)) hok (by omega) (by omega) (by omega) (by omega) (fun hc => hop ((hag.th k (by omega)).2 hc))
            rw [if_neg (show ¬ (64 ≤ s.2.1.begun.length ∨ 16384 - s.2.1.drawn < (Dc.val (Dc.next (if s.2.2.2.1[k]?.getD default then s.2.2.2.2.next.next else s.2.2.2.2.next)) 7)) by omega)] at hbe
            have hab := again_begin hag (show k < 8 by omega) hbe
            have hbk := hab.ok
            have hba := hab.apart
            have hdw := begin_drawn hbe
            have hbT := begin_T hbe
            have hbl : (beginT s.2.1 (k : Nat) (1 + Dc.val (Dc.next (Dc.next (if s.2.2.2.1[k]?.getD default then s.2.2.2.2.next.next else s.2.2.2.2.next))) 5) (2 + Dc.val (if s.2.2.2.1[k]?.getD default then s.2.2.2.2.next.next else s.2.2.2.2.next) 20) (Dc.val (Dc.next (if s.2.2.2.1[k]?.getD default then s.2.2.2.2.next.next else s.2.2.2.2.next)) 7)).numbers.length = ((Dc.val (Dc.next (if s.2.2.2.1[k]?.getD default then s.2.2.2.2.next.next else s.2.2.2.2.next)) 7)).toNat := by rw [hbT, tapeS_len]
            refine run_skip ?_
            refine run_seq ?_
            refine run_seq ?_
            refine run_region ?_
            refine run_op (loc_move rfl) rfl ?_
            refine run_op (loc_neq rfl rfl) rfl ?_
            refine run_op (loc_move rfl) rfl ?_
            refine run_gfirst rfl rfl (by first | exact guard_true _ | exact guard_false _ | exact guard_if (guard_true _) | exact guard_if (guard_false _)) (fun hg => loc_fieldAddrOwn rfl) rfl ?_
            refine run_gop rfl rfl (by first | exact guard_true _ | exact guard_false _ | exact guard_if (guard_true _) | exact guard_if (guard_false _)) (fun hg => loc_loadOwn1 rfl (.here) (by rfl)) rfl ?_
            refine run_gop rfl rfl (by first | exact guard_true _ | exact guard_false _ | exact guard_if (guard_true _) | exact guard_if (guard_false _)) (fun hg => loc_len rfl) rfl ?_
            refine run_gop rfl rfl (by first | exact guard_true _ | exact guard_false _ | exact guard_if (guard_true _) | exact guard_if (guard_false _)) (fun hg => loc_move rfl) rfl ?_
            refine run_gop rfl rfl (by first | exact guard_true _ | exact guard_false _ | exact guard_if (guard_true _) | exact guard_if (guard_false _)) (fun hg => loc_neq rfl rfl) rfl ?_
            refine run_gleave ?_
            refine run_op (loc_or rfl rfl) rfl ?_
            refine run_op (loc_move rfl) rfl ?_
            refine run_gfirst rfl rfl (by first | exact guard_true _ | exact guard_false _ | exact guard_if (guard_true _) | exact guard_if (guard_false _)) (fun hg => loc_fieldAddrOwn rfl) rfl ?_
            refine run_gop rfl rfl (by first | exact guard_true _ | exact guard_false _ | exact guard_if (guard_true _) | exact guard_if (guard_false _)) (fun hg => loc_loadOwn1 rfl (.here) (by rfl)) rfl ?_
            refine run_gop rfl rfl (by first | exact guard_true _ | exact guard_false _ | exact guard_if (guard_true _) | exact guard_if (guard_false _)) (fun hg => loc_neq rfl rfl) rfl ?_
            refine run_gleave ?_
            refine run_op (loc_or rfl rfl) rfl ?_
            refine run_nil ?_
            refine run_cond rfl (fun h17 => ?_) (fun h17 => ?_)
            · exfalso; rcases h17 with (hh | hh) | hh; (· exact hh hbe); (· omega); (· rw [hbT] at hh; exact hh rfl)
            ·
              refine run_skip ?_
              refine run_seq ?_
              refine run_seq ?_
              refine run_region ?_
              refine run_op (loc_fieldAddrOwn rfl) rfl ?_
              refine run_op (loc_loadOwn1 rfl (.here) (by rfl)) rfl ?_
              first | refine runL_fact (s := 112) rfl (fun _ _ h => dSl_len h) (fun hlen18 => ?_) | skip
              refine run_op (loc_len rfl) rfl ?_
              refine run_op (loc_move rfl) rfl ?_
              refine run_nil ?_
              refine run_block ?_
              refine run_loopC (σ := Nat) (ks := [3, 4, 6, 7, 8, 9, 10, 13, 14, 15, 16, 112, 113]) (.cons rfl (.cons rfl (.cons rfl (.cons rfl (.cons rfl (.cons rfl (.cons rfl (.cons rfl (.cons rfl (.cons rfl (.cons rfl (.cons rfl (.cons rfl (.nil)))))))))))))) (fun j => [(114, dInt .i64 (j : Nat))]) (fun j => j ≤ (beginT s.2.1 (k : Nat) (1 + Dc.val (Dc.next (Dc.next (if s.2.2.2.1[k]?.getD default then s.2.2.2.2.next.next else s.2.2.2.2.next))) 5) (2 + Dc.val (if s.2.2.2.1[k]?.getD default then s.2.2.2.2.next.next else s.2.2.2.2.next) 20) (Dc.val (Dc.next (if s.2.2.2.1[k]?.getD default then s.2.2.2.2.next.next else s.2.2.2.2.next)) 7)).numbers.length) (fun j => (beginT s.2.1 (k : Nat) (1 + Dc.val (Dc.next (Dc.next (if s.2.2.2.1[k]?.getD default then s.2.2.2.2.next.next else s.2.2.2.2.next))) 5) (2 + Dc.val (if s.2.2.2.1[k]?.getD default then s.2.2.2.2.next.next else s.2.2.2.2.next) 20) (Dc.val (Dc.next (if s.2.2.2.1[k]?.getD default then s.2.2.2.2.next.next else s.2.2.2.2.next)) 7)).numbers.length - j) (0) ((by omega)) (.cons rfl (by first | exact fun _ _ h => h | exact d_int (by omega) | exact d_int (by simp) | exact d_intN (by omega) | exact d_any) .nil) ?_
              intro j hj ih19
              refine run_seq ?_
              refine run_region ?_
              refine run_op (loc_lss rfl rfl) rfl ?_
              refine run_nil ?_
              refine run_seq ?_
              refine run_cond rfl (fun h20 => ?_) (fun h20 => ?_)
              ·
                refine run_skip ?_
                refine run_seq ?_
                refine run_block ?_
                refine run_seq ?_
                refine run_region ?_
                first | refine run_op (loc_index rfl rfl (by first | omega | assumption | (simp only [List.length_map, List.length_set]; omega))) rfl ?_ | refine run_op (loc_indexI rfl rfl (by first | omega | assumption | (simp only [List.length_map, List.length_set]; omega))) rfl ?_
                refine run_op (loc_load1 rfl) rfl ?_
                refine run_op (loc_assign rfl) rfl ?_
                refine run_nil ?_
                refine run_seq ?_
                refine run_region ?_
                refine run_op (loc_move rfl) rfl ?_
                refine run_op (loc_lss rfl rfl) rfl ?_
                refine run_op (loc_move rfl) rfl ?_
                refine run_gfirst rfl rfl (by first | exact guard_true _ | exact guard_false _ | exact guard_if (guard_true _) | exact guard_if (guard_false _)) (fun hg => loc_move rfl) rfl ?_
                refine run_gop rfl rfl (by first | exact guard_true _ | exact guard_false _ | exact guard_if (guard_true _) | exact guard_if (guard_false _)) (fun hg => loc_move rfl) rfl ?_
                refine run_gop rfl rfl (by first | exact guard_true _ | exact guard_false _ | exact guard_if (guard_true _) | exact guard_if (guard_false _)) (fun hg => loc_geq rfl rfl) rfl ?_
                refine run_gleave ?_
                refine run_op (loc_or rfl rfl) rfl ?_
                refine run_nil ?_
                refine run_cond rfl (fun h21 => ?_) (fun h21 => ?_)
                · exfalso; have e9 : (beginT s.2.1 (k : Nat) (1 + Dc.val (Dc.next (Dc.next (if s.2.2.2.1[k]?.getD default then s.2.2.2.2.next.next else s.2.2.2.2.next))) 5) (2 + Dc.val (if s.2.2.2.1[k]?.getD default then s.2.2.2.2.next.next else s.2.2.2.2.next) 20) (Dc.val (Dc.next (if s.2.2.2.1[k]?.getD default then s.2.2.2.2.next.next else s.2.2.2.2.next)) 7)).numbers = nums (it (beginS s.2.1 (k : Nat) (1 + Dc.val (Dc.next (Dc.next (if s.2.2.2.1[k]?.getD default then s.2.2.2.2.next.next else s.2.2.2.2.next))) 5) (2 + Dc.val (if s.2.2.2.1[k]?.getD default then s.2.2.2.2.next.next else s.2.2.2.2.next) 20) (Dc.val (Dc.next (if s.2.2.2.1[k]?.getD default then s.2.2.2.2.next.next else s.2.2.2.2.next)) 7)).from'.toNat s.2.1.seed) (List.replicate ((Dc.val (Dc.next (if s.2.2.2.1[k]?.getD default then s.2.2.2.2.next.next else s.2.2.2.2.next)) 7)).toNat (2 + Dc.val (if s.2.2.2.1[k]?.getD default then s.2.2.2.2.next.next else s.2.2.2.2.next) 20)) := (by rw [hbT]; rfl); have hb9 := nums_bd (it (beginS s.2.1 (k : Nat) (1 + Dc.val (Dc.next (Dc.next (if s.2.2.2.1[k]?.getD default then s.2.2.2.2.next.next else s.2.2.2.2.next))) 5) (2 + Dc.val (if s.2.2.2.1[k]?.getD default then s.2.2.2.2.next.next else s.2.2.2.2.next) 20) (Dc.val (Dc.next (if s.2.2.2.1[k]?.getD default then s.2.2.2.2.next.next else s.2.2.2.2.next)) 7)).from'.toNat s.2.1.seed) (2 + Dc.val (if s.2.2.2.1[k]?.getD default then s.2.2.2.2.next.next else s.2.2.2.2.next) 20) ((Dc.val (Dc.next (if s.2.2.2.1[k]?.getD default then s.2.2.2.2.next.next else s.2.2.2.2.next)) 7)).toNat (by omega) ((beginT s.2.1 (k : Nat) (1 + Dc.val (Dc.next (Dc.next (if s.2.2.2.1[k]?.getD default then s.2.2.2.2.next.next else s.2.2.2.2.next))) 5) (2 + Dc.val (if s.2.2.2.1[k]?.getD default then s.2.2.2.2.next.next else s.2.2.2.2.next) 20) (Dc.val (Dc.next (if s.2.2.2.1[k]?.getD default then s.2.2.2.2.next.next else s.2.2.2.2.next)) 7)).numbers[j]?.getD default) (by rw [← e9]; exact getD_mem (by omega)); omega
                ·
                  refine run_skip ?_
                  refine run_inBlock ?_
                  refine run_region ?_
                  first | refine run_op (loc_add rfl rfl (by first | omega | assumption | (simp only [List.length_map, List.length_set]; omega))) rfl ?_ | refine run_op (loc_addW rfl rfl) rfl ?_
                  refine run_op (loc_move rfl) rfl ?_
                  refine run_nil ?_
                  exact run_againC ih19 (j + 1) (by omega) (by omega) (.cons rfl (by first | exact fun _ _ h => h | exact d_int (by omega) | exact d_int (by simp) | exact d_intN (by omega) | exact d_any) .nil) (.cons rfl (fun _ _ x => x) (.cons rfl (fun _ _ x => x) (.cons rfl (fun _ _ x => x) (.cons rfl (fun _ _ x => x) (.cons rfl (fun _ _ x => x) (.cons rfl (fun _ _ x => x) (.cons rfl (fun _ _ x => x) (.cons rfl (fun _ _ x => x) (.cons rfl (fun _ _ x => x) (.cons rfl (fun _ _ x => x) (.cons rfl (fun _ _ x => x) (.cons rfl (fun _ _ x => x) (.cons rfl (fun _ _ x => x) (.nil))))))))))))))
              ·
                refine run_exit rfl ?_
                refine run_seq ?_
                refine dr_start _ (.none) [⟨[(6, none)], [], none⟩,
                    ⟨[(10, none)], [], none⟩,
                    ⟨[(7, none)], [], none⟩,
                    ⟨[(10, none)], [], none⟩,
                    ⟨[(15, none)], [], some (1, 0, false)⟩,
                    ⟨[(16, none)], [], some (0, 0, false)⟩,
                    ⟨[(8, none)], [], none⟩,
                    ⟨[(14, none)], [], none⟩,
                    ⟨[(132, some (6, false)), (133, some (7, false))], [6, 7], none⟩,
                    ⟨[(4, none), (130, some (4, false))], [4], some (2, 0, true)⟩,
                    ⟨[(126, some (0, false)), (127, some (1, false))], [0, 1, 4, 5, 9], none⟩,
                    ⟨[(135, some (10, false)), (131, some (5, false))], [0, 1, 4, 5, 9, 10], some (3, 0, true)⟩,
                    ⟨[(128, some (2, false)), (129, some (3, false))], [0, 1, 2, 3, 4, 5, 9, 10, 11], none⟩,
                    ⟨[(136, some (12, false))], [0, 1, 2, 3, 4, 5, 9, 10, 11, 12], some (4, 0, true)⟩,
                    ⟨[(134, some (8, false))], [0, 1, 2, 3, 4, 5, 6, 7, 8, 9, 10, 11, 12, 13], none⟩] [_, _, _, _, _, _] _ rfl rfl ?_
                refine dq_pure rfl (fun s => .g rfl (.nil)) (fun s hs _ => loc_move rfl) (by exact .nil) ?_
                refine dq_pure rfl (fun s => .g rfl (.nil)) (fun s hs _ => loc_move rfl) (by exact .nil) ?_
                refine dq_pure rfl (fun s => .g rfl (.nil)) (fun s hs _ => loc_move rfl) (by exact .nil) ?_
                refine dq_pure rfl (fun s => .g rfl (.nil)) (fun s hs _ => loc_move rfl) (by exact .nil) ?_
                refine dq_read rfl (fun s => .g rfl (.nil)) rfl rfl (fun s hs _ hm => loc_loadOwnN rfl hm (by rfl)) (by exact .nil) ?_
                refine dq_read rfl (fun s => .g rfl (.nil)) rfl rfl (fun s hs _ hm => loc_loadOwnN rfl hm (by rfl)) (by exact .nil) ?_
                refine dq_pure rfl (fun s => .g rfl (.nil)) (fun s hs _ => loc_move rfl) (by exact .nil) ?_
                refine dq_pure rfl (fun s => .g rfl (.nil)) (fun s hs _ => loc_move rfl) (by exact .nil) ?_
                first | refine dq_pure rfl (fun s => .op rfl (.op rfl (.nil))) (fun s hs _ => loc_add rfl rfl (by first | omega | assumption | (simp only [List.length_map, List.length_set]; omega))) (by exact .nil) ?_ | refine dq_pure rfl (fun s => .op rfl (.op rfl (.nil))) (fun s hs _ => loc_addW rfl rfl) (by exact .nil) ?_
                refine dq_write0 rfl (fun s => .g rfl (.op rfl (.nil))) rfl rfl (fun s hs => loc_storeN (ho := (by show OneAll [_, _, _]; infer_instance)) rfl rfl rfl) (by exact .nil) ?_
                refine dq_pure rfl (fun s => .op rfl (.op rfl (.nil))) (fun s hs _ => loc_indexOwn rfl rfl (by first | omega | assumption | (simp only [List.length_map, List.length_set]; omega))) (by exact .nil) ?_
                refine dq_write0 rfl (fun s => .op rfl (.op rfl (.nil))) rfl rfl (fun s hs => loc_storeBufN (ho := (by show OneAll [_, _]; infer_instance)) rfl rfl (by simp; omega) rfl) (by exact .nil) ?_
                first | refine dq_pure rfl (fun s => .op rfl (.op rfl (.nil))) (fun s hs _ => loc_indexRow rfl rfl (by first | omega | assumption | (simp only [List.length_map, List.length_set]; omega))) (by exact .nil) ?_ | refine dq_pure rfl (fun s => .op rfl (.op rfl (.nil))) (fun s hs _ => loc_indexRowI rfl rfl (by first | omega | assumption | (simp only [List.length_map, List.length_set]; omega))) (by exact .nil) ?_
                refine dq_write0 rfl (fun s => .op rfl (.nil)) rfl rfl (fun s hs => loc_storeRow1 _ rfl rfl rfl (by first | omega | assumption | (simp only [List.length_map, List.length_set]; omega))) (by exact .nil) ?_
                refine dq_pure rfl (fun s => .op rfl (.nil)) (fun s hs _ => loc_assign rfl) (by exact .nil) ?_
                refine dq_end (rs := [_, _, _, _, _, _]) () rfl (fun _ => rfl) (.nil) rfl (fun _ _ => ?_)
                dsimp only [outG, outM, List.map, List.set, id]
                refine run_bufUp (els' := (s.2.2.1.set k (beginT s.2.1 (k : Nat) (1 + Dc.val (Dc.next (Dc.next (if s.2.2.2.1[k]?.getD default then s.2.2.2.2.next.next else s.2.2.2.2.next))) 5) (2 + Dc.val (if s.2.2.2.1[k]?.getD default then s.2.2.2.2.next.next else s.2.2.2.2.next) 20) (Dc.val (Dc.next (if s.2.2.2.1[k]?.getD default then s.2.2.2.2.next.next else s.2.2.2.2.next)) 7))).map cTape) (.there (.there (.there (.here)))) (fun e he => by obtain ⟨t, _, rfl⟩ := List.mem_map.1 he; rfl) (fun J vs h => by have e : 0 + ((k : Nat) : Int).toNat = k := (by omega); rw [e] at h; rw [List.map_set]; exact h) ?_
                refine run_seq ?_
                refine run_seq ?_
                refine run_region ?_
                refine run_op (loc_fieldAddrOwn rfl) rfl ?_
                refine run_op (loc_loadOwn1 rfl (.there (.there (.here))) (by rfl)) rfl ?_
                refine run_op (loc_move rfl) rfl ?_
                refine run_op (loc_neq rfl rfl) rfl ?_
                refine run_op (loc_move rfl) rfl ?_
                refine run_gfirst rfl rfl (by first | exact guard_true _ | exact guard_false _ | exact guard_if (guard_true _) | exact guard_if (guard_false _)) (fun hg => loc_loadOwnN rfl (.there (.there (.here))) (by rfl)) rfl ?_
                refine run_gop rfl rfl (by first | exact guard_true _ | exact guard_false _ | exact guard_if (guard_true _) | exact guard_if (guard_false _)) (fun hg => loc_call (validD_spec _) rfl) rfl ?_
                refine run_gop rfl rfl (by first | exact guard_true _ | exact guard_false _ | exact guard_if (guard_true _) | exact guard_if (guard_false _)) (fun hg => loc_not rfl) rfl ?_
                refine run_gleave ?_
                refine run_op (loc_or rfl rfl) rfl ?_
                refine run_op (loc_move rfl) rfl ?_
                refine run_gfirst rfl rfl (by first | exact guard_true _ | exact guard_false _ | exact guard_if (guard_true _) | exact guard_if (guard_false _)) (fun hg => loc_loadOwnN rfl (.there (.there (.here))) (by rfl)) rfl ?_
                refine run_gop rfl rfl (by first | exact guard_true _ | exact guard_false _ | exact guard_if (guard_true _) | exact guard_if (guard_false _)) (fun hg => loc_call (apart_spec _ (by assumption)) rfl) rfl ?_
                refine run_gop rfl rfl (by first | exact guard_true _ | exact guard_false _ | exact guard_if (guard_true _) | exact guard_if (guard_false _)) (fun hg => loc_not rfl) rfl ?_
                refine run_gleave ?_
                refine run_op (loc_or rfl rfl) rfl ?_
                refine run_nil ?_
                refine run_cond rfl (fun h22 => ?_) (fun h22 => ?_)
                · exfalso; rcases h22 with (hh | hh) | hh; (· omega); (· exact hh hbk); (· exact hh hba)
                ·
                  refine run_skip ?_
                  refine run_seq ?_
                  refine run_region ?_
                  refine run_op (loc_move rfl) rfl ?_
                  refine run_op (loc_lenOwn rfl) rfl ?_
                  refine run_op (loc_move rfl) rfl ?_
                  refine run_nil ?_
                  refine run_block ?_
                  refine run_loopC (σ := Nat) (ks := [3, 4, 6, 7, 8, 9, 152]) (.cons rfl (.cons rfl (.cons rfl (.cons rfl (.cons rfl (.cons rfl (.cons rfl (.nil)))))))) (fun i => [(153, dInt .i64 (i : Nat))]) (fun i => i ≤ 8) (fun i => 8 - i) (0) ((by omega)) (.cons rfl (by first | exact fun _ _ h => h | exact d_int (by omega) | exact d_int (by simp) | exact d_intN (by omega) | exact d_any) .nil) ?_
                  intro i hi ih23
                  refine run_seq ?_
                  refine run_region ?_
                  refine run_op (loc_lss rfl rfl) rfl ?_
                  refine run_nil ?_
                  refine run_seq ?_
                  refine run_cond rfl (fun h24 => ?_) (fun h24 => ?_)
                  ·
                    refine run_skip ?_
                    refine run_seq ?_
                    refine run_block ?_
                    refine run_seq ?_
                    refine run_region ?_
                    refine run_op (loc_move rfl) rfl ?_
                    refine run_op (loc_assign rfl) rfl ?_
                    refine run_nil ?_
                    refine run_seq ?_
                    refine run_region ?_
                    refine run_op (loc_loadOwnN rfl (.there (.there (.here))) (by rfl)) rfl ?_
                    refine run_op (loc_move rfl) rfl ?_
                    refine run_op (loc_call (resume_spec _ _) rfl) rfl ?_
                    refine run_op (loc_move rfl) rfl ?_
                    refine run_op (loc_extract rfl rfl) rfl ?_
                    refine run_op (loc_extract rfl rfl) rfl ?_
                    refine run_op (loc_extract rfl rfl) rfl ?_
                    refine run_new (loc_allocOwn (by simp)) rfl (fun b25 _ => ?_)
                    refine run_new (loc_allocOwn (by simp)) rfl (fun b26 _ => ?_)
                    refine run_storeN (ho := (by show OneAll [_, _, _, _, _]; infer_instance)) rfl rfl (.there (.here)) (by rfl) ?_
                    refine run_storeN (ho := (by show OneAll [_, _]; infer_instance)) rfl rfl (.here) (by rfl) ?_
                    refine run_op (loc_assign rfl) rfl ?_
                    refine run_nil ?_
                    refine run_seq ?_
                    refine dr_start _ (.none) [⟨[(7, none)], [], none⟩,
                        ⟨[(20, none)], [], none⟩,
                        ⟨[(163, some (0, false)), (164, some (1, false))], [0, 1], none⟩,
                        ⟨[(165, some (2, false))], [0, 1, 2], some (6, 0, false)⟩,
                        ⟨[(23, none)], [], none⟩,
                        ⟨[(167, some (4, false))], [4], none⟩,
                        ⟨[(166, some (3, false)), (168, some (5, false))], [0, 1, 2, 3, 4, 5], none⟩,
                        ⟨[(169, some (6, false))], [0, 1, 2, 3, 4, 5, 6], none⟩,
                        ⟨[(7, none)], [0, 1, 2, 3, 4, 5, 6, 7], none⟩,
                        ⟨[(20, none)], [0, 1, 2, 3, 4, 5, 6, 7], none⟩,
                        ⟨[(171, some (8, true)), (172, some (9, true))], [0, 1, 2, 3, 4, 5, 6, 7, 8, 9], none⟩,
                        ⟨[(173, some (10, true))], [0, 1, 2, 3, 4, 5, 6, 7, 8, 9, 10], some (6, 0, false)⟩,
                        ⟨[(174, some (11, true))], [0, 1, 2, 3, 4, 5, 6, 7, 8, 9, 10, 11], none⟩,
                        ⟨[(22, none)], [0, 1, 2, 3, 4, 5, 6, 7, 8, 9, 10, 11, 12], some (0, 0, false)⟩,
                        ⟨[(6, none)], [0, 1, 2, 3, 4, 5, 6, 7, 8, 9, 10, 11, 12], none⟩,
                        ⟨[(20, none)], [0, 1, 2, 3, 4, 5, 6, 7, 8, 9, 10, 11, 12], none⟩,
                        ⟨[(177, some (14, true)), (178, some (15, true))], [0, 1, 2, 3, 4, 5, 6, 7, 8, 9, 10, 11, 12, 14, 15], none⟩,
                        ⟨[(179, some (16, true))], [0, 1, 2, 3, 4, 5, 6, 7, 8, 9, 10, 11, 12, 14, 15, 16], some (5, 0, false)⟩,
                        ⟨[(176, some (13, true)), (180, some (17, true))], [0, 1, 2, 3, 4, 5, 6, 7, 8, 9, 10, 11, 12, 13, 14, 15, 16, 17], none⟩,
                        ⟨[(181, some (18, true))], [0, 1, 2, 3, 4, 5, 6, 7, 8, 9, 10, 11, 12, 13, 14, 15, 16, 17, 18], none⟩,
                        ⟨[(175, some (12, true)), (182, some (19, false))], [0, 1, 2, 3, 4, 5, 6, 7, 8, 9, 10, 11, 12, 13, 14, 15, 16, 17, 18, 19], none⟩,
                        ⟨[(170, some (7, false)), (183, some (20, false))], [0, 1, 2, 3, 4, 5, 6, 7, 8, 9, 10, 11, 12, 13, 14, 15, 16, 17, 18, 19, 20], none⟩] [_, _, _, _, _, _, _, _] _ rfl rfl ?_
                    refine dq_pure rfl (fun s => .g rfl (.nil)) (fun s hs _ => loc_move rfl) (by exact .nil) ?_
                    refine dq_pure rfl (fun s => .g rfl (.nil)) (fun s hs _ => loc_move rfl) (by exact .nil) ?_
                    first | refine dq_pure rfl (fun s => .op rfl (.op rfl (.nil))) (fun s hs _ => loc_indexRow rfl rfl (by first | omega | assumption | (simp only [List.length_map, List.length_set]; omega))) (by exact .nil) ?_ | refine dq_pure rfl (fun s => .op rfl (.op rfl (.nil))) (fun s hs _ => loc_indexRowI rfl rfl (by first | omega | assumption | (simp only [List.length_map, List.length_set]; omega))) (by exact .nil) ?_
                    refine dq_read rfl (fun s => .op rfl (.nil)) rfl rfl (fun s hs _ hm => loc_loadRow1 rfl hm (by first | omega | assumption | (simp only [List.length_map, List.length_set]; omega))) (by exact .nil) ?_
                    refine dq_pure rfl (fun s => .g rfl (.nil)) (fun s hs _ => loc_move rfl) (by exact .nil) ?_
                    refine dq_pure rfl (fun s => .op rfl (.nil)) (fun s hs _ => loc_eql rfl rfl) (by exact .nil) ?_
                    refine dq_pure rfl (fun s => .op rfl (.op rfl (.nil))) (fun s hs _ => loc_neqB rfl rfl) (by exact .nil) ?_
                    refine dq_pure rfl (fun s => .op rfl (.nil)) (fun s hs _ => loc_move rfl) (by exact .nil) ?_
                    refine dq_gpure rfl (fun s => .g rfl (.nil)) rfl (fun _ => by first | exact guard_true _ | exact guard_false _ | exact guard_if (guard_true _) | exact guard_if (guard_false _)) (fun s hs hg _ => loc_move rfl) (by exact .nil) ?_
                    refine dq_gpure rfl (fun s => .g rfl (.nil)) rfl (fun _ => by first | exact guard_true _ | exact guard_false _ | exact guard_if (guard_true _) | exact guard_if (guard_false _)) (fun s hs hg _ => loc_move rfl) (by exact .nil) ?_
                    first | refine dq_gpure rfl (fun s => .opU rfl (.opU rfl (.nil))) rfl (fun _ => by first | exact guard_true _ | exact guard_false _ | exact guard_if (guard_true _) | exact guard_if (guard_false _)) (fun s hs hg _ => loc_indexRow rfl rfl (by first | omega | assumption | (simp only [List.length_map, List.length_set]; omega))) (by exact .nil) ?_ | refine dq_gpure rfl (fun s => .opU rfl (.opU rfl (.nil))) rfl (fun _ => by first | exact guard_true _ | exact guard_false _ | exact guard_if (guard_true _) | exact guard_if (guard_false _)) (fun s hs hg _ => loc_indexRowI rfl rfl (by first | omega | assumption | (simp only [List.length_map, List.length_set]; omega))) (by exact .nil) ?_
                    refine dq_gread rfl (fun s => .opU rfl (.nil)) rfl rfl rfl (fun _ => by first | exact guard_true _ | exact guard_false _ | exact guard_if (guard_true _) | exact guard_if (guard_false _)) (fun s hs hg _ hm => loc_loadRow1 rfl hm (by first | omega | assumption | (simp only [List.length_map, List.length_set]; omega))) (by exact .nil) ?_
                    refine dq_gpure rfl (fun s => .opU rfl (.nil)) rfl (fun _ => by first | exact guard_true _ | exact guard_false _ | exact guard_if (guard_true _) | exact guard_if (guard_false _)) (fun s hs hg _ => loc_move rfl) (by exact .nil) ?_
                    refine dq_gread rfl (fun s => .g rfl (.nil)) rfl rfl rfl (fun _ => by first | exact guard_true _ | exact guard_false _ | exact guard_if (guard_true _) | exact guard_if (guard_false _)) (fun s hs hg _ hm => loc_loadOwnN rfl hm (by rfl)) (by exact .nil) ?_
                    refine dq_gpure rfl (fun s => .g rfl (.nil)) rfl (fun _ => by first | exact guard_true _ | exact guard_false _ | exact guard_if (guard_true _) | exact guard_if (guard_false _)) (fun s hs hg _ => loc_move rfl) (by exact .nil) ?_
                    refine dq_gpure rfl (fun s => .g rfl (.nil)) rfl (fun _ => by first | exact guard_true _ | exact guard_false _ | exact guard_if (guard_true _) | exact guard_if (guard_false _)) (fun s hs hg _ => loc_move rfl) (by exact .nil) ?_
                    refine dq_gpure rfl (fun s => .opU rfl (.opU rfl (.nil))) rfl (fun _ => by first | exact guard_true _ | exact guard_false _ | exact guard_if (guard_true _) | exact guard_if (guard_false _)) (fun s hs hg _ => loc_indexOwn rfl rfl (by first | omega | assumption | (simp only [List.length_map, List.length_set]; omega))) (by exact .nil) ?_
                    refine dq_gread rfl (fun s => .opU rfl (.nil)) rfl rfl rfl (fun _ => by first | exact guard_true _ | exact guard_false _ | exact guard_if (guard_true _) | exact guard_if (guard_false _)) (fun s hs hg _ hm => loc_loadBufN rfl hm (by exact map_get (i := i) (by rw [List.length_set]; omega) (by simp))) (by exact .nil) ?_
                    refine dq_gpure rfl (fun s => .opU rfl (.opU rfl (.nil))) rfl (fun _ => by first | exact guard_true _ | exact guard_false _ | exact guard_if (guard_true _) | exact guard_if (guard_false _)) (fun s hs hg _ => loc_call (tsame_spec _ _) rfl) (by exact .nil) ?_
                    refine dq_gpure rfl (fun s => .opU rfl (.nil)) rfl (fun _ => by first | exact guard_true _ | exact guard_false _ | exact guard_if (guard_true _) | exact guard_if (guard_false _)) (fun s hs hg _ => loc_not rfl) (by exact .nil) ?_
                    first | refine dq_gpure rfl (fun s => .opU rfl (.op rfl (.nil))) rfl (fun _ => by first | exact guard_true _ | exact guard_false _ | exact guard_if (guard_true _) | exact guard_if (guard_false _)) (fun s hs hg _ => loc_and rfl rfl) (by exact .nil) ?_ | refine dq_gpure rfl (fun s => .opU rfl (.op rfl (.nil))) rfl (fun _ => by first | exact guard_true _ | exact guard_false _ | exact guard_if (guard_true _) | exact guard_if (guard_false _)) (fun s hs hg _ => loc_andG hg rfl rfl) (by exact .nil) ?_ | refine dq_gpure rfl (fun s => .opU rfl (.op rfl (.nil))) rfl (fun _ => by first | exact guard_true _ | exact guard_false _ | exact guard_if (guard_true _) | exact guard_if (guard_false _)) (fun s hs hg _ => loc_andH hg rfl rfl) (by exact .nil) ?_
                    refine dq_pure rfl (fun s => .op rfl (.op rfl (.nil))) (fun s hs _ => loc_or rfl rfl) (by exact .nil) ?_
                    refine dq_end (rs := [_, _, _, _, _, _, _, _]) () rfl (fun _ => rfl) (.nil) rfl (fun _ _ => ?_)
                    dsimp only [outG, outM, List.map, List.set, id]
                    refine run_cond rfl (fun h27 => ?_) (fun h27 => ?_)
                    · exfalso; have ht := hab.th i (by omega); have he := end_eq hbk (x := (i : Int)); rcases h27 with hh | hh; (· exact hh (ht.trans he.symm)); (· exact hh.2 (hab.tp i (by omega) (ht.1 hh.1)))
                    ·
                      refine run_skip ?_
                      refine run_inBlock ?_
                      refine run_region ?_
                      first | refine run_op (loc_add rfl rfl (by first | omega | assumption | (simp only [List.length_map, List.length_set]; omega))) rfl ?_ | refine run_op (loc_addW rfl rfl) rfl ?_
                      refine run_op (loc_move rfl) rfl ?_
                      refine run_nil ?_
                      refine run_drop (.cons _ (.cons _ (.refl _))) ?_
                      exact run_againC ih23 (i + 1) (by omega) (by omega) (.cons rfl (by first | exact fun _ _ h => h | exact d_int (by omega) | exact d_int (by simp) | exact d_intN (by omega) | exact d_any) .nil) (.cons rfl (fun _ _ x => x) (.cons rfl (fun _ _ x => x) (.cons rfl (fun _ _ x => x) (.cons rfl (fun _ _ x => x) (.cons rfl (fun _ _ x => x) (.cons rfl (fun _ _ x => x) (.cons rfl (fun _ _ x => x) (.nil))))))))
                  ·
                    refine run_exit rfl ?_
                    refine run_inBlock ?_
                    refine run_region ?_
                    refine run_op (loc_move rfl) rfl ?_
                    first | refine run_op (loc_sub rfl rfl (by first | omega | assumption | (simp only [List.length_map, List.length_set]; omega))) rfl ?_ | refine run_op (loc_subW rfl rfl) rfl ?_
                    refine run_op (loc_assign rfl) rfl ?_
                    refine run_nil ?_
                    refine run_drop (.cons _ (.cons _ (.refl _))) ?_
                    exact run_againF ih5 ((s.1 - 1, (beginD s.2.1 (k : Nat) (1 + Dc.val (Dc.next (Dc.next (if s.2.2.2.1[k]?.getD default then s.2.2.2.2.next.next else s.2.2.2.2.next))) 5) (2 + Dc.val (if s.2.2.2.1[k]?.getD default then s.2.2.2.2.next.next else s.2.2.2.2.next) 20) (Dc.val (Dc.next (if s.2.2.2.1[k]?.getD default then s.2.2.2.2.next.next else s.2.2.2.2.next)) 7)), s.2.2.1.set k (beginT s.2.1 (k : Nat) (1 + Dc.val (Dc.next (Dc.next (if s.2.2.2.1[k]?.getD default then s.2.2.2.2.next.next else s.2.2.2.2.next))) 5) (2 + Dc.val (if s.2.2.2.1[k]?.getD default then s.2.2.2.2.next.next else s.2.2.2.2.next) 20) (Dc.val (Dc.next (if s.2.2.2.1[k]?.getD default then s.2.2.2.2.next.next else s.2.2.2.2.next)) 7)), s.2.2.2.1.set k True, (Dc.next (Dc.next (Dc.next (if s.2.2.2.1[k]?.getD default then s.2.2.2.2.next.next else s.2.2.2.2.next)))))) (⟨⟨by simp only; omega, by simp only; omega⟩, hab, by simp only; omega, hq5⟩) (by simp only; omega) (.cons rfl (d_int (by rw [hdw])) (.cons rfl (by first | exact fun _ _ h => h | exact d_int (by omega) | exact d_int (by simp) | exact d_intN (by omega) | exact d_any) .nil)) (.cons rfl (fun _ _ x => x) (.cons rfl (fun _ _ x => x) (.cons rfl (fun _ _ x => x) (.cons rfl (fun _ _ x => x) (.nil))))) (rfl)
      ·
        refine run_exit rfl ?_
        refine run_seq ?_
        refine run_region ?_
        refine run_op (loc_assign rfl) rfl ?_
        refine run_nil ?_
        refine run_drop (.cons _ (.cons _ (.cons _ (.cons _ (.refl _))))) ?_
        refine run_retP Try.func10 rfl rfl ?_
        exact d_B ⟨fun _ => trivial, fun _ => trivial⟩

end Go.Q
