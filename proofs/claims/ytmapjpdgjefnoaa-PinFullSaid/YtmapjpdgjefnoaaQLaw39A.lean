/- The law of the greatest numbers of versions and sessions. -/
import Derived.Test.YtmapjpdgjefnoaaQPinS
set_option linter.unusedVariables false
set_option linter.unusedSimpArgs false
namespace Go.Q
open Go.Proofs

open Classical
theorem pinFull_spec (n : Int) (hn : 0 ≤ n ∧ n ≤ 255) : SpecP Try.prog 3 [dInt .u8 n] (dB True) := by
  have hn1 : newP 1 = ⟨[], [1]⟩ := by unfold newP; rw [if_neg (by omega)]
  have hp1 : okPins (newP 1) := new_ok (by unfold newE; rw [if_neg (by omega)])
  refine specP_of_body Try.func3 rfl rfl (fun I M => ?_)
  refine run_seq ?_
  refine run_region ?_
  refine run_op (loc_assign rfl) rfl ?_
  refine run_nil ?_
  refine run_seq ?_
  refine run_seq ?_
  refine run_region ?_
  refine run_op (loc_call (sane39_spec) rfl) rfl ?_
  refine run_op (loc_not rfl) rfl ?_
  refine run_nil ?_
  refine run_cond rfl (fun h1 => ?_) (fun h1 => ?_)
  · exfalso; exact h1 trivial
  ·
    refine run_skip ?_
    refine run_seq ?_
    refine run_region ?_
    refine run_op (loc_move rfl) rfl ?_
    first | refine run_op (loc_conv rfl (by first | omega | assumption)) rfl ?_ | refine run_op (loc_convW rfl) rfl ?_
    first | refine run_op (loc_rem rfl rfl (by first | omega | assumption)) rfl ?_ | refine run_op (loc_remW rfl rfl (by first | omega | assumption)) rfl ?_
    refine run_op (loc_assign rfl) rfl ?_
    refine run_nil ?_
    refine run_seq ?_
    refine run_region ?_
    refine run_op (loc_call (pnew_spec _) rfl) rfl ?_
    refine run_op (loc_move rfl) rfl ?_
    refine run_op (loc_extract rfl rfl) rfl ?_
    refine run_op (loc_extract rfl rfl) rfl ?_
    refine run_new (loc_allocOwn (by simp)) rfl (fun b4 _ => ?_)
    refine run_storeN (ho := (by show OneAll [_, _]; infer_instance)) rfl rfl (by first | exact .here | exact .there .here | exact .there (.there .here) | exact .there (.there (.there .here)) | exact .there (.there (.there (.there .here))) | exact .there (.there (.there (.there (.there .here))))) (by rfl) ?_
    refine run_op (loc_assign rfl) rfl ?_
    refine run_nil ?_
    refine run_seq ?_
    refine run_seq ?_
    refine run_region ?_
    refine run_op (loc_assign rfl) rfl ?_
    refine run_nil ?_
    refine run_block ?_
    refine run_loopF (σ := Nat × Pins) (ks := [3, 4, 5]) (.cons rfl (.cons rfl (.cons rfl (.nil)))) (fun s => [(6, dInt .i64 (s.1 : Nat))]) (fun s => [rCells b4 26 (cPins s.2)]) (fun s => okPins s.2 ∧ s.2.rows = [] ∧ s.2.kept.length = s.1 ∧ newestP s.2 = s.1 ∧ (s.1 : Int) ≤ 16 - n % 2 ∧ 1 ≤ s.1) (fun s => 16 - s.1) ((1, newP 1)) (⟨hp1, by rw [hn1], by rw [hn1]; rfl, by rw [hn1]; rfl, by simp only; omega, by simp⟩) (.cons rfl (by first | exact fun _ _ h => h | exact d_int (by omega) | exact d_int (by simp) | exact d_intN (by omega) | exact d_any) .nil) (rfl) ?_
    rintro s ⟨hok, hro, hke, hne, hle, h1s⟩ ih2
    have one := hok.one
    have most := hok.most
    have reads := hok.reads
    have nb := newest_bd hok
    have hpe := pub_eq (v := (s.1 : Int) + 1) hok (by omega)
    refine run_seq ?_
    refine run_seq ?_
    refine run_region ?_
    refine run_op (loc_move rfl) rfl ?_
    refine run_op (loc_move rfl) rfl ?_
    first | refine run_op (loc_sub rfl rfl (by first | omega | assumption)) rfl ?_ | refine run_op (loc_subW rfl rfl) rfl ?_
    refine run_op (loc_lss rfl rfl) rfl ?_
    refine run_nil ?_
    refine run_cond rfl (fun h3 => ?_) (fun h3 => ?_)
    ·
      rw [if_neg (by omega)] at hpe
      have hpp := pub_P hpe
      refine run_skip ?_
      refine run_seq ?_
      refine run_block ?_
      refine run_seq ?_
      refine run_region ?_
      refine run_op (loc_loadOwnN rfl (by first | exact .here | exact .there .here | exact .there (.there .here) | exact .there (.there (.there .here)) | exact .there (.there (.there (.there .here))) | exact .there (.there (.there (.there (.there .here))))) (by rfl)) rfl ?_
      refine run_op (loc_move rfl) rfl ?_
      first | refine run_op (loc_add rfl rfl (by first | omega | assumption)) rfl ?_ | refine run_op (loc_addW rfl rfl) rfl ?_
      refine run_op (loc_call (publish_spec _ _ ⟨by omega, by omega⟩) rfl) rfl ?_
      refine run_op (loc_move rfl) rfl ?_
      refine run_op (loc_extract rfl rfl) rfl ?_
      refine run_op (loc_extract rfl rfl) rfl ?_
      refine run_new (loc_allocOwn (by simp)) rfl (fun b4 _ => ?_)
      refine run_storeN (ho := (by show OneAll [_, _]; infer_instance)) rfl rfl (by first | exact .here | exact .there .here | exact .there (.there .here) | exact .there (.there (.there .here)) | exact .there (.there (.there (.there .here))) | exact .there (.there (.there (.there (.there .here))))) (by rfl) ?_
      refine run_op (loc_assign rfl) rfl ?_
      refine run_nil ?_
      refine run_seq ?_
      refine run_seq ?_
      refine run_region ?_
      refine run_op (loc_move rfl) rfl ?_
      refine run_op (loc_neq rfl rfl) rfl ?_
      refine run_nil ?_
      refine run_cond rfl (fun h5 => ?_) (fun h5 => ?_)
      · exfalso; exact h5 hpe
      ·
        refine run_skip ?_
        refine run_region ?_
        refine run_op (loc_loadOwnN rfl (by first | exact .here | exact .there .here | exact .there (.there .here) | exact .there (.there (.there .here)) | exact .there (.there (.there (.there .here))) | exact .there (.there (.there (.there (.there .here))))) (by rfl)) rfl ?_
        refine run_storeN (ho := (by show OneAll [_, _]; infer_instance)) rfl rfl (by first | exact .here | exact .there .here | exact .there (.there .here) | exact .there (.there (.there .here)) | exact .there (.there (.there (.there .here))) | exact .there (.there (.there (.there (.there .here))))) (by rfl) ?_
        refine run_nil ?_
        refine run_inBlock ?_
        refine run_region ?_
        refine run_op (loc_move rfl) rfl ?_
        first | refine run_op (loc_add rfl rfl (by first | omega | assumption)) rfl ?_ | refine run_op (loc_addW rfl rfl) rfl ?_
        refine run_op (loc_assign rfl) rfl ?_
        refine run_nil ?_
        refine run_drop (.cons _ (.refl _)) ?_
        exact run_againF ih2 ((s.1 + 1, pubP s.2 ((s.1 : Int) + 1))) (⟨pub_ok hok, by simp only; rw [hpp]; exact hro, by simp only; rw [hpp]; simp; omega, by simp only; rw [hpp, newest_snoc]; omega, by simp only; omega, by simp only; omega⟩) (by simp only; omega) (.cons rfl (by first | exact fun _ _ h => h | exact d_int (by omega) | exact d_int (by simp) | exact d_intN (by omega) | exact d_any) .nil) (.cons rfl (fun _ _ x => x) (.cons rfl (fun _ _ x => x) (.cons rfl (fun _ _ x => x) (.nil)))) (rfl)
    ·
      refine run_exit rfl ?_
      refine run_seq ?_
      refine run_region ?_
      refine run_op (loc_loadOwnN rfl (by first | exact .here | exact .there .here | exact .there (.there .here) | exact .there (.there (.there .here)) | exact .there (.there (.there (.there .here))) | exact .there (.there (.there (.there (.there .here))))) (by rfl)) rfl ?_
      refine run_op (loc_call (publish_spec _ _ ⟨by omega, by omega⟩) rfl) rfl ?_
      refine run_op (loc_move rfl) rfl ?_
      refine run_op (loc_extract rfl rfl) rfl ?_
      refine run_op (loc_extract rfl rfl) rfl ?_
      refine run_new (loc_allocOwn (by simp)) rfl (fun b6 _ => ?_)
      refine run_storeN (ho := (by show OneAll [_, _]; infer_instance)) rfl rfl (by first | exact .here | exact .there .here | exact .there (.there .here) | exact .there (.there (.there .here)) | exact .there (.there (.there (.there .here))) | exact .there (.there (.there (.there (.there .here))))) (by rfl) ?_
      refine run_op (loc_assign rfl) rfl ?_
      refine run_nil ?_
      refine run_seq ?_
      refine run_seq ?_
      refine run_region ?_
      refine run_op (loc_assign rfl) rfl ?_
      refine run_nil ?_
      refine run_block ?_
      have hpe9 := pub_eq (v := 99) hok (by omega)
      refine run_front (.there (.here)) ?_
      refine run_loopF (σ := Nat × Pins) (ks := [3, 4, 5, 10]) (.cons rfl (.cons rfl (.cons rfl (.cons rfl (.nil))))) (fun r => [(11, dInt .i64 (r.1 : Nat))]) (fun r => [rCells b4 26 (cPins r.2)]) (fun r => okPins r.2 ∧ r.2.rows.length = r.1 ∧ (∀ x ∈ r.2.rows, x.session < 2 * r.1 ∧ x.session % 2 = 0) ∧ (r.1 : Int) ≤ 64 - n % 2) (fun r => 64 - r.1) ((0, s.2)) ((by refine ⟨hok, by simp [hro], by simp [hro], by simp only; omega⟩)) (.cons rfl (by first | exact fun _ _ h => h | exact d_int (by omega) | exact d_int (by simp) | exact d_intN (by omega) | exact d_any) .nil) (rfl) ?_
      rintro r ⟨hokr, hrl, hev, hler⟩ ih7
      have rone := hokr.one
      have rmost := hokr.most
      have rreads := hokr.reads
      have rnb := newest_bd hokr
      refine run_seq ?_
      refine run_seq ?_
      refine run_region ?_
      refine run_op (loc_move rfl) rfl ?_
      refine run_op (loc_move rfl) rfl ?_
      first | refine run_op (loc_sub rfl rfl (by first | omega | assumption)) rfl ?_ | refine run_op (loc_subW rfl rfl) rfl ?_
      refine run_op (loc_lss rfl rfl) rfl ?_
      refine run_nil ?_
      refine run_cond rfl (fun h8 => ?_) (fun h8 => ?_)
      ·
        have hth : ¬ thereP r.2 (2 * (r.1 : Int)) := fun ⟨x, hx, e⟩ => by have := (hev x hx).1; omega
        have hoe := open_eq hokr (by omega) hth
        rw [if_neg (by omega)] at hoe
        refine run_skip ?_
        refine run_seq ?_
        refine run_block ?_
        refine run_seq ?_
        refine run_region ?_
        refine run_op (loc_loadOwnN rfl (by first | exact .here | exact .there .here | exact .there (.there .here) | exact .there (.there (.there .here)) | exact .there (.there (.there (.there .here))) | exact .there (.there (.there (.there (.there .here))))) (by rfl)) rfl ?_
        refine run_op (loc_move rfl) rfl ?_
        first | refine run_op (loc_mul rfl rfl (by first | omega | assumption)) rfl ?_ | refine run_op (loc_mulW rfl rfl) rfl ?_
        refine run_op (loc_call (open_spec _ _ ⟨by omega, by omega⟩) rfl) rfl ?_
        refine run_op (loc_move rfl) rfl ?_
        refine run_op (loc_extract rfl rfl) rfl ?_
        refine run_op (loc_extract rfl rfl) rfl ?_
        refine run_op (loc_extract rfl rfl) rfl ?_
        refine run_new (loc_allocOwn (by simp)) rfl (fun b9 _ => ?_)
        refine run_storeN (ho := (by show OneAll [_, _]; infer_instance)) rfl rfl (by first | exact .here | exact .there .here | exact .there (.there .here) | exact .there (.there (.there .here)) | exact .there (.there (.there (.there .here))) | exact .there (.there (.there (.there (.there .here))))) (by rfl) ?_
        refine run_op (loc_assign rfl) rfl ?_
        refine run_op (loc_assign rfl) rfl ?_
        refine run_nil ?_
        refine run_seq ?_
        refine run_seq ?_
        refine run_region ?_
        refine run_op (loc_move rfl) rfl ?_
        refine run_op (loc_neq rfl rfl) rfl ?_
        refine run_nil ?_
        refine run_cond rfl (fun h10 => ?_) (fun h10 => ?_)
        · exfalso; exact h10 hoe
        ·
          refine run_skip ?_
          refine run_region ?_
          refine run_op (loc_loadOwnN rfl (by first | exact .here | exact .there .here | exact .there (.there .here) | exact .there (.there (.there .here)) | exact .there (.there (.there (.there .here))) | exact .there (.there (.there (.there (.there .here))))) (by rfl)) rfl ?_
          refine run_storeN (ho := (by show OneAll [_, _]; infer_instance)) rfl rfl (by first | exact .here | exact .there .here | exact .there (.there .here) | exact .there (.there (.there .here)) | exact .there (.there (.there (.there .here))) | exact .there (.there (.there (.there (.there .here))))) (by rfl) ?_
          refine run_nil ?_
          refine run_inBlock ?_
          refine run_region ?_
          refine run_op (loc_move rfl) rfl ?_
          first | refine run_op (loc_add rfl rfl (by first | omega | assumption)) rfl ?_ | refine run_op (loc_addW rfl rfl) rfl ?_
          refine run_op (loc_assign rfl) rfl ?_
          refine run_nil ?_
          refine run_drop (.cons _ (.refl _)) ?_
          exact run_againF ih7 ((r.1 + 1, openP r.2 (2 * (r.1 : Int)))) (⟨open_ok hokr, by simp only; rw [open_len hoe, hrl], by simp only; intro x hx; rcases (open_mem hoe).1 hx with rfl | hx; (· simp only; omega); (· have := hev x hx; omega), by simp only; omega⟩) (by simp only; omega) (.cons rfl (by first | exact fun _ _ h => h | exact d_int (by omega) | exact d_int (by simp) | exact d_intN (by omega) | exact d_any) .nil) (.cons rfl (fun _ _ x => x) (.cons rfl (fun _ _ x => x) (.cons rfl (fun _ _ x => x) (.cons rfl (fun _ _ x => x) (.nil))))) (rfl)
      ·
        have hth : ¬ thereP r.2 1 := fun ⟨x, hx, e⟩ => by have := (hev x hx).2; omega
        have hoe := open_eq hokr (by omega) hth
        refine run_exit rfl ?_
        refine run_seq ?_
        refine run_region ?_
        refine run_op (loc_loadOwnN rfl (by first | exact .here | exact .there .here | exact .there (.there .here) | exact .there (.there (.there .here)) | exact .there (.there (.there (.there .here))) | exact .there (.there (.there (.there (.there .here))))) (by rfl)) rfl ?_
        refine run_op (loc_call (open_spec _ _ ⟨by omega, by omega⟩) rfl) rfl ?_
        refine run_op (loc_move rfl) rfl ?_
        refine run_op (loc_extract rfl rfl) rfl ?_
        refine run_op (loc_extract rfl rfl) rfl ?_
        refine run_op (loc_extract rfl rfl) rfl ?_
        refine run_new (loc_allocOwn (by simp)) rfl (fun b11 _ => ?_)
        refine run_storeN (ho := (by show OneAll [_, _]; infer_instance)) rfl rfl (by first | exact .here | exact .there .here | exact .there (.there .here) | exact .there (.there (.there .here)) | exact .there (.there (.there (.there .here))) | exact .there (.there (.there (.there (.there .here))))) (by rfl) ?_
        refine run_op (loc_assign rfl) rfl ?_
        refine run_op (loc_assign rfl) rfl ?_
        refine run_nil ?_
        refine run_seq ?_
        refine run_region ?_
        refine run_op (loc_move rfl) rfl ?_
        refine run_op (loc_eql rfl rfl) rfl ?_
        refine run_op (loc_move rfl) rfl ?_
        refine run_gfirst rfl rfl (by first | exact guard_true _ | exact guard_false _ | exact guard_if (guard_true _) | exact guard_if (guard_false _)) (fun hg => loc_move rfl) rfl ?_
        refine run_gop rfl rfl (by first | exact guard_true _ | exact guard_false _ | exact guard_if (guard_true _) | exact guard_if (guard_false _)) (fun hg => loc_eql rfl rfl) rfl ?_
        refine run_gop rfl rfl (by first | exact guard_true _ | exact guard_false _ | exact guard_if (guard_true _) | exact guard_if (guard_false _)) (fun hg => loc_move rfl) rfl ?_
        refine run_gop rfl rfl (by first | exact guard_true _ | exact guard_false _ | exact guard_if (guard_true _) | exact guard_if (guard_false _)) (fun hg => loc_eql rfl rfl) rfl ?_
        refine run_gop rfl rfl (by first | exact guard_true _ | exact guard_false _ | exact guard_if (guard_true _) | exact guard_if (guard_false _)) (fun hg => loc_eqlB rfl rfl) rfl ?_
        refine run_gleave ?_
        refine run_op (loc_and rfl rfl) rfl ?_
        refine run_op (loc_move rfl) rfl ?_
        refine run_gfirst rfl rfl (by first | exact guard_true _ | exact guard_false _ | exact guard_if (guard_true _) | exact guard_if (guard_false _)) (fun hg => loc_move rfl) rfl ?_
        refine run_gop rfl rfl (by first | exact guard_true _ | exact guard_false _ | exact guard_if (guard_true _) | exact guard_if (guard_false _)) (fun hg => loc_eql rfl rfl) rfl ?_
        refine run_gop rfl rfl (by first | exact guard_true _ | exact guard_false _ | exact guard_if (guard_true _) | exact guard_if (guard_false _)) (fun hg => loc_move rfl) rfl ?_
        refine run_gop rfl rfl (by first | exact guard_true _ | exact guard_false _ | exact guard_if (guard_true _) | exact guard_if (guard_false _)) (fun hg => loc_eql rfl rfl) rfl ?_
        refine run_gop rfl rfl (by first | exact guard_true _ | exact guard_false _ | exact guard_if (guard_true _) | exact guard_if (guard_false _)) (fun hg => loc_eqlB rfl rfl) rfl ?_
        refine run_gleave ?_
        refine run_op (loc_and rfl rfl) rfl ?_
        refine run_op (loc_assign rfl) rfl ?_
        refine run_nil ?_
        refine run_drop (.cons _ (.cons _ (.cons _ (.refl _)))) ?_
        refine run_retP Try.func3 rfl rfl ?_
        exact d_B ⟨fun _ => trivial, fun _ => (by have e1 : newE 1 = 0 := (by unfold newE; rw [if_neg (by omega)]); rw [hpe9, hoe]; exact ⟨⟨e1, by split <;> omega⟩, by split <;> omega⟩)⟩

end Go.Q
