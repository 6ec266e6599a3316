/- Contracts of reads that are apart. -/
import Derived.Test.YtmapjpdgjefnoaaQDisk2
set_option linter.unusedVariables false
set_option linter.unusedSimpArgs false
namespace Go.Q
open Go.Proofs

open Classical
def swp (a b : Strt) : Strt × Strt := if b.from' < a.from' then (b, a) else (a, b)
def meetW (s : Strt × Strt) : Prop := (0 < s.1.draws ∧ 0 < s.2.draws) ∧ IntKind.u64.wrap (IntKind.u64.wrap s.2.from' - IntKind.u64.wrap s.1.from') < IntKind.u64.wrap s.1.draws
theorem meetW_iff {x y : Int} {a b : Strt} (ha : okS x a) (hb : okS y b) : meetW (swp a b) ↔ meetS a b := by
  have h1 := ha.f
  have h2 := ha.n
  have h3 := hb.f
  have h4 := hb.n
  unfold meetW swp meetS
  simp only [IntKind.wrap_u64]
  split <;> simp only <;> omega
theorem apart_at {d : Disk} (hok : okDisk d) {k : Nat} (hk : k < d.begun.length) : (∃ x ∈ d.begun.take k, meetW (swp (d.begun[k]?.getD default) x)) ↔ ¬ ∀ j, j < k → ¬ meetS (d.begun[k]?.getD default) (d.begun[j]?.getD default) := by
  constructor
  · rintro ⟨x, hx, hm⟩ h
    obtain ⟨j, hj⟩ := List.getElem?_of_mem hx
    rw [List.getElem?_take] at hj
    split at hj
    · rename_i hjk
      have e : d.begun[j]?.getD default = x := by rw [hj]; rfl
      have := (List.getElem?_eq_some_iff.1 hj).1
      refine h j hjk ?_
      rw [e, ← meetW_iff (okS_of hok hk) (e ▸ okS_of hok (i := j) (by omega))]
      exact hm
    · cases hj
  · intro h
    refine Classical.byContradiction fun hc => h fun j hj hm => hc ⟨d.begun[j]?.getD default, ?_, ?_⟩
    · have hjl : j < d.begun.length := by omega
      rw [List.mem_iff_getElem?]
      exact ⟨j, by rw [List.getElem?_take, if_pos hj]; simp [hjl]⟩
    · rw [meetW_iff (okS_of hok hk) (okS_of hok (i := j) (by omega))]
      exact hm
theorem meet_spec (a b : Strt) : SpecP Try.prog 71 [dStrt a, dStrt b] (dB (meetW (swp a b))) := by
  refine specP_of_body Try.func71 rfl rfl (fun I M => ?_)
  refine run_seq ?_
  refine run_region ?_
  refine run_new (loc_boxOwnN rfl) rfl (fun b2 _ => ?_)
  refine run_new (loc_boxOwnN rfl) rfl (fun b3 _ => ?_)
  refine run_op (loc_assign rfl) rfl ?_
  refine run_nil ?_
  refine run_seq ?_
  refine run_seq ?_
  refine run_region ?_
  refine run_op (loc_fieldAddrOwn rfl) rfl ?_
  refine run_op (loc_loadOwn1 rfl (by first | exact .here | exact .there .here | exact .there (.there .here) | exact .there (.there (.there .here)) | exact .there (.there (.there (.there .here))) | exact .there (.there (.there (.there (.there .here))))) (by rfl)) rfl ?_
  refine run_op (loc_fieldAddrOwn rfl) rfl ?_
  refine run_op (loc_loadOwn1 rfl (by first | exact .here | exact .there .here | exact .there (.there .here) | exact .there (.there (.there .here)) | exact .there (.there (.there (.there .here))) | exact .there (.there (.there (.there (.there .here))))) (by rfl)) rfl ?_
  refine run_op (loc_gtr rfl rfl) rfl ?_
  refine run_nil ?_
  refine run_front (.here) ?_
  refine run_front (.there (.here)) ?_
  refine run_joinF (σ := Strt × Strt) (ks := [2, 3]) _ (.cons rfl (.cons rfl (.nil))) (fun s => []) (fun s => [rCells b2 68 (cStrt s.1), rCells b3 68 (cStrt s.2)]) (fun s => s = swp a b) ⟨[_, _], rfl⟩ (fun j1 => ?_) ?_
  ·
    refine run_cond rfl (fun h2 => ?_) (fun h2 => ?_)
    ·
      refine run_region ?_
      refine run_op (loc_loadOwnN rfl (by first | exact .here | exact .there .here | exact .there (.there .here) | exact .there (.there (.there .here)) | exact .there (.there (.there (.there .here))) | exact .there (.there (.there (.there (.there .here))))) (by rfl)) rfl ?_
      refine run_op (loc_loadOwnN rfl (by first | exact .here | exact .there .here | exact .there (.there .here) | exact .there (.there (.there .here)) | exact .there (.there (.there (.there .here))) | exact .there (.there (.there (.there (.there .here))))) (by rfl)) rfl ?_
      refine run_storeN (ho := (by show OneAll [_, _, _, _, _]; infer_instance)) rfl rfl (by first | exact .here | exact .there .here | exact .there (.there .here) | exact .there (.there (.there .here)) | exact .there (.there (.there (.there .here))) | exact .there (.there (.there (.there (.there .here))))) (by rfl) ?_
      refine run_storeN (ho := (by show OneAll [_, _, _, _, _]; infer_instance)) rfl rfl (by first | exact .here | exact .there .here | exact .there (.there .here) | exact .there (.there (.there .here)) | exact .there (.there (.there (.there .here))) | exact .there (.there (.there (.there (.there .here))))) (by rfl) ?_
      refine run_nil ?_
      exact run_atF j1 ((b, a)) ((by unfold swp; rw [if_pos (by omega)])) (rfl) (.nil) (.cons rfl (fun _ _ x => x) (.cons rfl (fun _ _ x => x) (.nil)))
    ·
      refine run_skip ?_
      exact run_atF j1 ((a, b)) ((by unfold swp; rw [if_neg (by omega)])) (rfl) (.nil) (.cons rfl (fun _ _ x => x) (.cons rfl (fun _ _ x => x) (.nil)))
  rintro s hs
  refine run_seq ?_
  refine run_region ?_
  refine run_op (loc_fieldAddrOwn rfl) rfl ?_
  refine run_op (loc_loadOwn1 rfl (by first | exact .here | exact .there .here | exact .there (.there .here) | exact .there (.there (.there .here)) | exact .there (.there (.there (.there .here))) | exact .there (.there (.there (.there (.there .here))))) (by rfl)) rfl ?_
  refine run_op (loc_gtr rfl rfl) rfl ?_
  refine run_op (loc_move rfl) rfl ?_
  refine run_gfirst rfl rfl (by first | exact guard_true _ | exact guard_false _ | exact guard_if (guard_true _) | exact guard_if (guard_false _)) (fun hg => loc_fieldAddrOwn rfl) rfl ?_
  refine run_gop rfl rfl (by first | exact guard_true _ | exact guard_false _ | exact guard_if (guard_true _) | exact guard_if (guard_false _)) (fun hg => loc_loadOwn1 rfl (by first | exact .here | exact .there .here | exact .there (.there .here) | exact .there (.there (.there .here)) | exact .there (.there (.there (.there .here))) | exact .there (.there (.there (.there (.there .here))))) (by rfl)) rfl ?_
  refine run_gop rfl rfl (by first | exact guard_true _ | exact guard_false _ | exact guard_if (guard_true _) | exact guard_if (guard_false _)) (fun hg => loc_gtr rfl rfl) rfl ?_
  refine run_gleave ?_
  refine run_op (loc_and rfl rfl) rfl ?_
  refine run_op (loc_move rfl) rfl ?_
  refine run_gfirst rfl rfl (by first | exact guard_true _ | exact guard_false _ | exact guard_if (guard_true _) | exact guard_if (guard_false _)) (fun hg => loc_fieldAddrOwn rfl) rfl ?_
  refine run_gop rfl rfl (by first | exact guard_true _ | exact guard_false _ | exact guard_if (guard_true _) | exact guard_if (guard_false _)) (fun hg => loc_loadOwn1 rfl (by first | exact .here | exact .there .here | exact .there (.there .here) | exact .there (.there (.there .here)) | exact .there (.there (.there (.there .here))) | exact .there (.there (.there (.there (.there .here))))) (by rfl)) rfl ?_
  first | refine run_gop rfl rfl (by first | exact guard_true _ | exact guard_false _ | exact guard_if (guard_true _) | exact guard_if (guard_false _)) (fun hg => loc_convU rfl (by first | omega | assumption)) rfl ?_ | refine run_gop rfl rfl (by first | exact guard_true _ | exact guard_false _ | exact guard_if (guard_true _) | exact guard_if (guard_false _)) (fun hg => loc_convW rfl) rfl ?_
  refine run_gop rfl rfl (by first | exact guard_true _ | exact guard_false _ | exact guard_if (guard_true _) | exact guard_if (guard_false _)) (fun hg => loc_fieldAddrOwn rfl) rfl ?_
  refine run_gop rfl rfl (by first | exact guard_true _ | exact guard_false _ | exact guard_if (guard_true _) | exact guard_if (guard_false _)) (fun hg => loc_loadOwn1 rfl (by first | exact .here | exact .there .here | exact .there (.there .here) | exact .there (.there (.there .here)) | exact .there (.there (.there (.there .here))) | exact .there (.there (.there (.there (.there .here))))) (by rfl)) rfl ?_
  first | refine run_gop rfl rfl (by first | exact guard_true _ | exact guard_false _ | exact guard_if (guard_true _) | exact guard_if (guard_false _)) (fun hg => loc_convU rfl (by first | omega | assumption)) rfl ?_ | refine run_gop rfl rfl (by first | exact guard_true _ | exact guard_false _ | exact guard_if (guard_true _) | exact guard_if (guard_false _)) (fun hg => loc_convW rfl) rfl ?_
  first | refine run_gop rfl rfl (by first | exact guard_true _ | exact guard_false _ | exact guard_if (guard_true _) | exact guard_if (guard_false _)) (fun hg => loc_subU rfl rfl (by first | omega | assumption)) rfl ?_ | refine run_gop rfl rfl (by first | exact guard_true _ | exact guard_false _ | exact guard_if (guard_true _) | exact guard_if (guard_false _)) (fun hg => loc_subW rfl rfl) rfl ?_
  refine run_gop rfl rfl (by first | exact guard_true _ | exact guard_false _ | exact guard_if (guard_true _) | exact guard_if (guard_false _)) (fun hg => loc_fieldAddrOwn rfl) rfl ?_
  refine run_gop rfl rfl (by first | exact guard_true _ | exact guard_false _ | exact guard_if (guard_true _) | exact guard_if (guard_false _)) (fun hg => loc_loadOwn1 rfl (by first | exact .here | exact .there .here | exact .there (.there .here) | exact .there (.there (.there .here)) | exact .there (.there (.there (.there .here))) | exact .there (.there (.there (.there (.there .here))))) (by rfl)) rfl ?_
  first | refine run_gop rfl rfl (by first | exact guard_true _ | exact guard_false _ | exact guard_if (guard_true _) | exact guard_if (guard_false _)) (fun hg => loc_convU rfl (by first | omega | assumption)) rfl ?_ | refine run_gop rfl rfl (by first | exact guard_true _ | exact guard_false _ | exact guard_if (guard_true _) | exact guard_if (guard_false _)) (fun hg => loc_convW rfl) rfl ?_
  refine run_gop rfl rfl (by first | exact guard_true _ | exact guard_false _ | exact guard_if (guard_true _) | exact guard_if (guard_false _)) (fun hg => loc_lss rfl rfl) rfl ?_
  refine run_gleave ?_
  refine run_op (loc_and rfl rfl) rfl ?_
  refine run_op (loc_assign rfl) rfl ?_
  refine run_nil ?_
  refine run_drop (.cons _ (.cons _ (.refl _))) ?_
  refine run_retP Try.func71 rfl rfl ?_
  exact d_B (by rw [← hs]; exact Iff.rfl)

theorem apart1_spec (a x : Strt) : SpecP Try.prog 70 [dStrt x, dBox (cStrt a)] (dB (meetW (swp a x))) := by
  refine specP_of_body Try.func70 rfl rfl (fun I M => ?_)
  refine run_seq ?_
  refine run_region ?_
  refine run_op (loc_boxN rfl) rfl ?_
  refine run_op (loc_assign rfl) rfl ?_
  refine run_nil ?_
  refine run_seq ?_
  refine run_region ?_
  refine run_op (loc_loadN rfl rfl) rfl ?_
  refine run_op (loc_loadN rfl rfl) rfl ?_
  refine run_op (loc_call (meet_spec _ _) rfl) rfl ?_
  refine run_op (loc_assign rfl) rfl ?_
  refine run_nil ?_
  refine run_retP Try.func70 rfl rfl ?_
  exact fun _ _ h => h

theorem apart_spec (d : Disk) (hok : okDisk d) : SpecP Try.prog 41 [dDisk d] (dB (apartD d)) := by
  refine specP_of_body Try.func41 rfl rfl (fun I M => ?_)
  refine run_seq ?_
  refine run_region ?_
  refine run_op (loc_boxN rfl) rfl ?_
  refine run_op (loc_assign rfl) rfl ?_
  refine run_nil ?_
  refine run_seq ?_
  refine run_seq ?_
  refine run_region ?_
  refine run_op (loc_fieldAddr rfl) rfl ?_
  refine run_op (loc_load1 rfl) rfl ?_
  first | refine runL_fact (s := 6) rfl (fun _ _ h => dSl_len h) (fun hlen1 => ?_) | skip
  refine run_op (loc_len rfl) rfl ?_
  refine run_op (loc_move rfl) rfl ?_
  refine run_nil ?_
  refine run_block ?_
  refine run_loopC (σ := Nat) (ks := [1, 6, 7]) (.cons rfl (.cons rfl (.cons rfl (.nil)))) (fun k => [(8, dInt .i64 (k : Nat))]) (fun k => k ≤ d.begun.length ∧ (∀ i, i < k → ∀ j, j < i → ¬ meetS (d.begun[i]?.getD default) (d.begun[j]?.getD default))) (fun k => d.begun.length - k) (0) (⟨by omega, fun j hj => by omega⟩) (.cons rfl (by first | exact fun _ _ h => h | exact d_int (by omega) | exact d_int (by simp) | exact d_intN (by omega) | exact d_any) .nil) ?_
  rintro k ⟨hk, hbk⟩ ih2
  refine run_seq ?_
  refine run_region ?_
  refine run_op (loc_lss rfl rfl) rfl ?_
  refine run_nil ?_
  refine run_seq ?_
  refine run_cond rfl (fun h3 => ?_) (fun h3 => ?_)
  ·
    refine run_skip ?_
    refine run_seq ?_
    refine run_block ?_
    refine run_seq ?_
    refine run_region ?_
    refine run_op (loc_move rfl) rfl ?_
    first | refine run_op (loc_index rfl rfl (by first | omega | assumption)) rfl ?_ | refine run_op (loc_indexI rfl rfl (by first | omega | assumption)) rfl ?_
    refine run_op (loc_loadN rfl rfl) rfl ?_
    refine run_new (loc_allocOwn (by simp)) rfl (fun b4 _ => ?_)
    refine run_op (loc_assign rfl) rfl ?_
    refine run_storeN (ho := (by show OneAll [_, _, _, _, _]; infer_instance)) rfl rfl (by first | exact .here | exact .there .here | exact .there (.there .here) | exact .there (.there (.there .here)) | exact .there (.there (.there (.there .here))) | exact .there (.there (.there (.there (.there .here))))) (by rfl) ?_
    refine run_nil ?_
    refine run_freezeCells (s := 4) rfl (.here) ?_
    refine run_seq ?_
    refine run_region ?_
    refine run_op (loc_fieldAddr rfl) rfl ?_
    refine run_op (loc_load1 rfl) rfl ?_
    refine run_op (loc_move rfl) rfl ?_
    refine run_op (loc_sliceTo rfl rfl (by first | omega | assumption)) rfl ?_
    refine run_op (loc_makeFunc rfl) rfl ?_
    refine runL_recast (s := 17) rfl (clo_fun (Ds := fun x : Strt => [dStrt x]) (d := fun x => dB (meetW (swp (d.begun[k]?.getD default) x))) (fun x => apart1_spec _ x)) ?_
    refine run_op (loc_call (containsFuncSt_spec (fun x => meetW (swp (d.begun[k]?.getD default) x)) _) rfl) rfl ?_
    refine run_nil ?_
    refine run_cond rfl (fun h5 => ?_) (fun h5 => ?_)
    ·
      have hap := (apart_at hok (show k < d.begun.length by omega)).1 h5
      refine run_seq ?_
      refine run_region ?_
      refine run_op (loc_assign rfl) rfl ?_
      refine run_nil ?_
      refine run_retP Try.func41 rfl rfl ?_
      exact d_B ⟨False.elim, fun h => hap (h k (by omega))⟩
    ·
      have hap := Classical.not_not.1 fun hc => h5 ((apart_at hok (show k < d.begun.length by omega)).2 hc)
      refine run_skip ?_
      refine run_inBlock ?_
      refine run_region ?_
      first | refine run_op (loc_add rfl rfl (by first | omega | assumption)) rfl ?_ | refine run_op (loc_addW rfl rfl) rfl ?_
      refine run_op (loc_move rfl) rfl ?_
      refine run_nil ?_
      exact run_againC ih2 (k + 1) (⟨by omega, fun j hj => by by_cases e : j = k; (· subst e; exact hap); (· exact hbk j (by omega))⟩) (by omega) (.cons rfl (by first | exact fun _ _ h => h | exact d_int (by omega) | exact d_int (by simp) | exact d_intN (by omega) | exact d_any) .nil) (.cons rfl (fun _ _ x => x) (.cons rfl (fun _ _ x => x) (.cons rfl (fun _ _ x => x) (.nil))))
  ·
    refine run_exit rfl ?_
    refine run_seq ?_
    refine run_region ?_
    refine run_op (loc_assign rfl) rfl ?_
    refine run_nil ?_
    refine run_retP Try.func41 rfl rfl ?_
    exact d_B ⟨fun _ => fun i hi => hbk i (by omega), fun _ => trivial⟩

theorem rapart_spec (d : Disk) (hok : okDisk d) : SpecP Try.prog 47 [dDisk d] (dB (apartD d)) := by
  refine specP_of_body Try.func47 rfl rfl (fun I M => ?_)
  refine run_seq ?_
  refine run_region ?_
  refine run_op (loc_boxN rfl) rfl ?_
  refine run_op (loc_assign rfl) rfl ?_
  refine run_nil ?_
  refine run_seq ?_
  refine run_seq ?_
  refine run_region ?_
  refine run_op (loc_assign rfl) rfl ?_
  refine run_nil ?_
  refine run_block ?_
  refine run_loopC (σ := Nat) (ks := [1]) (.cons rfl (.nil)) (fun k => [(3, dInt .i64 (k : Nat))]) (fun k => k ≤ d.begun.length ∧ (∀ i, i < k → ∀ j, j < i → ¬ meetS (d.begun[i]?.getD default) (d.begun[j]?.getD default))) (fun k => d.begun.length - k) (0) (⟨by omega, fun j hj => by omega⟩) (.cons rfl (by first | exact fun _ _ h => h | exact d_int (by omega) | exact d_int (by simp) | exact d_intN (by omega) | exact d_any) .nil) ?_
  rintro k ⟨hk, hbk⟩ ih1
  refine run_seq ?_
  refine run_seq ?_
  refine run_region ?_
  refine run_op (loc_move rfl) rfl ?_
  refine run_op (loc_fieldAddr rfl) rfl ?_
  refine run_op (loc_load1 rfl) rfl ?_
  first | refine runL_fact (s := 9) rfl (fun _ _ h => dSl_len h) (fun hlen2 => ?_) | skip
  refine run_op (loc_len rfl) rfl ?_
  refine run_op (loc_lss rfl rfl) rfl ?_
  refine run_nil ?_
  refine run_cond rfl (fun h3 => ?_) (fun h3 => ?_)
  ·
    refine run_skip ?_
    refine run_seq ?_
    refine run_block ?_
    refine run_seq ?_
    refine run_region ?_
    refine run_op (loc_assign rfl) rfl ?_
    refine run_nil ?_
    refine run_block ?_
    refine run_loopC (σ := Nat) (ks := [1, 3]) (.cons rfl (.cons rfl (.nil))) (fun i => [(4, dInt .i64 (i : Nat))]) (fun i => i ≤ k ∧ (∀ j, j < i → ¬ meetS (d.begun[k]?.getD default) (d.begun[j]?.getD default))) (fun i => k - i) (0) (⟨by omega, fun j hj => by omega⟩) (.cons rfl (by first | exact fun _ _ h => h | exact d_int (by omega) | exact d_int (by simp) | exact d_intN (by omega) | exact d_any) .nil) ?_
    rintro i ⟨hi, hbi⟩ ih4
    refine run_seq ?_
    refine run_seq ?_
    refine run_region ?_
    refine run_op (loc_move rfl) rfl ?_
    refine run_op (loc_move rfl) rfl ?_
    refine run_op (loc_lss rfl rfl) rfl ?_
    refine run_nil ?_
    refine run_cond rfl (fun h5 => ?_) (fun h5 => ?_)
    ·
      refine run_skip ?_
      refine run_seq ?_
      refine run_block ?_
      refine run_seq ?_
      have hk1 := (okS_of hok (i := k) (by omega)).f
      have hk2 := (okS_of hok (i := k) (by omega)).n
      have hi1 := (okS_of hok (i := i) (by omega)).f
      have hi2 := (okS_of hok (i := i) (by omega)).n
      refine run_addNone ?_
      refine run_addNone ?_
      refine dr_start _ (.two (τ1 := Nat) (τ2 := Nat) 10 11 (fun _ => True) (fun _ => True)) [⟨[(1, none)], [], none⟩,
          ⟨[(19, some (0, false))], [0], none⟩,
          ⟨[(3, none)], [], none⟩,
          ⟨[(20, some (1, false)), (21, some (2, false))], [0, 1, 2], none⟩,
          ⟨[(22, some (3, false))], [0, 1, 2, 3], none⟩,
          ⟨[(1, none)], [], none⟩,
          ⟨[(24, some (5, false))], [5], none⟩,
          ⟨[(4, none)], [], none⟩,
          ⟨[(25, some (6, false)), (26, some (7, false))], [5, 6, 7], none⟩,
          ⟨[(27, some (8, false))], [5, 6, 7, 8], none⟩,
          ⟨[], [], some (1, 0, true)⟩,
          ⟨[], [], some (0, 0, true)⟩,
          ⟨[(5, some (10, false)), (23, some (4, false))], [0, 1, 2, 3, 4, 10, 11], some (1, 1, true)⟩,
          ⟨[(6, some (11, false)), (28, some (9, false))], [0, 1, 2, 3, 4, 5, 6, 7, 8, 9, 10, 11, 12], some (0, 1, true)⟩] [_, _] _ rfl rfl ?_
      refine dq_pure rfl (fun s => .g rfl (.nil)) (fun s hs _ => loc_fieldAddr rfl) (by exact .cons (.inr fun s s' h => by obtain ⟨a, b⟩ := s; obtain ⟨c, d⟩ := s'; have h : d = b := h; subst h; exact rfl) (.cons (.inr fun s s' h => by obtain ⟨a, b⟩ := s; obtain ⟨c, d⟩ := s'; have h : c = a := h; subst h; exact rfl) (.nil))) ?_
      refine dq_pure rfl (fun s => .op rfl (.nil)) (fun s hs _ => loc_load1 rfl) (by exact .cons (.inr fun s s' h => by obtain ⟨a, b⟩ := s; obtain ⟨c, d⟩ := s'; have h : d = b := h; subst h; exact rfl) (.cons (.inr fun s s' h => by obtain ⟨a, b⟩ := s; obtain ⟨c, d⟩ := s'; have h : c = a := h; subst h; exact rfl) (.nil))) ?_
      refine dq_pure rfl (fun s => .g rfl (.nil)) (fun s hs _ => loc_move rfl) (by exact .cons (.inr fun s s' h => by obtain ⟨a, b⟩ := s; obtain ⟨c, d⟩ := s'; have h : d = b := h; subst h; exact rfl) (.cons (.inr fun s s' h => by obtain ⟨a, b⟩ := s; obtain ⟨c, d⟩ := s'; have h : c = a := h; subst h; exact rfl) (.nil))) ?_
      first | refine dq_pure rfl (fun s => .op rfl (.op rfl (.nil))) (fun s hs _ => loc_index rfl rfl (by first | omega | assumption)) (by exact .cons (.inr fun s s' h => by obtain ⟨a, b⟩ := s; obtain ⟨c, d⟩ := s'; have h : d = b := h; subst h; exact rfl) (.cons (.inr fun s s' h => by obtain ⟨a, b⟩ := s; obtain ⟨c, d⟩ := s'; have h : c = a := h; subst h; exact rfl) (.nil))) ?_ | refine dq_pure rfl (fun s => .op rfl (.op rfl (.nil))) (fun s hs _ => loc_indexI rfl rfl (by first | omega | assumption)) (by exact .cons (.inr fun s s' h => by obtain ⟨a, b⟩ := s; obtain ⟨c, d⟩ := s'; have h : d = b := h; subst h; exact rfl) (.cons (.inr fun s s' h => by obtain ⟨a, b⟩ := s; obtain ⟨c, d⟩ := s'; have h : c = a := h; subst h; exact rfl) (.nil))) ?_
      refine dq_pure rfl (fun s => .op rfl (.nil)) (fun s hs _ => loc_loadN rfl rfl) (by exact .cons (.inr fun s s' h => by obtain ⟨a, b⟩ := s; obtain ⟨c, d⟩ := s'; have h : d = b := h; subst h; exact rfl) (.cons (.inr fun s s' h => by obtain ⟨a, b⟩ := s; obtain ⟨c, d⟩ := s'; have h : c = a := h; subst h; exact rfl) (.nil))) ?_
      refine dq_pure rfl (fun s => .g rfl (.nil)) (fun s hs _ => loc_fieldAddr rfl) (by exact .cons (.inr fun s s' h => by obtain ⟨a, b⟩ := s; obtain ⟨c, d⟩ := s'; have h : d = b := h; subst h; exact rfl) (.cons (.inr fun s s' h => by obtain ⟨a, b⟩ := s; obtain ⟨c, d⟩ := s'; have h : c = a := h; subst h; exact rfl) (.nil))) ?_
      refine dq_pure rfl (fun s => .op rfl (.nil)) (fun s hs _ => loc_load1 rfl) (by exact .cons (.inr fun s s' h => by obtain ⟨a, b⟩ := s; obtain ⟨c, d⟩ := s'; have h : d = b := h; subst h; exact rfl) (.cons (.inr fun s s' h => by obtain ⟨a, b⟩ := s; obtain ⟨c, d⟩ := s'; have h : c = a := h; subst h; exact rfl) (.nil))) ?_
      refine dq_pure rfl (fun s => .g rfl (.nil)) (fun s hs _ => loc_move rfl) (by exact .cons (.inr fun s s' h => by obtain ⟨a, b⟩ := s; obtain ⟨c, d⟩ := s'; have h : d = b := h; subst h; exact rfl) (.cons (.inr fun s s' h => by obtain ⟨a, b⟩ := s; obtain ⟨c, d⟩ := s'; have h : c = a := h; subst h; exact rfl) (.nil))) ?_
      first | refine dq_pure rfl (fun s => .op rfl (.op rfl (.nil))) (fun s hs _ => loc_index rfl rfl (by first | omega | assumption)) (by exact .cons (.inr fun s s' h => by obtain ⟨a, b⟩ := s; obtain ⟨c, d⟩ := s'; have h : d = b := h; subst h; exact rfl) (.cons (.inr fun s s' h => by obtain ⟨a, b⟩ := s; obtain ⟨c, d⟩ := s'; have h : c = a := h; subst h; exact rfl) (.nil))) ?_ | refine dq_pure rfl (fun s => .op rfl (.op rfl (.nil))) (fun s hs _ => loc_indexI rfl rfl (by first | omega | assumption)) (by exact .cons (.inr fun s s' h => by obtain ⟨a, b⟩ := s; obtain ⟨c, d⟩ := s'; have h : d = b := h; subst h; exact rfl) (.cons (.inr fun s s' h => by obtain ⟨a, b⟩ := s; obtain ⟨c, d⟩ := s'; have h : c = a := h; subst h; exact rfl) (.nil))) ?_
      refine dq_pure rfl (fun s => .op rfl (.nil)) (fun s hs _ => loc_loadN rfl rfl) (by exact .cons (.inr fun s s' h => by obtain ⟨a, b⟩ := s; obtain ⟨c, d⟩ := s'; have h : d = b := h; subst h; exact rfl) (.cons (.inr fun s s' h => by obtain ⟨a, b⟩ := s; obtain ⟨c, d⟩ := s'; have h : c = a := h; subst h; exact rfl) (.nil))) ?_
      refine dq_choose Prod.fst (fun s t => (t, s.2)) rfl (fun _ _ => ⟨rfl, id, rfl⟩) (fun s => .nil) rfl rfl (fun s hs => locM_new (loc_allocOwn (by simp))) (by exact .cons (.inl rfl) (.cons (.inr (.inr fun s s' h => by obtain ⟨a, b⟩ := s; obtain ⟨c, d⟩ := s'; have h : c = a := h; subst h; exact rfl)) (.nil))) ?_
      refine dq_choose Prod.snd (fun s t => (s.1, t)) rfl (fun _ _ => ⟨rfl, id, rfl⟩) (fun s => .nil) rfl rfl (fun s hs => locM_new (loc_allocOwn (by simp))) (by exact .cons (.inr (.inr fun s s' h => by obtain ⟨a, b⟩ := s; obtain ⟨c, d⟩ := s'; have h : d = b := h; subst h; exact rfl)) (.cons (.inl rfl) (.nil))) ?_
      refine dq_write0 rfl (fun s => .op rfl (.op rfl (.nil))) rfl rfl (fun s hs => loc_storeN (ho := (by show OneAll [_, _, _, _, _]; infer_instance)) rfl rfl rfl) (by exact .cons (.inl rfl) (.cons (.inl rfl) (.nil))) ?_
      refine dq_write0 rfl (fun s => .op rfl (.op rfl (.nil))) rfl rfl (fun s hs => loc_storeN (ho := (by show OneAll [_, _, _, _, _]; infer_instance)) rfl rfl rfl) (by exact .cons (.inl rfl) (.cons (.inl rfl) (.nil))) ?_
      refine dq_end (rs := [_, _]) (0, 0) rfl (fun _ => rfl) (.cons rfl (.cons rfl (.nil))) rfl (fun s9 _ => ?_)
      obtain ⟨b6, b7⟩ := s9
      dsimp only [outG, outM, List.map, List.set, id]
      refine run_freezeCells (s := 5) rfl (.there (.here)) ?_
      refine run_freezeCells (s := 6) rfl (.here) ?_
      refine run_seq ?_
      refine run_region ?_
      refine run_op (loc_fieldAddr rfl) rfl ?_
      refine run_op (loc_load1 rfl) rfl ?_
      refine run_op (loc_gtr rfl rfl) rfl ?_
      refine run_op (loc_move rfl) rfl ?_
      refine run_gfirst rfl rfl (by first | exact guard_true _ | exact guard_false _ | exact guard_if (guard_true _) | exact guard_if (guard_false _)) (fun hg => loc_fieldAddr rfl) rfl ?_
      refine run_gop rfl rfl (by first | exact guard_true _ | exact guard_false _ | exact guard_if (guard_true _) | exact guard_if (guard_false _)) (fun hg => loc_load1 rfl) rfl ?_
      refine run_gop rfl rfl (by first | exact guard_true _ | exact guard_false _ | exact guard_if (guard_true _) | exact guard_if (guard_false _)) (fun hg => loc_gtr rfl rfl) rfl ?_
      refine run_gleave ?_
      refine run_op (loc_and rfl rfl) rfl ?_
      refine run_op (loc_move rfl) rfl ?_
      refine run_gfirst rfl rfl (by first | exact guard_true _ | exact guard_false _ | exact guard_if (guard_true _) | exact guard_if (guard_false _)) (fun hg => loc_fieldAddr rfl) rfl ?_
      refine run_gop rfl rfl (by first | exact guard_true _ | exact guard_false _ | exact guard_if (guard_true _) | exact guard_if (guard_false _)) (fun hg => loc_load1 rfl) rfl ?_
      refine run_gop rfl rfl (by first | exact guard_true _ | exact guard_false _ | exact guard_if (guard_true _) | exact guard_if (guard_false _)) (fun hg => loc_fieldAddr rfl) rfl ?_
      refine run_gop rfl rfl (by first | exact guard_true _ | exact guard_false _ | exact guard_if (guard_true _) | exact guard_if (guard_false _)) (fun hg => loc_load1 rfl) rfl ?_
      refine run_gop rfl rfl (by first | exact guard_true _ | exact guard_false _ | exact guard_if (guard_true _) | exact guard_if (guard_false _)) (fun hg => loc_fieldAddr rfl) rfl ?_
      refine run_gop rfl rfl (by first | exact guard_true _ | exact guard_false _ | exact guard_if (guard_true _) | exact guard_if (guard_false _)) (fun hg => loc_load1 rfl) rfl ?_
      first | refine run_gop rfl rfl (by first | exact guard_true _ | exact guard_false _ | exact guard_if (guard_true _) | exact guard_if (guard_false _)) (fun hg => loc_add rfl rfl (by first | omega | assumption)) rfl ?_ | refine run_gop rfl rfl (by first | exact guard_true _ | exact guard_false _ | exact guard_if (guard_true _) | exact guard_if (guard_false _)) (fun hg => loc_addW rfl rfl) rfl ?_
      refine run_gop rfl rfl (by first | exact guard_true _ | exact guard_false _ | exact guard_if (guard_true _) | exact guard_if (guard_false _)) (fun hg => loc_lss rfl rfl) rfl ?_
      refine run_gleave ?_
      refine run_op (loc_and rfl rfl) rfl ?_
      refine run_op (loc_move rfl) rfl ?_
      refine run_gfirst rfl rfl (by first | exact guard_true _ | exact guard_false _ | exact guard_if (guard_true _) | exact guard_if (guard_false _)) (fun hg => loc_fieldAddr rfl) rfl ?_
      refine run_gop rfl rfl (by first | exact guard_true _ | exact guard_false _ | exact guard_if (guard_true _) | exact guard_if (guard_false _)) (fun hg => loc_load1 rfl) rfl ?_
      refine run_gop rfl rfl (by first | exact guard_true _ | exact guard_false _ | exact guard_if (guard_true _) | exact guard_if (guard_false _)) (fun hg => loc_fieldAddr rfl) rfl ?_
      refine run_gop rfl rfl (by first | exact guard_true _ | exact guard_false _ | exact guard_if (guard_true _) | exact guard_if (guard_false _)) (fun hg => loc_load1 rfl) rfl ?_
      refine run_gop rfl rfl (by first | exact guard_true _ | exact guard_false _ | exact guard_if (guard_true _) | exact guard_if (guard_false _)) (fun hg => loc_fieldAddr rfl) rfl ?_
      refine run_gop rfl rfl (by first | exact guard_true _ | exact guard_false _ | exact guard_if (guard_true _) | exact guard_if (guard_false _)) (fun hg => loc_load1 rfl) rfl ?_
      first | refine run_gop rfl rfl (by first | exact guard_true _ | exact guard_false _ | exact guard_if (guard_true _) | exact guard_if (guard_false _)) (fun hg => loc_add rfl rfl (by first | omega | assumption)) rfl ?_ | refine run_gop rfl rfl (by first | exact guard_true _ | exact guard_false _ | exact guard_if (guard_true _) | exact guard_if (guard_false _)) (fun hg => loc_addW rfl rfl) rfl ?_
      refine run_gop rfl rfl (by first | exact guard_true _ | exact guard_false _ | exact guard_if (guard_true _) | exact guard_if (guard_false _)) (fun hg => loc_lss rfl rfl) rfl ?_
      refine run_gleave ?_
      refine run_op (loc_and rfl rfl) rfl ?_
      refine run_nil ?_
      refine run_cond rfl (fun h8 => ?_) (fun h8 => ?_)
      ·
        have hm : meetS (d.begun[k]?.getD default) (d.begun[i]?.getD default) := by unfold meetS; omega
        refine run_seq ?_
        refine run_region ?_
        refine run_op (loc_assign rfl) rfl ?_
        refine run_nil ?_
        refine run_retP Try.func47 rfl rfl ?_
        exact d_B ⟨False.elim, fun h => h k (by omega) i (by omega) hm⟩
      ·
        have hm : ¬ meetS (d.begun[k]?.getD default) (d.begun[i]?.getD default) := by unfold meetS; omega
        refine run_skip ?_
        refine run_inBlock ?_
        refine run_region ?_
        refine run_op (loc_move rfl) rfl ?_
        first | refine run_op (loc_add rfl rfl (by first | omega | assumption)) rfl ?_ | refine run_op (loc_addW rfl rfl) rfl ?_
        refine run_op (loc_assign rfl) rfl ?_
        refine run_nil ?_
        exact run_againC ih4 (i + 1) (⟨by omega, fun j hj => by by_cases e : j = i; (· subst e; exact hm); (· exact hbi j (by omega))⟩) (by omega) (.cons rfl (by first | exact fun _ _ h => h | exact d_int (by omega) | exact d_int (by simp) | exact d_intN (by omega) | exact d_any) .nil) (.cons rfl (fun _ _ x => x) (.cons rfl (fun _ _ x => x) (.nil)))
    ·
      refine run_exit rfl ?_
      refine run_inBlock ?_
      refine run_region ?_
      refine run_op (loc_move rfl) rfl ?_
      first | refine run_op (loc_add rfl rfl (by first | omega | assumption)) rfl ?_ | refine run_op (loc_addW rfl rfl) rfl ?_
      refine run_op (loc_assign rfl) rfl ?_
      refine run_nil ?_
      exact run_againC ih1 (k + 1) (⟨by omega, fun j hj => by by_cases e : j = k; (· subst e; exact fun q hq => hbi q (by omega)); (· exact hbk j (by omega))⟩) (by omega) (.cons rfl (by first | exact fun _ _ h => h | exact d_int (by omega) | exact d_int (by simp) | exact d_intN (by omega) | exact d_any) .nil) (.cons rfl (fun _ _ x => x) (.nil))
  ·
    refine run_exit rfl ?_
    refine run_seq ?_
    refine run_region ?_
    refine run_op (loc_assign rfl) rfl ?_
    refine run_nil ?_
    refine run_retP Try.func47 rfl rfl ?_
    exact d_B ⟨fun _ => fun i hi => hbk i (by omega), fun _ => trivial⟩

end Go.Q
