/- Contracts of reckoning modulo a prime. -/
import Derived.Test.YtjcbhnlcbdmlfaaQLib
import Derived.Test.YtjcbhnlcbdmlfaaQBy
set_option linter.unusedVariables false
set_option linter.unusedSimpArgs false
namespace Go.Q
open Go.Proofs

open Classical
theorem has_spec (p x : Int) : SpecP Try.prog 97 [dInt .i64 p, dInt .i64 x] (dB (hasP p x)) := by
  refine specP_of_body Try.func97 rfl rfl (fun I M => ?_)
  refine run_seq ?_
  refine run_region ?_
  refine run_op (loc_assign rfl) rfl ?_
  refine run_nil ?_
  refine run_seq ?_
  refine run_region ?_
  refine run_op (loc_move rfl) rfl ?_
  refine run_op (loc_geq rfl rfl) rfl ?_
  refine run_op (loc_move rfl) rfl ?_
  refine run_gfirst rfl rfl (by first | exact guard_true _ | exact guard_false _ | exact guard_if (guard_true _) | exact guard_if (guard_false _)) (fun hg => loc_move rfl) rfl ?_
  refine run_gop rfl rfl (by first | exact guard_true _ | exact guard_false _ | exact guard_if (guard_true _) | exact guard_if (guard_false _)) (fun hg => loc_move rfl) rfl ?_
  refine run_gop rfl rfl (by first | exact guard_true _ | exact guard_false _ | exact guard_if (guard_true _) | exact guard_if (guard_false _)) (fun hg => loc_lss rfl rfl) rfl ?_
  refine run_gleave ?_
  refine run_op (loc_and rfl rfl) rfl ?_
  refine run_op (loc_assign rfl) rfl ?_
  refine run_nil ?_
  refine run_retP Try.func97 rfl rfl ?_
  exact fun _ _ h => h

theorem all1_spec (p x : Int) : SpecP Try.prog 96 [dInt .i64 x, dBox [dInt .i64 p]] (dB (¬ hasP p x)) := by
  refine specP_of_body Try.func96 rfl rfl (fun I M => ?_)
  refine run_seq ?_
  refine run_region ?_
  refine run_op (loc_assign rfl) rfl ?_
  refine run_nil ?_
  refine run_seq ?_
  refine run_region ?_
  refine run_op (loc_load1 rfl) rfl ?_
  refine run_op (loc_move rfl) rfl ?_
  refine run_op (loc_call (has_spec _ _) rfl) rfl ?_
  refine run_op (loc_not rfl) rfl ?_
  refine run_op (loc_assign rfl) rfl ?_
  refine run_nil ?_
  refine run_retP Try.func96 rfl rfl ?_
  exact fun _ _ h => h

theorem all_spec (p : Int) (xs : List Int) : SpecP Try.prog 68 [dInt .i64 p, dInts xs] (dB (∀ x ∈ xs, hasP p x)) := by
  refine specP_of_body Try.func68 rfl rfl (fun I M => ?_)
  refine run_seq ?_
  refine run_region ?_
  refine run_op (loc_box1 rfl) rfl ?_
  refine run_op (loc_assign rfl) rfl ?_
  refine run_nil ?_
  refine run_seq ?_
  refine run_region ?_
  refine run_op (loc_move rfl) rfl ?_
  refine run_op (loc_makeFunc rfl) rfl ?_
  refine runL_recast (s := 6) rfl (clo_fun (Ds := fun x : Int => [dInt .i64 x]) (d := fun x => dB (¬ hasP p x)) (fun x => all1_spec p x)) ?_
  refine run_op (loc_call (containsFuncI_spec (fun x => ¬ hasP p x) _) rfl) rfl ?_
  refine run_op (loc_not rfl) rfl ?_
  refine run_op (loc_assign rfl) rfl ?_
  refine run_nil ?_
  refine run_retP Try.func68 rfl rfl ?_
  exact d_B (by simp)

theorem of_spec (p : Int) : SpecP Try.prog 67 [dAgg [dInt .i64 p]] (dTup [dInt .i64 (ofP p), dB (okP p)]) := by
  refine specP_of_body Try.func67 rfl rfl (fun I M => ?_)
  refine run_seq ?_
  refine run_region ?_
  refine run_op (loc_boxN rfl) rfl ?_
  refine run_op (loc_assign rfl) rfl ?_
  refine run_op (loc_assign rfl) rfl ?_
  refine run_nil ?_
  refine run_seq ?_
  refine run_seq ?_
  refine run_region ?_
  refine run_op (loc_fieldAddr rfl) rfl ?_
  refine run_op (loc_load1 rfl) rfl ?_
  refine run_op (loc_lss rfl rfl) rfl ?_
  refine run_op (loc_move rfl) rfl ?_
  refine run_gfirst rfl rfl (by first | exact guard_true _ | exact guard_false _ | exact guard_if (guard_true _) | exact guard_if (guard_false _)) (fun hg => loc_fieldAddr rfl) rfl ?_
  refine run_gop rfl rfl (by first | exact guard_true _ | exact guard_false _ | exact guard_if (guard_true _) | exact guard_if (guard_false _)) (fun hg => loc_load1 rfl) rfl ?_
  refine run_gop rfl rfl (by first | exact guard_true _ | exact guard_false _ | exact guard_if (guard_true _) | exact guard_if (guard_false _)) (fun hg => loc_gtr rfl rfl) rfl ?_
  refine run_gleave ?_
  refine run_op (loc_or rfl rfl) rfl ?_
  refine run_nil ?_
  refine run_cond rfl (fun h1 => ?_) (fun h1 => ?_)
  ·
    refine run_seq ?_
    refine run_region ?_
    refine run_op (loc_assign rfl) rfl ?_
    refine run_op (loc_assign rfl) rfl ?_
    refine run_nil ?_
    refine run_ret2P Try.func67 rfl rfl rfl ?_
    exact d_tup2 (d_int (by unfold ofP; rw [if_neg (by unfold okP; omega)])) (d_B (by unfold okP; simp; omega))
  ·
    refine run_skip ?_
    refine run_seq ?_
    refine run_seq ?_
    refine run_region ?_
    refine run_op (loc_assign rfl) rfl ?_
    refine run_nil ?_
    refine run_block ?_
    refine run_loopC (σ := Int) (ks := [1]) (.cons rfl (.nil)) (fun d => [(4, dInt .i64 d)]) (fun d => 2 ≤ d ∧ d ≤ 256 ∧ ∀ e : Int, 2 ≤ e → e < d → p % e ≠ 0) (fun d => (p + 2 - d).toNat) (2) (⟨by omega, by omega, fun e h1 h2 => by omega⟩) (.cons rfl (by first | exact fun _ _ h => h | exact d_int (by omega) | exact d_int (by simp) | exact d_intN (by omega) | exact d_any) .nil) ?_
    rintro d ⟨hd1, hd2, hb⟩ ih2
    have hm := mul_bd (a := d) (b := d) (A := 256) (B := 256) (by omega) hd2 (by omega) hd2
    refine run_seq ?_
    refine run_seq ?_
    refine run_region ?_
    refine run_op (loc_move rfl) rfl ?_
    refine run_op (loc_move rfl) rfl ?_
    first | refine run_op (loc_mul rfl rfl (by first | omega | assumption)) rfl ?_ | refine run_op (loc_mulW rfl rfl) rfl ?_
    refine run_op (loc_fieldAddr rfl) rfl ?_
    refine run_op (loc_load1 rfl) rfl ?_
    refine run_op (loc_leq rfl rfl) rfl ?_
    refine run_nil ?_
    refine run_cond rfl (fun h3 => ?_) (fun h3 => ?_)
    ·
      refine run_skip ?_
      refine run_seq ?_
      refine run_block ?_
      refine run_seq ?_
      refine run_region ?_
      refine run_op (loc_fieldAddr rfl) rfl ?_
      refine run_op (loc_load1 rfl) rfl ?_
      refine run_op (loc_move rfl) rfl ?_
      first | refine run_op (loc_rem rfl rfl (by first | omega | assumption)) rfl ?_ | refine run_op (loc_remW rfl rfl (by first | omega | assumption)) rfl ?_
      refine run_op (loc_eql rfl rfl) rfl ?_
      refine run_nil ?_
      refine run_cond rfl (fun h4 => ?_) (fun h4 => ?_)
      ·
        refine run_seq ?_
        refine run_region ?_
        refine run_op (loc_assign rfl) rfl ?_
        refine run_op (loc_assign rfl) rfl ?_
        refine run_nil ?_
        refine run_ret2P Try.func67 rfl rfl rfl ?_
        exact d_tup2 (d_int (by unfold ofP; rw [if_neg (fun h => h.2.2 d hd1 (by assumption) (by assumption))])) (d_B ⟨False.elim, fun h => h.2.2 d hd1 (by assumption) (by assumption)⟩)
      ·
        refine run_skip ?_
        refine run_inBlock ?_
        refine run_region ?_
        refine run_op (loc_move rfl) rfl ?_
        first | refine run_op (loc_add rfl rfl (by first | omega | assumption)) rfl ?_ | refine run_op (loc_addW rfl rfl) rfl ?_
        refine run_op (loc_assign rfl) rfl ?_
        refine run_nil ?_
        exact run_againC ih2 (d + 1) (⟨by omega, by by_cases e : d = 256; (· subst e; omega); (· omega), fun e h1 h2 => by by_cases e2 : e = d; (· subst e2; assumption); (· exact hb e h1 (by omega))⟩) (by have := Int.mul_le_mul_of_nonneg_left hd1 (show 0 ≤ d by omega); omega) (.cons rfl (by first | exact fun _ _ h => h | exact d_int (by omega) | exact d_int (by simp) | exact d_intN (by omega) | exact d_any) .nil) (.cons rfl (fun _ _ x => x) (.nil))
    ·
      refine run_exit rfl ?_
      refine run_seq ?_
      refine run_region ?_
      refine run_op (loc_fieldAddr rfl) rfl ?_
      refine run_op (loc_load1 rfl) rfl ?_
      refine run_op (loc_assign rfl) rfl ?_
      refine run_op (loc_assign rfl) rfl ?_
      refine run_nil ?_
      refine run_ret2P Try.func67 rfl rfl rfl ?_
      have hok : okP p := ⟨by omega, by omega, fun e h1 h2 => hb e h1 (by by_cases e3 : e < d; (· exact e3); (· exfalso; have := mul_bd (a := d) (b := d) (A := e) (B := e) (by omega) (by omega) (by omega) (by omega); omega))⟩
      exact d_tup2 (d_int (by unfold ofP; rw [if_pos hok])) (d_B (by simp [hok]))

theorem rcheck3_spec (p : Int) : SpecP Try.prog 71 [dAgg [dInt .i64 p]] (dInt .i64 (errP p)) := by
  refine specP_of_body Try.func71 rfl rfl (fun I M => ?_)
  refine run_seq ?_
  refine run_region ?_
  refine run_op (loc_boxN rfl) rfl ?_
  refine run_op (loc_assign rfl) rfl ?_
  refine run_nil ?_
  refine run_seq ?_
  refine run_seq ?_
  refine run_region ?_
  refine run_op (loc_fieldAddr rfl) rfl ?_
  refine run_op (loc_load1 rfl) rfl ?_
  refine run_op (loc_lss rfl rfl) rfl ?_
  refine run_op (loc_move rfl) rfl ?_
  refine run_gfirst rfl rfl (by first | exact guard_true _ | exact guard_false _ | exact guard_if (guard_true _) | exact guard_if (guard_false _)) (fun hg => loc_fieldAddr rfl) rfl ?_
  refine run_gop rfl rfl (by first | exact guard_true _ | exact guard_false _ | exact guard_if (guard_true _) | exact guard_if (guard_false _)) (fun hg => loc_load1 rfl) rfl ?_
  refine run_gop rfl rfl (by first | exact guard_true _ | exact guard_false _ | exact guard_if (guard_true _) | exact guard_if (guard_false _)) (fun hg => loc_gtr rfl rfl) rfl ?_
  refine run_gleave ?_
  refine run_op (loc_or rfl rfl) rfl ?_
  refine run_nil ?_
  refine run_cond rfl (fun h1 => ?_) (fun h1 => ?_)
  ·
    refine run_seq ?_
    refine run_region ?_
    refine run_op (loc_assign rfl) rfl ?_
    refine run_nil ?_
    refine run_retP Try.func71 rfl rfl ?_
    exact d_int (by unfold errP; rw [if_neg (by unfold okP; omega)])
  ·
    refine run_skip ?_
    refine run_seq ?_
    refine run_seq ?_
    refine run_region ?_
    refine run_op (loc_assign rfl) rfl ?_
    refine run_nil ?_
    refine run_block ?_
    refine run_loopC (σ := Int) (ks := [1]) (.cons rfl (.nil)) (fun d => [(3, dInt .i64 d)]) (fun d => 2 ≤ d ∧ d ≤ 256 ∧ ∀ e : Int, 2 ≤ e → e < d → p % e ≠ 0) (fun d => (p + 2 - d).toNat) (2) (⟨by omega, by omega, fun e h1 h2 => by omega⟩) (.cons rfl (by first | exact fun _ _ h => h | exact d_int (by omega) | exact d_int (by simp) | exact d_intN (by omega) | exact d_any) .nil) ?_
    rintro d ⟨hd1, hd2, hb⟩ ih2
    have hm := mul_bd (a := d) (b := d) (A := 256) (B := 256) (by omega) hd2 (by omega) hd2
    refine run_seq ?_
    refine run_seq ?_
    refine run_region ?_
    refine run_op (loc_move rfl) rfl ?_
    refine run_op (loc_move rfl) rfl ?_
    first | refine run_op (loc_mul rfl rfl (by first | omega | assumption)) rfl ?_ | refine run_op (loc_mulW rfl rfl) rfl ?_
    refine run_op (loc_fieldAddr rfl) rfl ?_
    refine run_op (loc_load1 rfl) rfl ?_
    refine run_op (loc_leq rfl rfl) rfl ?_
    refine run_nil ?_
    refine run_cond rfl (fun h3 => ?_) (fun h3 => ?_)
    ·
      refine run_skip ?_
      refine run_seq ?_
      refine run_block ?_
      refine run_seq ?_
      refine run_region ?_
      refine run_op (loc_fieldAddr rfl) rfl ?_
      refine run_op (loc_load1 rfl) rfl ?_
      refine run_op (loc_move rfl) rfl ?_
      first | refine run_op (loc_rem rfl rfl (by first | omega | assumption)) rfl ?_ | refine run_op (loc_remW rfl rfl (by first | omega | assumption)) rfl ?_
      refine run_op (loc_eql rfl rfl) rfl ?_
      refine run_nil ?_
      refine run_cond rfl (fun h4 => ?_) (fun h4 => ?_)
      ·
        refine run_seq ?_
        refine run_region ?_
        refine run_op (loc_assign rfl) rfl ?_
        refine run_nil ?_
        refine run_retP Try.func71 rfl rfl ?_
        exact d_int (by unfold errP; rw [if_neg (fun h => h.2.2 d hd1 (by assumption) (by assumption))])
      ·
        refine run_skip ?_
        refine run_inBlock ?_
        refine run_region ?_
        refine run_op (loc_move rfl) rfl ?_
        first | refine run_op (loc_add rfl rfl (by first | omega | assumption)) rfl ?_ | refine run_op (loc_addW rfl rfl) rfl ?_
        refine run_op (loc_assign rfl) rfl ?_
        refine run_nil ?_
        exact run_againC ih2 (d + 1) (⟨by omega, by by_cases e : d = 256; (· subst e; omega); (· omega), fun e h1 h2 => by by_cases e2 : e = d; (· subst e2; assumption); (· exact hb e h1 (by omega))⟩) (by have := Int.mul_le_mul_of_nonneg_left hd1 (show 0 ≤ d by omega); omega) (.cons rfl (by first | exact fun _ _ h => h | exact d_int (by omega) | exact d_int (by simp) | exact d_intN (by omega) | exact d_any) .nil) (.cons rfl (fun _ _ x => x) (.nil))
    ·
      refine run_exit rfl ?_
      refine run_seq ?_
      refine run_region ?_
      refine run_op (loc_assign rfl) rfl ?_
      refine run_nil ?_
      refine run_retP Try.func71 rfl rfl ?_
      have hok : okP p := ⟨by omega, by omega, fun e h1 h2 => hb e h1 (by by_cases e3 : e < d; (· exact e3); (· exfalso; have := mul_bd (a := d) (b := d) (A := e) (B := e) (by omega) (by omega) (by omega) (by omega); omega))⟩
      exact d_int (by unfold errP; rw [if_pos hok])

theorem errP_zero {p : Int} : errP p = 0 ↔ okP p := by unfold errP; split <;> simp [*]
theorem fcheck_spec (p : Int) : SpecP Try.prog 60 [dAgg [dInt .i64 p]] (dInt .i64 (errP p)) := by
  refine specP_of_body Try.func60 rfl rfl (fun I M => ?_)
  refine run_seq ?_
  refine run_region ?_
  refine run_op (loc_boxN rfl) rfl ?_
  refine run_op (loc_assign rfl) rfl ?_
  refine run_nil ?_
  refine run_seq ?_
  refine run_seq ?_
  refine run_region ?_
  refine run_op (loc_loadN rfl rfl) rfl ?_
  refine run_op (loc_call (of_spec _) rfl) rfl ?_
  refine run_op (loc_move rfl) rfl ?_
  refine run_op (loc_extract rfl rfl) rfl ?_
  refine run_op (loc_extract rfl rfl) rfl ?_
  refine run_op (loc_assign rfl) rfl ?_
  refine run_op (loc_assign rfl) rfl ?_
  refine run_nil ?_
  refine run_seq ?_
  refine run_region ?_
  refine run_op (loc_move rfl) rfl ?_
  refine run_op (loc_not rfl) rfl ?_
  refine run_nil ?_
  refine run_cond rfl (fun h1 => ?_) (fun h1 => ?_)
  ·
    refine run_seq ?_
    refine run_region ?_
    refine run_op (loc_assign rfl) rfl ?_
    refine run_nil ?_
    refine run_retP Try.func60 rfl rfl ?_
    exact d_int (by unfold errP; rw [if_neg (by assumption)])
  ·
    refine run_skip ?_
    refine run_seq ?_
    refine run_region ?_
    refine run_op (loc_assign rfl) rfl ?_
    refine run_nil ?_
    refine run_retP Try.func60 rfl rfl ?_
    exact d_int (by unfold errP; rw [if_pos (Classical.not_not.1 (by assumption))])

theorem fadd_spec (p a b : Int) (h : 2 ≤ p ∧ p ≤ 65521) (ha : 0 ≤ a ∧ a ≤ 65521) (hb : 0 ≤ b ∧ b ≤ 65521) : SpecP Try.prog 103 [dInt .i64 p, dInt .i64 a, dInt .i64 b] (dInt .i64 ((a + b) % p)) := by
  refine specP_of_body Try.func103 rfl rfl (fun I M => ?_)
  refine run_seq ?_
  refine run_region ?_
  refine run_op (loc_assign rfl) rfl ?_
  refine run_nil ?_
  refine run_seq ?_
  refine run_region ?_
  refine run_op (loc_move rfl) rfl ?_
  refine run_op (loc_move rfl) rfl ?_
  first | refine run_op (loc_add rfl rfl (by first | omega | assumption)) rfl ?_ | refine run_op (loc_addW rfl rfl) rfl ?_
  refine run_op (loc_move rfl) rfl ?_
  first | refine run_op (loc_rem rfl rfl (by first | omega | assumption)) rfl ?_ | refine run_op (loc_remW rfl rfl (by first | omega | assumption)) rfl ?_
  refine run_op (loc_assign rfl) rfl ?_
  refine run_nil ?_
  refine run_retP Try.func103 rfl rfl ?_
  exact fun _ _ h => h

theorem fmul_spec (p a b : Int) (h : 2 ≤ p ∧ p ≤ 65521) (ha : 0 ≤ a ∧ a ≤ 65521) (hb : 0 ≤ b ∧ b ≤ 65521) : SpecP Try.prog 104 [dInt .i64 p, dInt .i64 a, dInt .i64 b] (dInt .i64 (a * b % p)) := by
  have hm := mul_bd ha.1 ha.2 hb.1 hb.2
  refine specP_of_body Try.func104 rfl rfl (fun I M => ?_)
  refine run_seq ?_
  refine run_region ?_
  refine run_op (loc_assign rfl) rfl ?_
  refine run_nil ?_
  refine run_seq ?_
  refine run_region ?_
  refine run_op (loc_move rfl) rfl ?_
  refine run_op (loc_move rfl) rfl ?_
  first | refine run_op (loc_mul rfl rfl (by first | omega | assumption)) rfl ?_ | refine run_op (loc_mulW rfl rfl) rfl ?_
  refine run_op (loc_move rfl) rfl ?_
  first | refine run_op (loc_rem rfl rfl (by first | omega | assumption)) rfl ?_ | refine run_op (loc_remW rfl rfl (by first | omega | assumption)) rfl ?_
  refine run_op (loc_assign rfl) rfl ?_
  refine run_nil ?_
  refine run_retP Try.func104 rfl rfl ?_
  exact fun _ _ h => h

theorem power_spec (p a : Int) (n : Nat) (h : 2 ≤ p ∧ p ≤ 65521) (ha : 0 ≤ a ∧ a ≤ 65521) (hn : n ≤ 65521) : SpecP Try.prog 93 [dInt .i64 p, dInt .i64 a, dInt .i64 (n : Nat)] (dInt .i64 (powM p a n)) := by
  refine specP_of_body Try.func93 rfl rfl (fun I M => ?_)
  refine run_seq ?_
  refine run_region ?_
  refine run_op (loc_assign rfl) rfl ?_
  refine run_nil ?_
  refine run_seq ?_
  refine run_region ?_
  refine run_op (loc_assign rfl) rfl ?_
  refine run_nil ?_
  refine run_seq ?_
  refine run_block ?_
  refine run_loopC (σ := Int × Int × Nat) (ks := [0]) (.cons rfl (.nil)) (fun s => [(1, dInt .i64 s.2.1), (2, dInt .i64 (s.2.2 : Nat)), (7, dInt .i64 s.1)]) (fun s => (0 ≤ s.1 ∧ s.1 < p) ∧ (0 ≤ s.2.1 ∧ s.2.1 ≤ 65521) ∧ s.2.2 ≤ 65521 ∧ s.1 * s.2.1 ^ s.2.2 % p = powM p a n) (fun s => s.2.2) ((1, a, n)) (⟨⟨by omega, by simp only; omega⟩, ha, hn, by rw [Int.one_mul]; rfl⟩) (.cons rfl (by first | exact fun _ _ h => h | exact d_int (by omega) | exact d_int (by simp) | exact d_intN (by omega) | exact d_any) (.cons rfl (by first | exact fun _ _ h => h | exact d_int (by omega) | exact d_int (by simp) | exact d_intN (by omega) | exact d_any) (.cons rfl (by first | exact fun _ _ h => h | exact d_int (by omega) | exact d_int (by simp) | exact d_intN (by omega) | exact d_any) .nil))) ?_
  rintro s ⟨hx, hb, hm, he⟩ ih1
  have hbb := mod_bd (s.2.1 * s.2.1) (show 0 < p by omega)
  have hxb := mod_bd (s.1 * s.2.1) (show 0 < p by omega)
  refine run_seq ?_
  refine run_seq ?_
  refine run_region ?_
  refine run_op (loc_move rfl) rfl ?_
  refine run_op (loc_gtr rfl rfl) rfl ?_
  refine run_nil ?_
  refine run_cond rfl (fun h2 => ?_) (fun h2 => ?_)
  ·
    refine run_skip ?_
    refine run_seq ?_
    refine run_block ?_
    refine run_seq ?_
    refine run_seq ?_
    refine run_region ?_
    refine run_op (loc_move rfl) rfl ?_
    refine run_op (loc_and1 rfl rfl (by first | omega | assumption)) rfl ?_
    refine run_op (loc_eql rfl rfl) rfl ?_
    refine run_nil ?_
    refine run_joinC (σ := Int) (ks := [0, 1, 2]) (.cons rfl (.cons rfl (.cons rfl (.nil)))) (fun y => [(7, dInt .i64 y)]) (fun y => (0 ≤ y ∧ y < p) ∧ y * (s.2.1 * s.2.1 % p) ^ (s.2.2 / 2) % p = powM p a n) (fun j3 => ?_) ?_
    ·
      refine run_cond rfl (fun h4 => ?_) (fun h4 => ?_)
      ·
        refine run_region ?_
        refine run_op (loc_move rfl) rfl ?_
        refine run_op (loc_move rfl) rfl ?_
        refine run_op (loc_move rfl) rfl ?_
        refine run_op (loc_call (fmul_spec _ _ _ h (by omega) (by omega)) rfl) rfl ?_
        refine run_op (loc_assign rfl) rfl ?_
        refine run_nil ?_
        exact run_atC j3 (s.1 * s.2.1 % p) (⟨hxb, by rw [pow_step1 p s.1 s.2.1 s.2.2 (by omega), he]⟩) (.cons rfl (by first | exact fun _ _ h => h | exact d_int (by omega) | exact d_int (by simp) | exact d_intN (by omega) | exact d_any) .nil) (.cons rfl (fun _ _ x => x) (.cons rfl (fun _ _ x => x) (.cons rfl (fun _ _ x => x) (.nil))))
      ·
        refine run_skip ?_
        exact run_atC j3 (s.1) (⟨hx, by rw [pow_step0 p s.1 s.2.1 s.2.2 (by omega), he]⟩) (.cons rfl (by first | exact fun _ _ h => h | exact d_int (by omega) | exact d_int (by simp) | exact d_intN (by omega) | exact d_any) .nil) (.cons rfl (fun _ _ x => x) (.cons rfl (fun _ _ x => x) (.cons rfl (fun _ _ x => x) (.nil))))
    rintro y ⟨hy, hye⟩
    refine run_region ?_
    refine run_op (loc_move rfl) rfl ?_
    refine run_op (loc_move rfl) rfl ?_
    refine run_op (loc_move rfl) rfl ?_
    refine run_op (loc_call (fmul_spec _ _ _ h (by omega) (by omega)) rfl) rfl ?_
    refine run_op (loc_assign rfl) rfl ?_
    refine run_nil ?_
    refine run_inBlock ?_
    refine run_region ?_
    refine run_op (loc_move rfl) rfl ?_
    refine run_op (loc_shrN (c := 1) (q := 2) rfl rfl rfl (by decide) (by first | omega | assumption) (by decide)) rfl ?_
    refine run_op (loc_assign rfl) rfl ?_
    refine run_nil ?_
    exact run_againC ih1 ((y, s.2.1 * s.2.1 % p, s.2.2 / 2)) (⟨hy, by simp only; omega, by simp only; omega, hye⟩) (by simp only; omega) (.cons rfl (by first | exact fun _ _ h => h | exact d_int (by omega) | exact d_int (by simp) | exact d_intN (by omega) | exact d_any) (.cons rfl (by first | exact fun _ _ h => h | exact d_int (by omega) | exact d_int (by simp) | exact d_intN (by omega) | exact d_any) (.cons rfl (by first | exact fun _ _ h => h | exact d_int (by omega) | exact d_int (by simp) | exact d_intN (by omega) | exact d_any) .nil))) (.cons rfl (fun _ _ x => x) (.nil))
  ·
    refine run_exit rfl ?_
    refine run_seq ?_
    refine run_region ?_
    refine run_op (loc_move rfl) rfl ?_
    refine run_op (loc_assign rfl) rfl ?_
    refine run_nil ?_
    refine run_retP Try.func93 rfl rfl ?_
    exact d_int (by rw [← he, show s.2.2 = 0 by omega, Int.pow_zero, Int.mul_one, Int.emod_eq_of_lt hx.1 hx.2])

theorem addTimes_spec (p x : Int) (v : Value) (to l : List Int) (h : 2 ≤ p ∧ p ≤ 65521) (hx : 0 ≤ x ∧ x ≤ 65521) (ht : ∀ t ∈ to, hasP p t) (hl : ∀ t ∈ l, hasP p t) (hlen : l.length ≤ to.length) : Spec Try.prog 92 [dInt .i64 p, dVal v, dInt .i64 x, dInts l] [rRow v 3 1 fI to] (σ := Unit) (fun _ => True) (fun _ => dTop) (fun _ => [rRow v 3 1 fI (addT p x to l)]) := by
  refine spec_of_body Try.func92 rfl rfl (fun I F => ?_)
  refine run_seq ?_
  refine run_region ?_
  refine run_op (loc_move rfl) rfl ?_
  first | refine runL_fact (s := 10) rfl (fun _ _ h => dSl_len h) (fun hlen1 => ?_) | skip
  refine run_op (loc_len rfl) rfl ?_
  refine run_op (loc_move rfl) rfl ?_
  refine run_nil ?_
  refine run_block ?_
  have hnil : addT p x to [] = to := addT_nil p x to
  refine run_weaken (M' := rRow v 3 1 fI (addT p x to (l.take 0)) :: F) (fun _ _ _ hs hi => ⟨hs, by rw [List.take_zero, hnil]; exact hi⟩) ?_
  refine run_loopF (σ := Nat) (ks := [0, 1, 2, 10, 11]) (.cons rfl (.cons rfl (.cons rfl (.cons rfl (.cons rfl (.nil)))))) (fun k => [(12, dInt .i64 (k : Nat))]) (fun k => [rRow v 3 1 fI (addT p x to (l.take k))]) (fun k => k ≤ l.length) (fun k => l.length - k) (0) (Nat.zero_le _) (.cons rfl (by first | exact fun _ _ h => h | exact d_int (by omega) | exact d_int (by simp) | exact d_intN (by omega) | exact d_any) .nil) (rfl) ?_
  intro k hk ih2
  have hal := addT_len p x to (l.take k)
  refine run_seq ?_
  refine run_region ?_
  refine run_op (loc_lss rfl rfl) rfl ?_
  refine run_nil ?_
  refine run_seq ?_
  refine run_cond rfl (fun h3 => ?_) (fun h3 => ?_)
  ·
    refine run_skip ?_
    refine run_seq ?_
    refine run_block ?_
    refine run_seq ?_
    refine run_region ?_
    refine run_op (loc_move rfl) rfl ?_
    first | refine run_op (loc_index rfl rfl (by first | omega | assumption)) rfl ?_ | refine run_op (loc_indexI rfl rfl (by first | omega | assumption)) rfl ?_
    refine run_op (loc_load1 rfl) rfl ?_
    refine run_op (loc_assign rfl) rfl ?_
    refine run_op (loc_assign rfl) rfl ?_
    refine run_nil ?_
    have h1 := ht (to[k]?.getD default) (getD_mem (by omega))
    have h2 := hl (l[k]?.getD default) (getD_mem (by omega))
    unfold hasP at h1 h2
    have h3 := mod_bd (x * (l[k]?.getD default)) (show 0 < p by omega)
    have h4 := addT_get p x to (l.take k) k (by rw [List.length_take]; omega)
    refine run_rowForm .here (by omega) (fun b cap hv => ?_)
    subst hv
    refine dr_start _ (.none) [⟨[(1, none)], [], none⟩,
        ⟨[(8, none)], [], none⟩,
        ⟨[(0, none)], [], none⟩,
        ⟨[(1, none)], [], none⟩,
        ⟨[(8, none)], [], none⟩,
        ⟨[(20, some (3, false)), (21, some (4, false))], [3, 4], none⟩,
        ⟨[(22, some (5, false))], [3, 4, 5], some (0, 0, false)⟩,
        ⟨[(0, none)], [], none⟩,
        ⟨[(2, none)], [], none⟩,
        ⟨[(9, none)], [], none⟩,
        ⟨[(24, some (7, false)), (25, some (8, false)), (26, some (9, false))], [7, 8, 9], none⟩,
        ⟨[(19, some (2, false)), (23, some (6, false)), (27, some (10, false))], [2, 3, 4, 5, 6, 7, 8, 9, 10], none⟩,
        ⟨[(17, some (0, false)), (18, some (1, false))], [0, 1, 2, 3, 4, 5, 6, 7, 8, 9, 10, 11], none⟩,
        ⟨[(29, some (12, false)), (28, some (11, false))], [0, 1, 2, 3, 4, 5, 6, 7, 8, 9, 10, 11, 12], some (0, 0, true)⟩] [_] _ rfl rfl ?_
    refine dq_pure rfl (fun s => .g rfl (.nil)) (fun s hs _ => loc_move rfl) (by exact .nil) ?_
    refine dq_pure rfl (fun s => .g rfl (.nil)) (fun s hs _ => loc_move rfl) (by exact .nil) ?_
    refine dq_pure rfl (fun s => .g rfl (.nil)) (fun s hs _ => loc_move rfl) (by exact .nil) ?_
    refine dq_pure rfl (fun s => .g rfl (.nil)) (fun s hs _ => loc_move rfl) (by exact .nil) ?_
    refine dq_pure rfl (fun s => .g rfl (.nil)) (fun s hs _ => loc_move rfl) (by exact .nil) ?_
    first | refine dq_pure rfl (fun s => .op rfl (.op rfl (.nil))) (fun s hs _ => loc_indexRow rfl rfl (by first | omega | assumption)) (by exact .nil) ?_ | refine dq_pure rfl (fun s => .op rfl (.op rfl (.nil))) (fun s hs _ => loc_indexRowI rfl rfl (by first | omega | assumption)) (by exact .nil) ?_
    refine dq_read rfl (fun s => .op rfl (.nil)) rfl rfl (fun s hs _ hm => loc_loadRow1 rfl hm (by first | omega | assumption)) (by exact .nil) ?_
    refine dq_pure rfl (fun s => .g rfl (.nil)) (fun s hs _ => loc_move rfl) (by exact .nil) ?_
    refine dq_pure rfl (fun s => .g rfl (.nil)) (fun s hs _ => loc_move rfl) (by exact .nil) ?_
    refine dq_pure rfl (fun s => .g rfl (.nil)) (fun s hs _ => loc_move rfl) (by exact .nil) ?_
    refine dq_pure rfl (fun s => .op rfl (.op rfl (.op rfl (.nil)))) (fun s hs _ => loc_call (fmul_spec _ _ _ h (by omega) (by omega)) rfl) (by exact .nil) ?_
    refine dq_pure rfl (fun s => .op rfl (.op rfl (.op rfl (.nil)))) (fun s hs _ => loc_call (fadd_spec _ _ _ h (by omega) (by omega)) rfl) (by exact .nil) ?_
    first | refine dq_pure rfl (fun s => .op rfl (.op rfl (.nil))) (fun s hs _ => loc_indexRow rfl rfl (by first | omega | assumption)) (by exact .nil) ?_ | refine dq_pure rfl (fun s => .op rfl (.op rfl (.nil))) (fun s hs _ => loc_indexRowI rfl rfl (by first | omega | assumption)) (by exact .nil) ?_
    refine dq_write0 rfl (fun s => .op rfl (.op rfl (.nil))) rfl rfl (fun s hs => loc_storeRow1 _ rfl rfl rfl (by first | omega | assumption)) (by exact .nil) ?_
    refine dq_end (rs := [_]) () rfl (fun _ => rfl) (.nil) rfl (fun _ _ => ?_)
    dsimp only [outG, outM, List.map, List.set, id]
    refine run_inBlock ?_
    refine run_region ?_
    first | refine run_op (loc_add rfl rfl (by first | omega | assumption)) rfl ?_ | refine run_op (loc_addW rfl rfl) rfl ?_
    refine run_op (loc_move rfl) rfl ?_
    refine run_nil ?_
    exact run_againF ih2 (k + 1) (by omega) (by omega) (.cons rfl (by first | exact fun _ _ h => h | exact d_int (by omega) | exact d_int (by simp) | exact d_intN (by omega) | exact d_any) .nil) (.cons rfl (fun _ _ x => x) (.cons rfl (fun _ _ x => x) (.cons rfl (fun _ _ x => x) (.cons rfl (fun _ _ x => x) (.cons rfl (fun _ _ x => x) (.nil)))))) (by simp only [appR]; rw [addT_take p x to l k (by omega) (by omega)]; congr 4; omega)
  ·
    refine run_exit rfl ?_
    refine run_ret0End (()) Try.func92 rfl  ?_ (trivial) (fun _ _ h => by rw [List.take_of_length_le (by omega)] at h; exact h)
    exact fun _ _ _ => trivial

end Go.Q

namespace Go.Q
open Go.Proofs

open Classical
theorem take_snoc2 {xs : List Int} {k : Nat} (h : k < xs.length) : xs.take (k + 1) = xs.take k ++ [xs[k]?.getD default] := by
  rw [List.take_add_one, List.getElem?_eq_getElem h]; rfl
end Go.Q

namespace Go.Q
open Classical

abbrev cSh (q : Int × Int) : List D := [dInt .i64 q.1, dInt .i64 q.2]
def sharesL (p : Int) (cs pts : List Int) : List (Int × Int) := pts.map fun x => (x, valP p cs x)
def ptsL (k : Nat) : List Int := (List.range k).map fun x : Nat => (x : Int) + 1
theorem ptsL_len (k : Nat) : (ptsL k).length = k := by simp [ptsL]
theorem ptsL_snoc (k : Nat) : ptsL (k + 1) = ptsL k ++ [(k : Int) + 1] := by simp [ptsL, List.range_succ]
theorem ptsL_mem {k : Nat} {x : Int} (h : x ∈ ptsL k) : 1 ≤ x ∧ x ≤ k := by
  obtain ⟨j, hj, rfl⟩ := List.mem_map.1 h
  have := List.mem_range.1 hj
  omega
theorem ofP_pos {p : Int} (h : okP p) : ofP p = p := if_pos h
theorem ofP_neg {p : Int} (h : ¬ okP p) : ofP p = 0 := if_neg h
theorem ofP_and {p x : Int} (h : ¬ (¬ okP p ∨ ¬ hasP (ofP p) x)) : okP p ∧ hasP p x := by
  by_cases hp : okP p
  · rw [ofP_pos hp] at h; exact ⟨hp, Classical.not_not.1 fun hx => h (.inr hx)⟩
  · exact absurd (.inl hp) h
theorem ofP_or {p x : Int} (h : ¬ okP p ∨ ¬ hasP (ofP p) x) : ¬ okP p ∨ ¬ hasP p x := by
  by_cases hp : okP p
  · rw [ofP_pos hp] at h; exact h
  · exact .inl hp
theorem ofP_nor {p x : Int} (h : ¬ (¬ okP p ∨ ¬ hasP (ofP p) x)) : ¬ (¬ okP p ∨ ¬ hasP p x) := by
  have := ofP_and h
  rintro (h1 | h1)
  · exact h1 this.1
  · exact h1 this.2
noncomputable def splitE (p secret most count : Int) (t : Tape) : Int := if ¬ okP p ∨ ¬ hasP p secret then 9 else if ¬ (0 ≤ most ∧ most ≤ 9) ∨ count < 1 ∨ count ≥ p ∨ count > 512 then 1 else drawE t p most
noncomputable def splitL (p secret most count : Int) (t : Tape) : List (Int × Int) := if splitE p secret most count t = 0 then sharesL p ([secret] ++ drawL t p most) (ptsL count.toNat) else []
noncomputable def splitT (p secret most count : Int) (t : Tape) : Tape := if splitE p secret most count t = 0 then drawT t p most else ⟨[], 0⟩
theorem d_toShares {d : D} {t t' : List (Int × Int)} (e : t = t') (h : ∀ I v, d.rel I v → (dSl 2 cSh t').rel I v) : ∀ I v, d.rel I v → (dSl 2 cSh t).rel I v := e ▸ h

/-! ### Queries on polynomials -/

noncomputable def planE (p s d : Int) : Int := if ¬ okP p then 9 else if ¬ ((2 ≤ s ∧ s ≤ 10) ∧ 1 ≤ d ∧ d < s) ∨ s ≥ p then 1 else 0
noncomputable def planRE (p s d rows : Int) : Int := if planE p s d = 0 ∧ (rows < 1 ∨ rows > 1024) then 1 else planE p s d
theorem planRE_zero {p s d rows : Int} (h : planRE p s d rows = 0) : okP p ∧ (2 ≤ s ∧ s ≤ 10) ∧ (1 ≤ d ∧ d < s) ∧ s < p ∧ (1 ≤ rows ∧ rows ≤ 1024) := by
  unfold planRE at h
  split at h
  · cases h
  · rename_i h1
    have h2 := h
    unfold planE at h
    split at h
    · cases h
    · split at h
      · cases h
      · rename_i h3 h4
        have h5 : ¬ (rows < 1 ∨ rows > 1024) := fun hr => h1 ⟨h2, hr⟩
        exact ⟨Classical.not_not.1 h3, by omega, by omega, by omega, by omega⟩
theorem planRE_ok {p s d rows : Int} (hp : okP p) (h1 : 2 ≤ s ∧ s ≤ 10) (h2 : 1 ≤ d ∧ d < s) (h3 : s < p) (h4 : 1 ≤ rows ∧ rows ≤ 1024) : planRE p s d rows = 0 := by
  have e : planE p s d = 0 := by unfold planE; rw [if_neg (Classical.not_not.2 hp), if_neg (by omega)]
  unfold planRE
  rw [if_neg (by omega), e]
noncomputable def limsC (p s d rows : Int) : List Int := if planRE p s d rows = 0 then List.replicate (rows * d).toNat p else []
theorem rep_snoc {α : Type} (n : Nat) (x : α) : List.replicate (n + 1) x = List.replicate n x ++ [x] := List.replicate_succ'

/-- The element of a query: of the row r, for the server k + 1. -/
noncomputable def cV (p d index : Int) (dr : List Int) (k r : Nat) : Int := valP p ([if (r : Int) = index then 1 else 0] ++ ((dr.take (((r : Int) + 1) * d).toNat).drop ((r : Int) * d).toNat)) ((k : Int) + 1)
noncomputable def cqE (p s d rows index : Int) (t : Tape) : Int := if planRE p s d rows ≠ 0 then planRE p s d rows else if index < 0 ∨ index ≥ rows then 6 else drawE t p (rows * d)
noncomputable def cqQ (p s d rows index : Int) (dr : List Int) : List (List Int) := (List.range s.toNat).map fun k => (List.range rows.toNat).map fun r => cV p d index dr k r
noncomputable def cqL (p s d rows index : Int) (t : Tape) : List (List Int) := if cqE p s d rows index t = 0 then cqQ p s d rows index (drawL t p (rows * d)) else []
noncomputable def cqT (p s d rows index : Int) (t : Tape) : Tape := if cqE p s d rows index t = 0 then drawT t p (rows * d) else ⟨[], 0⟩
/-- The lists in the making: those before k have a row more. -/
noncomputable def cqP (p d index : Int) (dr : List Int) (s : Nat) (k i : Nat) : List (List Int) := (List.range s).map fun j => (List.range (if j < k then i + 1 else i)).map fun r => cV p d index dr j r
theorem cqP_0 (p d index : Int) (dr : List Int) (s : Nat) : cqP p d index dr s 0 0 = List.replicate s [] := by
  unfold cqP
  apply List.ext_getElem (by simp)
  intro i h1 h2
  simp
theorem cqP_next (p d index : Int) (dr : List Int) (s i : Nat) : cqP p d index dr s s i = cqP p d index dr s 0 (i + 1) := by
  unfold cqP
  apply List.ext_getElem (by simp)
  intro j h1 h2
  have : j < s := by simpa using h1
  simp [this]
theorem cqP_get {p d index : Int} {dr : List Int} {s k i : Nat} (h : k < s) : (cqP p d index dr s k i)[k]?.getD default = (List.range i).map fun r => cV p d index dr k r := by
  unfold cqP
  simp [h]
theorem cqP_set {p d index : Int} {dr : List Int} {s k i : Nat} (h : k < s) : (cqP p d index dr s k i).set k ((List.range i).map (fun r => cV p d index dr k r) ++ [cV p d index dr k i]) = cqP p d index dr s (k + 1) i := by
  unfold cqP
  apply List.ext_getElem (by simp)
  intro j h1 h2
  rw [List.getElem_set]
  split
  · rename_i e; subst e; simp [List.range_succ]
  · rename_i e
    have : (j < k + 1) ↔ (j < k) := by omega
    simp [this]
theorem cqP_end (p d index rows : Int) (dr : List Int) (s : Int) : cqP p d index dr s.toNat 0 rows.toNat = cqQ p s d rows index dr := by
  unfold cqP cqQ
  simp

theorem split_ok {p sec most count : Int} {l : List Int} (hp : okP p) (hs : hasP p sec) (hm : 0 ≤ most ∧ most ≤ 9) (hc : 1 ≤ count ∧ count < p ∧ count ≤ 512) (hl : l.length = most.toNat) (ha : ∀ x ∈ l, hasP p x) :
    splitE p sec most count ⟨l, 0⟩ = 0 ∧ splitL p sec most count ⟨l, 0⟩ = sharesL p ([sec] ++ l) (ptsL count.toNat) := by
  have hb := hp.1
  have hb2 := hp.2.1
  have e0 : drawE ⟨l, 0⟩ p most = 0 := by
    unfold drawE
    rw [if_neg (Classical.not_not.2 ⟨by simp only; omega, by simp, by simp⟩), if_neg (by omega)]
    refine stepE_ok (by simp; omega) (fun j hj => ?_)
    simp only [Int.toNat_zero, List.drop_zero]
    exact ha _ (getD_mem (by omega))
  have e : splitE p sec most count ⟨l, 0⟩ = 0 := by
    unfold splitE
    rw [if_neg (fun h => h.elim (fun h => h hp) (fun h => h hs)), if_neg (by omega), e0]
  refine ⟨e, ?_⟩
  unfold splitL
  rw [if_pos e]
  congr 2
  unfold drawL
  rw [if_pos e0]
  simp only [Int.toNat_zero, List.drop_zero]
  exact List.take_of_length_le (by omega)
theorem shares_get {p : Int} {cs : List Int} {n k : Nat} (h : k < n) : (sharesL p cs (ptsL n))[k]?.getD default = ((k : Int) + 1, valP p cs ((k : Int) + 1)) := by
  unfold sharesL ptsL
  simp [h]
theorem shares_len (p : Int) (cs : List Int) (n : Nat) : (sharesL p cs (ptsL n)).length = n := by simp [sharesL, ptsL]
theorem sl_all {p : Int} {l : List Int} {i j : Nat} (h : ∀ x ∈ l, hasP p x) : ∀ x ∈ (l.take j).drop i, hasP p x := fun x hx => h x (List.mem_of_mem_take (List.mem_of_mem_drop hx))

end Go.Q

namespace Go.Q
open Go.Proofs

open Classical
end Go.Q

namespace Go.Q
variable {P : Program} {f : FuncId} {N : Nat} {I0 : Imm} {R : Goal} {g : G} {k : List Item} {F : List Res}

/-- The rows of a row of own rows. -/
def fam {α : Type} (T n : Nat) (c : α → List D) (hs : List (Value × List α)) : List Res := hs.map fun p => rRow p.1 T n c p.2

theorem fam_perm {α : Type} {T n : Nat} {c : α → List D} {hs : List (Value × List α)} {i : Nat} {p : Value × List α} (h : hs[i]? = some p) : (fam T n c hs ++ F).Perm (rRow p.1 T n c p.2 :: (fam T n c (hs.eraseIdx i) ++ F)) := by
  obtain ⟨hi, rfl⟩ := List.getElem?_eq_some_iff.1 h
  have h1 : hs.Perm (hs[i] :: hs.eraseIdx i) := by
    rw [List.eraseIdx_eq_take_drop_succ]
    conv => lhs; rw [← List.take_append_drop i hs, List.drop_eq_getElem_cons hi]
    exact List.perm_middle
  have h2 := h1.map fun p => rRow p.1 T n c p.2
  exact h2.append_right F
theorem fam_back {α : Type} {T n : Nat} {c : α → List D} {hs : List (Value × List α)} {i : Nat} {p : Value × List α} (hi : i < hs.length) : (rRow p.1 T n c p.2 :: (fam T n c (hs.eraseIdx i) ++ F)).Perm (fam T n c (hs.set i p) ++ F) := by
  have h1 : (hs.set i p)[i]? = some p := List.getElem?_set_self hi
  have h2 := fam_perm (T := T) (n := n) (c := c) (F := F) h1
  rw [List.eraseIdx_set_eq] at h2
  exact h2.symm

/-- Rows that are nil cost nothing. -/
theorem fam_nils {α : Type} {T n : Nat} {c : α → List D} (A : List Res) (m : Nat) {I : Imm} {w : World} (h : Inv I (A ++ F) w) : Inv I (A ++ (fam T n c (List.replicate m (.slice none 0 0, [])) ++ F)) w := by
  induction m with
  | zero => exact h
  | succ m ih =>
    have h1 : Inv I (rRow (.slice none 0 0) T n c [] :: (A ++ (fam T n c (List.replicate m (.slice none 0 0, [])) ++ F))) w := nil_ok ih
    exact h1.perm (List.perm_middle.symm)
theorem fam_out {α : Type} {T n : Nat} {c : α → List D} {hs : List (Value × List α)} (A : List Res) (i : Nat) {p : Value × List α} (h : hs[i]? = some p) {I : Imm} {w : World} (hi : Inv I (A ++ (fam T n c hs ++ F)) w) : Inv I (rRow p.1 T n c p.2 :: (A ++ (fam T n c (hs.eraseIdx i) ++ F))) w :=
  hi.perm (((fam_perm h).append_left A).trans List.perm_middle)
theorem fam_in {α : Type} {T n : Nat} {c : α → List D} {hs : List (Value × List α)} (A : List Res) (i : Nat) {p : Value × List α} (h : i < hs.length) {I : Imm} {w : World} (hi : Inv I (rRow p.1 T n c p.2 :: (A ++ (fam T n c (hs.eraseIdx i) ++ F))) w) : Inv I (A ++ (fam T n c (hs.set i p) ++ F)) w :=
  hi.perm ((List.perm_middle.symm).trans ((fam_back h).append_left A))

/-- What is owned, told otherwise. -/
theorem run_inv {M M' : List Res} (hw : ∀ I w, Inv I M w → Inv I M' w) (h : Run P f N I0 R g M' k) : Run P f N I0 R g M k :=
  run_weaken (fun I _ w hs hi => ⟨hs, hw I w hi⟩) h
theorem runL_inv {M M' : List Res} {ops : Array Oper} {l : List Oper} (hw : ∀ I w, Inv I M w → Inv I M' w) (h : RunL P f N I0 R g M' ops l k) : RunL P f N I0 R g M ops l k :=
  ⟨fun I a w b cs hb hk hl hs hi => h.go I a w b cs hb hk hl hs (hw I w hi)⟩

/-- The handle of a row, told by name. -/
theorem run_rowV {M : List Res} {s : Nat} {C : Res → List Res} {F' : List Res} {α : Type} {T n : Nat} {f' : α → List D} {xs : List α} {v : Value} (hs : look g s = some (dVal v)) (hm : Sel (rRow v T n f' xs) M C F')
    (h : Run P f N I0 R ((s, dSlV v) :: g) M k) : Run P f N I0 R g M k := by
  constructor
  intro I a w b cs hb hk hl hsl hi
  refine h.go I a w b cs hb hk hl (slots_cast hsl I.le_refl hs (fun u hu => ⟨hu, ?_⟩)) hi
  rw [show u = v from hu]
  rcases row_cases (hi.perm hm.perm.1) with ⟨e, _⟩ | ⟨b, cap, cs, e, _⟩
  · exact ⟨_, _, _, e⟩
  · exact ⟨_, _, _, e⟩

theorem spec_freezeS {Ds : List D} {T n : Nat} {α : Type} {f' : α → List D} {xs : List α} {Min Mo : List Res} (h : Spec P f Ds Min (fun _ : Value => True) (fun v => dVal v) (fun v => rRow v T n f' xs :: Mo)) : Spec P f Ds Min (fun _ : Unit => True) (fun _ => dSl n f' xs) (fun _ => Mo) := by
  intro I M w vs hv hi
  refine (h I M w vs hv hi).mono ?_
  rintro e w' ⟨v, rfl, s, _, J, h1, h2, h3⟩
  obtain ⟨J', h4, h5, h6⟩ := row_freeze h3
  have hvs : v = s := h2
  subst hvs
  exact ⟨v, rfl, (), trivial, J', h1.trans h4, h5, h6⟩
theorem spec_freeze3 {Ds : List D} {T n : Nat} {α : Type} {f' : α → List D} {xs : List α} {d2 d3 : D} (h : Spec P f Ds [] (fun _ : Value => True) (fun v => dTup [dVal v, d2, d3]) (fun v => [rRow v T n f' xs])) : SpecP P f Ds (dTup [dSl n f' xs, d2, d3]) := by
  intro I M w vs hv hi
  refine (h I M w vs hv hi).mono ?_
  rintro e w' ⟨v, rfl, s, _, J, h1, ⟨cs, rfl, h2⟩, h3⟩
  obtain ⟨J', h4, h5, h6⟩ := row_freeze h3
  refine ⟨_, rfl, J', h1.trans h4, ⟨cs, rfl, ?_⟩, h6⟩
  match hc : cs.toList, h2 with
  | [v, v2, v3], ⟨e1, e2, e3, _⟩ =>
    have hvs : v = s := e1
    subst hvs
    exact ⟨h5, D.mono _ h4 e2, D.mono _ h4 e3, trivial⟩

/-- A row of handles that are nil. -/
theorem row_nilV {v : Value} {T m : Nat} {F : List Res} {I : Imm} {w : World} (h : Inv I (rRow v T 1 (fun u => [dVal u]) (List.replicate m (.slice none 0 0)) :: F) w) : Inv I (rRow v T 1 (fun u => [dSlV u]) (List.replicate m (.slice none 0 0)) :: F) w := by
  have hup : ∀ (J : Imm) (m : Nat) (cs : List Value), relL ((List.replicate m (Value.slice none 0 0)).flatMap fun u => [dVal u]) J cs → relL ((List.replicate m (Value.slice none 0 0)).flatMap fun u => [dSlV u]) J cs := by
    intro J m
    induction m with
    | zero => intro cs h; exact h
    | succ m ih =>
      intro cs h
      cases cs with
      | nil => exact h.elim
      | cons c cs => exact ⟨⟨h.1, _, _, _, h.1⟩, ih cs h.2⟩
  have hi := h
  refine ⟨h.os, h.tape, h.output, h.imm, fun r hr => ?_, h.apart⟩
  rcases List.mem_cons.1 hr with rfl | hr
  · rcases row_cases h with ⟨e, e2⟩ | ⟨b, cap, cs, e, h2, h3, h4, h5, h6, h7, h8⟩
    · subst e
      rw [e2]
      exact (nil_ok (inv_tail h)).own _ (List.mem_cons_self ..)
    · have h1 := h.own _ (List.mem_cons_self ..)
      subst e
      obtain ⟨g1, o, g2, g3⟩ := h1
      rw [h2] at g2
      injection g2 with g2
      subst g2
      exact ⟨g1, _, h2, b, cap, cs, rfl, rfl, h3, h4, h5, h6, fun x _ => rfl, hup _ _ _ h8⟩
  · exact h.own r (List.mem_cons_of_mem _ hr)

/-- A row of rows that the call owns, with all of its rows, becomes immutable; further results stay. -/
theorem spec_freezeRows3 {Ds : List D} {T T' : Nat} {xs : List (List Int)} {d2 d3 : D}
    (h : Spec P f Ds [] (fun s : Value × List (Value × List Int) => s.2.map (·.2) = xs) (fun s => dTup [dVal s.1, d2, d3]) (fun s => rRow s.1 T 1 (fun u => [dSlV u]) (s.2.map (·.1)) :: fam T' 1 (fun x => [dInt .i64 x]) s.2)) : SpecP P f Ds (dTup [dRows xs, d2, d3]) := by
  intro I M w vs hv hi
  refine (h I M w vs hv hi).mono ?_
  rintro e w' ⟨v, rfl, s, hs, J, h1, ⟨cs, rfl, h2⟩, h3⟩
  obtain ⟨J', h4, h5, h6⟩ := row_freeze h3
  obtain ⟨K, h7, h8, h9⟩ := rows_freeze s.2 h6
  refine ⟨_, rfl, K, (h1.trans h4).trans h7, ⟨cs, rfl, ?_⟩, h9⟩
  match hc : cs.toList, h2 with
  | [v, v2, v3], ⟨e1, e2, e3, _⟩ =>
    have hvs : v = s.1 := e1
    subst hvs
    refine ⟨?_, D.mono _ (h4.trans h7) e2, D.mono _ (h4.trans h7) e3, trivial⟩
    refine sl_up (by rw [← hs]; simp) (fun i x y hx hy => ⟨rfl, fun cs hr => ?_⟩) (D.mono _ h7 h5)
    rw [← hs] at hy
    rw [List.getElem?_map] at hx hy
    match hp : s.2[i]?, cs, hr with
    | some p, [u], hr =>
      rw [hp] at hx hy
      simp only [Option.map_some, Option.some.injEq] at hx hy
      subst hx; subst hy
      have := h8 p (List.mem_of_getElem? hp)
      rw [← show u = p.1 from hr.1.1] at this
      exact ⟨this, trivial⟩
    | none, _, _ => rw [hp] at hx; cases hx
end Go.Q

namespace Go.Q
open Go.Proofs

open Classical
end Go.Q

namespace Go.Q
open Classical

/-! ### Draws one after the other -/

theorem drawE_sum {t : Tape} {n a b : Int} (ha : 0 ≤ a) (hb : 0 ≤ b) (h : drawE t n a = 0) : drawE t n (a + b) = drawE (drawT t n a) n b := by
  obtain ⟨h1, h2, _, h4, _⟩ := drawE_zero h
  obtain ⟨e1, e2⟩ := drawT_ok h
  have h0 := h
  unfold drawE at h
  rw [if_neg (Classical.not_not.2 h1), if_neg (by omega)] at h
  have h11 := h1.2.1
  unfold drawE
  rw [if_neg (Classical.not_not.2 h1), if_neg (by omega), if_neg (Classical.not_not.2 e2), if_neg (by omega), e1]
  simp only
  rw [show (a + b).toNat = a.toNat + b.toNat by omega, stepE_add h, List.drop_drop, show t.at'.toNat + a.toNat = (t.at' + a).toNat by omega]
theorem drawE_stop {t : Tape} {n a b : Int} (ha : 0 ≤ a) (hb : 0 ≤ b) (h : drawE t n a ≠ 0) : drawE t n (a + b) = drawE t n a := by
  unfold drawE at h ⊢
  by_cases h1 : okTape t
  · rw [if_neg (Classical.not_not.2 h1)] at h ⊢
    rw [if_neg (Classical.not_not.2 h1)]
    by_cases h2 : 1 ≤ n ∧ n ≤ 2147483647
    · rw [if_neg (by omega)] at h ⊢
      rw [if_neg (by omega)]
      rw [show (a + b).toNat = a.toNat + b.toNat by omega]
      exact stepE_more h
    · rw [if_pos (.inl h2), if_pos (.inl h2)]
  · rw [if_pos h1, if_pos h1]
theorem drawE_none {t : Tape} {n : Int} (h : okTape t) (hn : 1 ≤ n ∧ n ≤ 2147483647) : drawE t n 0 = 0 := by
  unfold drawE
  rw [if_neg (Classical.not_not.2 h), if_neg (by omega)]
  exact stepE_0 _ _

/-! ### Queries that add up -/

noncomputable def parE (p rows s : Int) : Int := if ¬ okP p then 9 else if s < 2 ∨ s > 10 ∨ rows < 1 ∨ rows > 1024 then 1 else 0
theorem parE_zero {p rows s : Int} (h : parE p rows s = 0) : okP p ∧ (2 ≤ s ∧ s ≤ 10) ∧ (1 ≤ rows ∧ rows ≤ 1024) := by
  unfold parE at h
  split at h
  · cases h
  · split at h
    · cases h
    · rename_i h1 h2
      exact ⟨Classical.not_not.1 h1, by omega, by omega⟩
theorem parE_ok {p rows s : Int} (hp : okP p) (h1 : 2 ≤ s ∧ s ≤ 10) (h2 : 1 ≤ rows ∧ rows ≤ 1024) : parE p rows s = 0 := by
  unfold parE
  rw [if_neg (Classical.not_not.2 hp), if_neg (by omega)]
noncomputable def limsP (p rows s : Int) : List Int := if parE p rows s = 0 then List.replicate (rows * (s - 1)).toNat p else []
def unitL (n k : Nat) : List Int := (List.replicate n 0).set k 1
theorem unitL_len (n k : Nat) : (unitL n k).length = n := by simp [unitL]
theorem unitL_has {p : Int} (hp : 2 ≤ p) {n k : Nat} : ∀ x ∈ unitL n k, hasP p x := by
  intro x hx
  unfold unitL at hx
  rcases List.mem_or_eq_of_mem_set hx with h | rfl
  · rw [List.eq_of_mem_replicate h]; unfold hasP; omega
  · unfold hasP; omega
noncomputable def unitE (p n k : Int) : Int := if ¬ okP p then 9 else if n < 0 ∨ n > 1024 then 4 else if k < 0 ∨ k ≥ n then 1 else 0
/-- The sum of lists of n elements. -/
def sumL (p : Int) (n : Nat) (ls : List (List Int)) : List Int := ls.foldl (fun a l => addT p 1 a l) (List.replicate n 0)
theorem sumL_ok {p : Int} (hp : 2 ≤ p) {n : Nat} : ∀ {ls : List (List Int)} {a : List Int}, a.length = n → (∀ x ∈ a, hasP p x) → (ls.foldl (fun a l => addT p 1 a l) a).length = n ∧ ∀ x ∈ ls.foldl (fun a l => addT p 1 a l) a, hasP p x
  | [], a, h1, h2 => ⟨h1, h2⟩
  | l :: ls, a, h1, h2 => sumL_ok hp (ls := ls) (a := addT p 1 a l) (by rw [addT_len]; exact h1) (addT_has (by omega) h2)
theorem rep0_has {p : Int} (hp : 2 ≤ p) (n : Nat) : ∀ x ∈ List.replicate n (0 : Int), hasP p x := fun x hx => by rw [List.eq_of_mem_replicate hx]; unfold hasP; omega

def pBase (t : Tape) : List Int := t.numbers.drop t.at'.toNat
def pQs (b : List Int) (rows k : Nat) : List (List Int) := (List.range k).map fun j => (b.drop (j * rows)).take rows
theorem pQs_len (b : List Int) (rows k : Nat) : (pQs b rows k).length = k := by simp [pQs]
theorem pQs_snoc (b : List Int) (rows k : Nat) : pQs b rows (k + 1) = pQs b rows k ++ [(b.drop (k * rows)).take rows] := by simp [pQs, List.range_succ]
noncomputable def pLast (p index rows : Int) (ls : List (List Int)) : List Int := addT p (p - 1) (unitL rows.toNat index.toNat) (sumL p rows.toNat ls)
noncomputable def pqE (p rows s index : Int) (t : Tape) : Int := if parE p rows s ≠ 0 then parE p rows s else if index < 0 ∨ index ≥ rows then 6 else drawE t p (rows * (s - 1))
noncomputable def pqL (p rows s index : Int) (t : Tape) : List (List Int) := if pqE p rows s index t = 0 then pQs (pBase t) rows.toNat (s - 1).toNat ++ [pLast p index rows (pQs (pBase t) rows.toNat (s - 1).toNat)] else []
noncomputable def pqT (p rows s index : Int) (t : Tape) : Tape := if pqE p rows s index t = 0 then drawT t p (rows * (s - 1)) else ⟨[], 0⟩
/-- What is drawn for the server k. -/
theorem pDraw {t : Tape} {p rows : Int} {k : Nat} (hr : 1 ≤ rows) (hk : drawE t p (rows * k) = 0) (he : drawE (drawT t p (rows * k)) p rows = 0) : drawL (drawT t p (rows * k)) p rows = ((pBase t).drop (k * rows.toNat)).take rows.toNat ∧ drawT (drawT t p (rows * k)) p rows = drawT t p (rows * ((k : Int) + 1)) ∧ drawE t p (rows * ((k : Int) + 1)) = 0 := by
  obtain ⟨h1, h2, h3, h4, _⟩ := drawE_zero hk
  obtain ⟨e1, e2⟩ := drawT_ok hk
  have h11 := h1.2.1
  have hmul : rows * ((k : Int) + 1) = rows * k + rows := by rw [Int.mul_add, Int.mul_one]
  have hd : drawE t p (rows * ((k : Int) + 1)) = 0 := by rw [hmul, drawE_sum h3 (by omega) hk]; exact he
  refine ⟨?_, ?_, hd⟩
  · unfold drawL
    rw [if_pos he, e1]
    unfold pBase
    simp only
    rw [List.drop_drop]
    congr 2
    have : (rows * (k : Int)).toNat = k * rows.toNat := by
      have e : rows * (k : Int) = ((k * rows.toNat : Nat) : Int) := by rw [Int.natCast_mul, Int.mul_comm, show ((rows.toNat : Nat) : Int) = rows by omega]
      rw [e]; rfl
    omega
  · rw [(drawT_ok he).1, (drawT_ok hd).1, e1, hmul]
    simp only [Int.add_assoc]
theorem pQs_all {t : Tape} {p rows : Int} {k : Nat} (hr : 1 ≤ rows) (hk : drawE t p (rows * k) = 0) : ∀ l ∈ pQs (pBase t) rows.toNat k, l.length = rows.toNat ∧ ∀ x ∈ l, hasP p x := by
  intro l hl
  obtain ⟨j, hj, rfl⟩ := List.mem_map.1 hl
  have hj := List.mem_range.1 hj
  obtain ⟨h1, h2, h3, h4, h5, h6⟩ := drawE_zero hk
  have h11 := h1.2.1
  have e : (rows * (k : Int)).toNat = k * rows.toNat := by
    have e : rows * (k : Int) = ((k * rows.toNat : Nat) : Int) := by rw [Int.natCast_mul, Int.mul_comm, show ((rows.toNat : Nat) : Int) = rows by omega]
    rw [e]; rfl
  unfold drawL at h5 h6
  rw [if_pos hk, e] at h5 h6
  change ((pBase t).take (k * rows.toNat)).length = _ at h5
  change ∀ x ∈ (pBase t).take (k * rows.toNat), _ at h6
  rw [List.length_take] at h5
  have hle : (j + 1) * rows.toNat ≤ k * rows.toNat := Nat.mul_le_mul_right _ (by omega)
  rw [Nat.add_mul, Nat.one_mul] at hle
  refine ⟨?_, fun x hx => h6 x ?_⟩
  · simp only [List.length_take, List.length_drop]; omega
  · obtain ⟨i, hi⟩ := List.getElem?_of_mem hx
    rw [List.getElem?_take] at hi
    split at hi
    · rename_i hlt
      rw [List.getElem?_drop] at hi
      refine List.mem_of_getElem? (i := j * rows.toNat + i) ?_
      rw [List.getElem?_take, if_pos (by omega)]
      exact hi
    · cases hi

noncomputable def tpK (t : Tape) (p rows : Int) (k : Nat) : Tape := if k = 0 then t else drawT t p (rows * k)
theorem tpK_E {t : Tape} {p rows : Int} {k : Nat} (hr : 1 ≤ rows) (hk : k = 0 ∨ drawE t p (rows * k) = 0) : drawE (tpK t p rows k) p rows = drawE t p (rows * ((k : Int) + 1)) := by
  unfold tpK
  split
  · rename_i h; subst h; simp
  · rename_i h
    rcases hk with hk | hk
    · exact absurd hk h
    · have := (drawE_zero hk).2.2.1
      rw [Int.mul_add, Int.mul_one, drawE_sum this (by omega) hk]
theorem tpK_ok {t : Tape} {p rows : Int} {k : Nat} (hr : 1 ≤ rows) (hk : k = 0 ∨ drawE t p (rows * k) = 0) (he : drawE (tpK t p rows k) p rows = 0) : drawL (tpK t p rows k) p rows = ((pBase t).drop (k * rows.toNat)).take rows.toNat ∧ drawT (tpK t p rows k) p rows = tpK t p rows (k + 1) ∧ drawE t p (rows * ((k + 1 : Nat) : Int)) = 0 := by
  have e := tpK_E hr hk
  rw [he] at e
  have e2 : drawE t p (rows * ((k + 1 : Nat) : Int)) = 0 := e.symm
  unfold tpK at he ⊢
  rw [if_neg (show ¬ k + 1 = 0 by omega)]
  split at he
  · rename_i h
    subst h
    rw [if_pos rfl]
    refine ⟨?_, ?_, e2⟩
    · unfold drawL; rw [if_pos he]; simp [pBase]
    · simp
  · rename_i h
    rcases hk with hk | hk
    · exact absurd hk h
    · obtain ⟨h1, h2, _⟩ := pDraw hr hk he
      rw [if_neg h]
      exact ⟨h1, h2, e2⟩

/-! ### Coded storage -/

noncomputable def codE (p s d g : Int) : Int := if ¬ okP p then 9 else if s < 2 ∨ s > 10 ∨ s ≥ p ∨ d < 1 ∨ g < 1 ∨ d > s ∨ g > s ∨ 2 * g + d - 1 > s then 1 else 0
noncomputable def codRE (p s d g n : Int) : Int := if codE p s d g = 0 ∧ (n < 1 ∨ n > 1024) then 1 else codE p s d g
theorem codE_zero {p s d g : Int} (h : codE p s d g = 0) : okP p ∧ (2 ≤ s ∧ s ≤ 10) ∧ s < p ∧ (1 ≤ d ∧ d ≤ s) ∧ (1 ≤ g ∧ g ≤ s) ∧ 2 * g + d - 1 ≤ s := by
  unfold codE at h
  split at h
  · cases h
  · split at h
    · cases h
    · rename_i h1 h2
      exact ⟨Classical.not_not.1 h1, by omega, by omega, by omega, by omega, by omega⟩
theorem codE_ok {p s d g : Int} (hp : okP p) (h1 : 2 ≤ s ∧ s ≤ 10) (h2 : s < p) (h3 : 1 ≤ d ∧ d ≤ s) (h4 : 1 ≤ g ∧ g ≤ s) (h5 : 2 * g + d - 1 ≤ s) : codE p s d g = 0 := by
  unfold codE
  rw [if_neg (Classical.not_not.2 hp), if_neg (by omega)]
theorem codRE_zero {p s d g n : Int} (h : codRE p s d g n = 0) : codE p s d g = 0 ∧ (1 ≤ n ∧ n ≤ 1024) := by
  unfold codRE at h
  split at h
  · cases h
  · rename_i h1
    have h5 : ¬ (n < 1 ∨ n > 1024) := fun hr => h1 ⟨h, hr⟩
    exact ⟨h, by omega⟩
theorem codRE_ok {p s d g n : Int} (h : codE p s d g = 0) (hn : 1 ≤ n ∧ n ≤ 1024) : codRE p s d g n = 0 := by
  unfold codRE
  rw [if_neg (by omega), h]
noncomputable def limsG (p s d g n : Int) : List Int := if codRE p s d g n = 0 then List.replicate (n * d).toNat p else []
/-- The element of a query: of the group r, for the server j. -/
noncomputable def gW (p d g : Int) (dr : List Int) (j : Int) (r : Nat) : Int := powM p j g.toNat * valP p ((dr.take (((r : Int) + 1) * d).toNat).drop ((r : Int) * d).toNat) j % p
noncomputable def gV (p d g group : Int) (dr : List Int) (j : Int) (r : Nat) : Int := if (r : Int) = group then (gW p d g dr j r + 1) % p else gW p d g dr j r
noncomputable def gqE (p s d g n group : Int) (t : Tape) : Int := if codRE p s d g n ≠ 0 then codRE p s d g n else if group < 0 ∨ group ≥ n then 6 else drawE t p (n * d)
noncomputable def gRow (p d g group : Int) (dr : List Int) (j : Int) (n : Nat) : List Int := (List.range n).map fun r => gV p d g group dr j r
noncomputable def gQs (p d g group : Int) (dr : List Int) (n k : Nat) : List (List Int) := (List.range k).map fun j : Nat => gRow p d g group dr ((j : Int) + 1) n
theorem gRow_snoc (p d g group : Int) (dr : List Int) (j : Int) (n : Nat) : gRow p d g group dr j (n + 1) = gRow p d g group dr j n ++ [gV p d g group dr j n] := by simp [gRow, List.range_succ]
theorem gQs_snoc (p d g group : Int) (dr : List Int) (n k : Nat) : gQs p d g group dr n (k + 1) = gQs p d g group dr n k ++ [gRow p d g group dr ((k : Int) + 1) n] := by simp [gQs, List.range_succ]
noncomputable def gqL (p s d g n group : Int) (t : Tape) : List (List Int) := if gqE p s d g n group t = 0 then gQs p d g group (drawL t p (n * d)) n.toNat s.toNat else []
noncomputable def gqT (p s d g n group : Int) (t : Tape) : Tape := if gqE p s d g n group t = 0 then drawT t p (n * d) else ⟨[], 0⟩
theorem rowErr_ok {p w : Int} {r : List Int} (h : rowErr p w r = 0) : (r.length : Int) = w ∧ ∀ x ∈ r, hasP p x := by
  unfold rowErr at h
  split at h
  · cases h
  · rename_i h1
    split at h
    · cases h
    · rename_i h2
      exact ⟨by omega, Classical.not_not.1 h2⟩
/-! ### What is held -/

def grpN (n g : Nat) : Nat := (n + g - 1) / g
def grpL (rows : List (List Int)) (g : Nat) : List (Nat × List (List Int)) := (List.range (grpN rows.length g)).map fun i => (i, (rows.take (min ((i + 1) * g) rows.length)).drop (i * g))
theorem grpN_lt {n g i : Nat} (hg : 1 ≤ g) : i < grpN n g ↔ i * g < n := by
  unfold grpN
  rw [Nat.lt_div_iff_mul_lt hg]
  omega
theorem grpL_len (rows : List (List Int)) (g : Nat) : (grpL rows g).length = grpN rows.length g := by simp [grpL]
theorem grpL_get {rows : List (List Int)} {g i : Nat} (hg : 1 ≤ g) (h : i * g < rows.length) : (grpL rows g)[i]? = some (i, (rows.take (min ((i + 1) * g) rows.length)).drop (i * g)) := by
  have := (grpN_lt (n := rows.length) (i := i) hg).2 h
  simp [grpL, this]
theorem grpL_mem {rows : List (List Int)} {g : Nat} {q : Nat × List (List Int)} (h : q ∈ grpL rows g) : (∀ r ∈ q.2, r ∈ rows) ∧ q.2.length ≤ g := by
  obtain ⟨i, _, rfl⟩ := List.mem_map.1 h
  refine ⟨fun r hr => List.mem_of_mem_take (List.mem_of_mem_drop hr), ?_⟩
  simp only [List.length_drop, List.length_take, Nat.add_mul]
  omega
/-- The rows of a group, each times a power, added up. -/
noncomputable def heldN (p j : Int) (w : Nat) (grp : List (List Int)) (n : Nat) : List Int := (List.range n).foldl (fun a i => addT p (powM p j i) a (grp[i]?.getD default)) (List.replicate w 0)
noncomputable def heldG (p j : Int) (w : Nat) (grp : List (List Int)) : List Int := heldN p j w grp grp.length
theorem heldN_0 (p j : Int) (w : Nat) (grp : List (List Int)) : heldN p j w grp 0 = List.replicate w 0 := rfl
theorem heldN_snoc (p j : Int) (w : Nat) (grp : List (List Int)) (n : Nat) : heldN p j w grp (n + 1) = addT p (powM p j n) (heldN p j w grp n) (grp[n]?.getD default) := by simp [heldN, List.range_succ]
theorem heldN_ok {p : Int} (hp : 2 ≤ p) (j : Int) (w : Nat) (grp : List (List Int)) : ∀ n, (heldN p j w grp n).length = w ∧ ∀ x ∈ heldN p j w grp n, hasP p x
  | 0 => ⟨by simp [heldN], rep0_has hp w⟩
  | n + 1 => by
    obtain ⟨h1, h2⟩ := heldN_ok hp j w grp n
    rw [heldN_snoc]
    exact ⟨by rw [addT_len]; exact h1, addT_has (by omega) h2⟩
noncomputable def holdE (p s d g w : Int) (rows : List (List Int)) (j : Int) : Int := if codE p s d g ≠ 0 then codE p s d g else if j < 1 ∨ j > s then 1 else if ¬ (0 ≤ w ∧ w ≤ 64) ∨ 1024 < rows.length then 4 else firstErr (rowErr p w) rows
noncomputable def holdG (p s d g w : Int) (rows : List (List Int)) (j : Int) : List (List Int) := if holdE p s d g w rows j = 0 then (grpL rows g.toNat).map fun q => heldG p j w.toNat q.2 else []

end Go.Q

namespace Go.Q
open Go.Proofs

open Classical
end Go.Q

namespace Go.Q
open Go.Proofs

open Classical
theorem wide_spec (n : Int) : SpecP Try.prog 90 [dInt .i64 n] (dB (0 ≤ n ∧ n ≤ 64)) := by
  refine specP_of_body Try.func90 rfl rfl (fun I M => ?_)
  refine run_seq ?_
  refine run_region ?_
  refine run_op (loc_assign rfl) rfl ?_
  refine run_nil ?_
  refine run_seq ?_
  refine run_region ?_
  refine run_op (loc_move rfl) rfl ?_
  refine run_op (loc_geq rfl rfl) rfl ?_
  refine run_op (loc_move rfl) rfl ?_
  refine run_gfirst rfl rfl (by first | exact guard_true _ | exact guard_false _ | exact guard_if (guard_true _) | exact guard_if (guard_false _)) (fun hg => loc_move rfl) rfl ?_
  refine run_gop rfl rfl (by first | exact guard_true _ | exact guard_false _ | exact guard_if (guard_true _) | exact guard_if (guard_false _)) (fun hg => loc_leq rfl rfl) rfl ?_
  refine run_gleave ?_
  refine run_op (loc_and rfl rfl) rfl ?_
  refine run_op (loc_assign rfl) rfl ?_
  refine run_nil ?_
  refine run_retP Try.func90 rfl rfl ?_
  exact fun _ _ h => h

theorem gcheck_spec (p s d g : Int) : SpecP Try.prog 89 [dAgg [dInt .i64 p], dAgg [dInt .i64 s, dInt .i64 d, dInt .i64 g]] (dInt .i64 (codE p s d g)) := by
  refine specP_of_body Try.func89 rfl rfl (fun I M => ?_)
  refine run_seq ?_
  refine run_region ?_
  refine run_op (loc_boxN rfl) rfl ?_
  refine run_op (loc_boxN rfl) rfl ?_
  refine run_op (loc_assign rfl) rfl ?_
  refine run_nil ?_
  refine run_seq ?_
  refine run_seq ?_
  refine run_region ?_
  refine run_op (loc_loadN rfl rfl) rfl ?_
  refine run_op (loc_call (of_spec _) rfl) rfl ?_
  refine run_op (loc_move rfl) rfl ?_
  refine run_op (loc_extract rfl rfl) rfl ?_
  refine run_op (loc_extract rfl rfl) rfl ?_
  refine run_op (loc_assign rfl) rfl ?_
  refine run_op (loc_assign rfl) rfl ?_
  refine run_nil ?_
  refine run_seq ?_
  refine run_region ?_
  refine run_op (loc_move rfl) rfl ?_
  refine run_op (loc_not rfl) rfl ?_
  refine run_nil ?_
  refine run_cond rfl (fun h1 => ?_) (fun h1 => ?_)
  ·
    have c1 := h1
    refine run_seq ?_
    refine run_region ?_
    refine run_op (loc_assign rfl) rfl ?_
    refine run_nil ?_
    refine run_retP Try.func89 rfl rfl ?_
    exact d_int (by unfold codE; rw [if_pos c1])
  ·
    have c1 := h1
    refine run_skip ?_
    refine run_seq ?_
    refine run_seq ?_
    refine run_region ?_
    refine run_op (loc_fieldAddr rfl) rfl ?_
    refine run_op (loc_load1 rfl) rfl ?_
    refine run_op (loc_lss rfl rfl) rfl ?_
    refine run_op (loc_move rfl) rfl ?_
    refine run_gfirst rfl rfl (by first | exact guard_true _ | exact guard_false _ | exact guard_if (guard_true _) | exact guard_if (guard_false _)) (fun hg => loc_fieldAddr rfl) rfl ?_
    refine run_gop rfl rfl (by first | exact guard_true _ | exact guard_false _ | exact guard_if (guard_true _) | exact guard_if (guard_false _)) (fun hg => loc_load1 rfl) rfl ?_
    refine run_gop rfl rfl (by first | exact guard_true _ | exact guard_false _ | exact guard_if (guard_true _) | exact guard_if (guard_false _)) (fun hg => loc_gtr rfl rfl) rfl ?_
    refine run_gleave ?_
    refine run_op (loc_or rfl rfl) rfl ?_
    refine run_op (loc_move rfl) rfl ?_
    refine run_gfirst rfl rfl (by first | exact guard_true _ | exact guard_false _ | exact guard_if (guard_true _) | exact guard_if (guard_false _)) (fun hg => loc_fieldAddr rfl) rfl ?_
    refine run_gop rfl rfl (by first | exact guard_true _ | exact guard_false _ | exact guard_if (guard_true _) | exact guard_if (guard_false _)) (fun hg => loc_load1 rfl) rfl ?_
    refine run_gop rfl rfl (by first | exact guard_true _ | exact guard_false _ | exact guard_if (guard_true _) | exact guard_if (guard_false _)) (fun hg => loc_fieldAddr rfl) rfl ?_
    refine run_gop rfl rfl (by first | exact guard_true _ | exact guard_false _ | exact guard_if (guard_true _) | exact guard_if (guard_false _)) (fun hg => loc_load1 rfl) rfl ?_
    refine run_gop rfl rfl (by first | exact guard_true _ | exact guard_false _ | exact guard_if (guard_true _) | exact guard_if (guard_false _)) (fun hg => loc_geq rfl rfl) rfl ?_
    refine run_gleave ?_
    refine run_op (loc_or rfl rfl) rfl ?_
    refine run_op (loc_move rfl) rfl ?_
    refine run_gfirst rfl rfl (by first | exact guard_true _ | exact guard_false _ | exact guard_if (guard_true _) | exact guard_if (guard_false _)) (fun hg => loc_fieldAddr rfl) rfl ?_
    refine run_gop rfl rfl (by first | exact guard_true _ | exact guard_false _ | exact guard_if (guard_true _) | exact guard_if (guard_false _)) (fun hg => loc_load1 rfl) rfl ?_
    refine run_gop rfl rfl (by first | exact guard_true _ | exact guard_false _ | exact guard_if (guard_true _) | exact guard_if (guard_false _)) (fun hg => loc_lss rfl rfl) rfl ?_
    refine run_gleave ?_
    refine run_op (loc_or rfl rfl) rfl ?_
    refine run_op (loc_move rfl) rfl ?_
    refine run_gfirst rfl rfl (by first | exact guard_true _ | exact guard_false _ | exact guard_if (guard_true _) | exact guard_if (guard_false _)) (fun hg => loc_fieldAddr rfl) rfl ?_
    refine run_gop rfl rfl (by first | exact guard_true _ | exact guard_false _ | exact guard_if (guard_true _) | exact guard_if (guard_false _)) (fun hg => loc_load1 rfl) rfl ?_
    refine run_gop rfl rfl (by first | exact guard_true _ | exact guard_false _ | exact guard_if (guard_true _) | exact guard_if (guard_false _)) (fun hg => loc_lss rfl rfl) rfl ?_
    refine run_gleave ?_
    refine run_op (loc_or rfl rfl) rfl ?_
    refine run_op (loc_move rfl) rfl ?_
    refine run_gfirst rfl rfl (by first | exact guard_true _ | exact guard_false _ | exact guard_if (guard_true _) | exact guard_if (guard_false _)) (fun hg => loc_fieldAddr rfl) rfl ?_
    refine run_gop rfl rfl (by first | exact guard_true _ | exact guard_false _ | exact guard_if (guard_true _) | exact guard_if (guard_false _)) (fun hg => loc_load1 rfl) rfl ?_
    refine run_gop rfl rfl (by first | exact guard_true _ | exact guard_false _ | exact guard_if (guard_true _) | exact guard_if (guard_false _)) (fun hg => loc_fieldAddr rfl) rfl ?_
    refine run_gop rfl rfl (by first | exact guard_true _ | exact guard_false _ | exact guard_if (guard_true _) | exact guard_if (guard_false _)) (fun hg => loc_load1 rfl) rfl ?_
    refine run_gop rfl rfl (by first | exact guard_true _ | exact guard_false _ | exact guard_if (guard_true _) | exact guard_if (guard_false _)) (fun hg => loc_gtr rfl rfl) rfl ?_
    refine run_gleave ?_
    refine run_op (loc_or rfl rfl) rfl ?_
    refine run_op (loc_move rfl) rfl ?_
    refine run_gfirst rfl rfl (by first | exact guard_true _ | exact guard_false _ | exact guard_if (guard_true _) | exact guard_if (guard_false _)) (fun hg => loc_fieldAddr rfl) rfl ?_
    refine run_gop rfl rfl (by first | exact guard_true _ | exact guard_false _ | exact guard_if (guard_true _) | exact guard_if (guard_false _)) (fun hg => loc_load1 rfl) rfl ?_
    refine run_gop rfl rfl (by first | exact guard_true _ | exact guard_false _ | exact guard_if (guard_true _) | exact guard_if (guard_false _)) (fun hg => loc_fieldAddr rfl) rfl ?_
    refine run_gop rfl rfl (by first | exact guard_true _ | exact guard_false _ | exact guard_if (guard_true _) | exact guard_if (guard_false _)) (fun hg => loc_load1 rfl) rfl ?_
    refine run_gop rfl rfl (by first | exact guard_true _ | exact guard_false _ | exact guard_if (guard_true _) | exact guard_if (guard_false _)) (fun hg => loc_gtr rfl rfl) rfl ?_
    refine run_gleave ?_
    refine run_op (loc_or rfl rfl) rfl ?_
    refine run_op (loc_move rfl) rfl ?_
    refine run_gfirst rfl rfl (by first | exact guard_true _ | exact guard_false _ | exact guard_if (guard_true _) | exact guard_if (guard_false _)) (fun hg => loc_fieldAddr rfl) rfl ?_
    refine run_gop rfl rfl (by first | exact guard_true _ | exact guard_false _ | exact guard_if (guard_true _) | exact guard_if (guard_false _)) (fun hg => loc_load1 rfl) rfl ?_
    first | refine run_gop rfl rfl (by first | exact guard_true _ | exact guard_false _ | exact guard_if (guard_true _) | exact guard_if (guard_false _)) (fun hg => loc_mul rfl rfl (by first | omega | assumption | (refine ⟨?_, ?_⟩ <;> omega))) rfl ?_ | refine run_gop rfl rfl (by first | exact guard_true _ | exact guard_false _ | exact guard_if (guard_true _) | exact guard_if (guard_false _)) (fun hg => loc_mulW rfl rfl) rfl ?_
    refine run_gop rfl rfl (by first | exact guard_true _ | exact guard_false _ | exact guard_if (guard_true _) | exact guard_if (guard_false _)) (fun hg => loc_fieldAddr rfl) rfl ?_
    refine run_gop rfl rfl (by first | exact guard_true _ | exact guard_false _ | exact guard_if (guard_true _) | exact guard_if (guard_false _)) (fun hg => loc_load1 rfl) rfl ?_
    first | refine run_gop rfl rfl (by first | exact guard_true _ | exact guard_false _ | exact guard_if (guard_true _) | exact guard_if (guard_false _)) (fun hg => loc_add rfl rfl (by first | omega | assumption | (refine ⟨?_, ?_⟩ <;> omega))) rfl ?_ | refine run_gop rfl rfl (by first | exact guard_true _ | exact guard_false _ | exact guard_if (guard_true _) | exact guard_if (guard_false _)) (fun hg => loc_addW rfl rfl) rfl ?_
    first | refine run_gop rfl rfl (by first | exact guard_true _ | exact guard_false _ | exact guard_if (guard_true _) | exact guard_if (guard_false _)) (fun hg => loc_sub rfl rfl (by first | omega | assumption | (refine ⟨?_, ?_⟩ <;> omega))) rfl ?_ | refine run_gop rfl rfl (by first | exact guard_true _ | exact guard_false _ | exact guard_if (guard_true _) | exact guard_if (guard_false _)) (fun hg => loc_subW rfl rfl) rfl ?_
    refine run_gop rfl rfl (by first | exact guard_true _ | exact guard_false _ | exact guard_if (guard_true _) | exact guard_if (guard_false _)) (fun hg => loc_fieldAddr rfl) rfl ?_
    refine run_gop rfl rfl (by first | exact guard_true _ | exact guard_false _ | exact guard_if (guard_true _) | exact guard_if (guard_false _)) (fun hg => loc_load1 rfl) rfl ?_
    refine run_gop rfl rfl (by first | exact guard_true _ | exact guard_false _ | exact guard_if (guard_true _) | exact guard_if (guard_false _)) (fun hg => loc_gtr rfl rfl) rfl ?_
    refine run_gleave ?_
    refine run_op (loc_or rfl rfl) rfl ?_
    refine run_nil ?_
    refine run_cond rfl (fun h2 => ?_) (fun h2 => ?_)
    ·
      have c2 := h2
      refine run_seq ?_
      refine run_region ?_
      refine run_op (loc_assign rfl) rfl ?_
      refine run_nil ?_
      refine run_retP Try.func89 rfl rfl ?_
      exact d_int (by unfold codE; rw [if_neg c1, if_pos (by omega)])
    ·
      have c2 := h2
      refine run_skip ?_
      refine run_seq ?_
      refine run_region ?_
      refine run_op (loc_assign rfl) rfl ?_
      refine run_nil ?_
      refine run_retP Try.func89 rfl rfl ?_
      exact d_int (by unfold codE; rw [if_neg c1, if_neg (by omega)])

theorem powerI_spec (p a g : Int) (h : 2 ≤ p ∧ p ≤ 65521) (ha : 0 ≤ a ∧ a ≤ 65521) (hg : 0 ≤ g ∧ g ≤ 65521) : SpecP Try.prog 93 [dInt .i64 p, dInt .i64 a, dInt .i64 g] (dInt .i64 (powM p a g.toNat)) := by
  have h1 := power_spec p a g.toNat h ha (by omega)
  rw [show ((g.toNat : Nat) : Int) = g by omega] at h1
  exact h1
end Go.Q
