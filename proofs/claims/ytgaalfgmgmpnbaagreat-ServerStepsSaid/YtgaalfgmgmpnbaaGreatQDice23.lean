/- Contracts of schemes. -/
import Derived.Test.YtgaalfgmgmpnbaaGreatQMap
import Derived.Test.YtgaalfgmgmpnbaaGreatQApi2
import Derived.Test.YtgaalfgmgmpnbaaGreatQRound
set_option linter.unusedVariables false
set_option linter.unusedSimpArgs false
namespace Go.Q
open Go.Proofs
open Classical
instance : TyConc Tryz.prog 228 := ⟨fun w v => by kernel_rfl⟩
instance : TyConc Tryz.prog 229 := ⟨fun w v => by kernel_rfl⟩
instance : TyConc Tryz.prog 230 := ⟨fun w v => by kernel_rfl⟩
instance : TyMeth Tryz.prog 228 "privatefetch/scheme.queries" 211 := ⟨fun w v args => by kernel_rfl⟩
instance : TyMeth Tryz.prog 229 "privatefetch/scheme.queries" 225 := ⟨fun w v args => by kernel_rfl⟩
instance : TyMeth Tryz.prog 230 "privatefetch/scheme.queries" 238 := ⟨fun w v args => by kernel_rfl⟩
theorem within_spec (n lo hi : Int) : SpecP Tryz.prog 108 [dInt .i64 n, dInt .i64 lo, dInt .i64 hi] (dB (lo ≤ n ∧ n ≤ hi)) := by
 refine specP_of_body Tryz.func108 rfl rfl (fun I M => ?_)
 refine run_seq ?_
 refine run_region ?_
 refine run_op (loc_assign rfl) rfl ?_
 refine run_nil ?_
 refine run_seq ?_
 refine run_region ?_
 refine run_op (loc_move rfl) rfl ?_
 refine run_op (loc_move rfl) rfl ?_
 refine run_op (loc_geq rfl rfl) rfl ?_
 refine run_op (loc_move rfl) rfl ?_
 refine run_gfirst rfl rfl gdI.ok (fun hg => loc_move rfl) rfl ?_
 refine run_gop rfl rfl gdI.ok (fun hg => loc_move rfl) rfl ?_
 refine run_gop rfl rfl gdI.ok (fun hg => loc_leq rfl rfl) rfl ?_
 refine run_gleave ?_
 refine run_op (loc_and rfl rfl) rfl ?_
 refine run_op (loc_assign rfl) rfl ?_
 refine run_nil ?_
 refine run_retP Tryz.func108 rfl rfl ?_
 exact d_B (by constructor <;> (intro h; omega))
theorem shape_spec (s : Schm) : SpecP Tryz.prog 59 [dSchm s] (dB (shapeS s)) := by
  refine specP_of_body Tryz.func59 rfl rfl (fun I M => ?_)
  refine run_seq ?_
  refine run_region ?_
  refine run_op (loc_boxN rfl) rfl ?_
  refine run_op (loc_assign rfl) rfl ?_
  refine run_nil ?_
  refine run_seq ?_
  refine run_seq ?_
  refine run_region ?_
  refine run_op (loc_fieldAddr rfl) rfl ?_
  refine run_op (loc_load1 rfl) rfl ?_
  refine run_op (loc_call (within_spec _ _ _) rfl) rfl ?_
  refine run_op (loc_not rfl) rfl ?_
  refine run_nil ?_
  refine run_cond rfl (fun h1 => ?_) (fun h1 => ?_)
  ·
   have c1 := h1
   refine run_seq ?_
   refine run_region ?_
   refine run_op (loc_assign rfl) rfl ?_
   refine run_nil ?_
   refine run_retP Tryz.func59 rfl rfl ?_
   exact d_B ⟨False.elim, fun h => by have := shape_bd h; omega⟩
  ·
   have c1 := h1
   refine run_skip ?_
   refine run_seq ?_
   refine run_seq ?_
   refine run_region ?_
   refine run_op (loc_fieldAddr rfl) rfl ?_
   refine run_op (loc_load1 rfl) rfl ?_
   refine run_nil ?_
   refine run_block ?_
   refine run_seq ?_
   refine run_region ?_
   refine run_op (loc_eql rfl rfl) rfl ?_
   refine run_op (loc_assign rfl) rfl ?_
   refine run_nil ?_
   refine run_cond rfl (fun h2 => ?_) (fun h2 => ?_)
   ·
    refine run_seq ?_
    refine run_region ?_
    refine run_op (loc_fieldAddr rfl) rfl ?_
    refine run_op (loc_load1 rfl) rfl ?_
    refine run_op (loc_eql rfl rfl) rfl ?_
    refine run_op (loc_move rfl) rfl ?_
    refine run_gfirst rfl rfl gdI.ok (fun hg => loc_fieldAddr rfl) rfl ?_
    refine run_gop rfl rfl gdI.ok (fun hg => loc_load1 rfl) rfl ?_
    refine run_gop rfl rfl gdI.ok (fun hg => loc_eql rfl rfl) rfl ?_
    refine run_gleave ?_
    refine run_op (loc_and rfl rfl) rfl ?_
    refine run_op (loc_assign rfl) rfl ?_
    refine run_nil ?_
    refine run_retP Tryz.func59 rfl rfl ?_
    exact d_B (by unfold shapeS; constructor <;> (intro h; omega))
   ·
    refine run_seq ?_
    refine run_region ?_
    refine run_op (loc_eql rfl rfl) rfl ?_
    refine run_op (loc_assign rfl) rfl ?_
    refine run_nil ?_
    refine run_cond rfl (fun h3 => ?_) (fun h3 => ?_)
    ·
     refine run_seq ?_
     refine run_region ?_
     refine run_op (loc_fieldAddr rfl) rfl ?_
     refine run_op (loc_load1 rfl) rfl ?_
     refine run_op (loc_fieldAddr rfl) rfl ?_
     refine run_op (loc_load1 rfl) rfl ?_
     first | refine run_op (loc_sub rfl rfl (by first | omega | assumption)) rfl ?_ | refine run_op (loc_subW rfl rfl) rfl ?_
     refine run_op (loc_call (within_spec _ _ _) rfl) rfl ?_
     refine run_op (loc_move rfl) rfl ?_
     refine run_gfirst rfl rfl gdI.ok (fun hg => loc_fieldAddr rfl) rfl ?_
     refine run_gop rfl rfl gdI.ok (fun hg => loc_load1 rfl) rfl ?_
     refine run_gop rfl rfl gdI.ok (fun hg => loc_eql rfl rfl) rfl ?_
     refine run_gleave ?_
     refine run_op (loc_and rfl rfl) rfl ?_
     refine run_op (loc_assign rfl) rfl ?_
     refine run_nil ?_
     refine run_retP Tryz.func59 rfl rfl ?_
     exact d_B (by unfold shapeS; constructor <;> (intro h; omega))
    ·
     refine run_seq ?_
     refine run_region ?_
     refine run_op (loc_eql rfl rfl) rfl ?_
     refine run_op (loc_assign rfl) rfl ?_
     refine run_nil ?_
     refine run_cond rfl (fun h4 => ?_) (fun h4 => ?_)
     ·
      refine run_seq ?_
      have hbd : (2 ≤ s.servers ∧ s.servers ≤ 10) := by omega
      refine run_region ?_
      refine run_op (loc_fieldAddr rfl) rfl ?_
      refine run_op (loc_load1 rfl) rfl ?_
      refine run_op (loc_fieldAddr rfl) rfl ?_
      refine run_op (loc_load1 rfl) rfl ?_
      refine run_op (loc_call (within_spec _ _ _) rfl) rfl ?_
      refine run_op (loc_move rfl) rfl ?_
      refine run_gfirst rfl rfl gdI.ok (fun hg => loc_fieldAddr rfl) rfl ?_
      refine run_gop rfl rfl gdI.ok (fun hg => loc_load1 rfl) rfl ?_
      refine run_gop rfl rfl gdI.ok (fun hg => loc_fieldAddr rfl) rfl ?_
      refine run_gop rfl rfl gdI.ok (fun hg => loc_load1 rfl) rfl ?_
      refine run_gop rfl rfl gdI.ok (fun hg => loc_call (within_spec _ _ _) rfl) rfl ?_
      refine run_gleave ?_
      refine run_op (loc_and rfl rfl) rfl ?_
      refine run_op (loc_move rfl) rfl ?_
      refine run_gfirst rfl rfl gdI.ok (fun hg => loc_fieldAddr rfl) rfl ?_
      refine run_gop rfl rfl gdI.ok (fun hg => loc_load1 rfl) rfl ?_
      first | refine run_gop rfl rfl gdI.ok (fun hg => loc_mul rfl rfl (by first | omega | assumption)) rfl ?_ | refine run_gop rfl rfl gdI.ok (fun hg => loc_mulW rfl rfl) rfl ?_
      refine run_gop rfl rfl gdI.ok (fun hg => loc_fieldAddr rfl) rfl ?_
      refine run_gop rfl rfl gdI.ok (fun hg => loc_load1 rfl) rfl ?_
      first | refine run_gop rfl rfl gdI.ok (fun hg => loc_add rfl rfl (by first | omega | assumption)) rfl ?_ | refine run_gop rfl rfl gdI.ok (fun hg => loc_addW rfl rfl) rfl ?_
      first | refine run_gop rfl rfl gdI.ok (fun hg => loc_sub rfl rfl (by first | omega | assumption)) rfl ?_ | refine run_gop rfl rfl gdI.ok (fun hg => loc_subW rfl rfl) rfl ?_
      refine run_gop rfl rfl gdI.ok (fun hg => loc_fieldAddr rfl) rfl ?_
      refine run_gop rfl rfl gdI.ok (fun hg => loc_load1 rfl) rfl ?_
      refine run_gop rfl rfl gdI.ok (fun hg => loc_leq rfl rfl) rfl ?_
      refine run_gleave ?_
      refine run_op (loc_and rfl rfl) rfl ?_
      refine run_op (loc_assign rfl) rfl ?_
      refine run_nil ?_
      refine run_retP Tryz.func59 rfl rfl ?_
      exact d_B (by unfold shapeS; constructor <;> (intro h; omega))
     ·
      refine run_skip ?_
      refine run_inBlock ?_
      refine run_seq ?_
      refine run_region ?_
      refine run_op (loc_assign rfl) rfl ?_
      refine run_nil ?_
      refine run_retP Tryz.func59 rfl rfl ?_
      exact d_B ⟨False.elim, fun h => by have := shape_kind h; omega⟩
theorem rshape_spec (s : Schm) : SpecP Tryz.prog 60 [dSchm s] (dB (shapeS s)) := by
  refine specP_of_body Tryz.func60 rfl rfl (fun I M => ?_)
  refine run_seq ?_
  refine run_region ?_
  refine run_op (loc_boxN rfl) rfl ?_
  refine run_op (loc_assign rfl) rfl ?_
  refine run_nil ?_
  refine run_seq ?_
  refine run_seq ?_
  refine run_region ?_
  refine run_op (loc_fieldAddr rfl) rfl ?_
  refine run_op (loc_load1 rfl) rfl ?_
  refine run_op (loc_lss rfl rfl) rfl ?_
  refine run_op (loc_move rfl) rfl ?_
  refine run_gfirst rfl rfl gdI.ok (fun hg => loc_fieldAddr rfl) rfl ?_
  refine run_gop rfl rfl gdI.ok (fun hg => loc_load1 rfl) rfl ?_
  refine run_gop rfl rfl gdI.ok (fun hg => loc_gtr rfl rfl) rfl ?_
  refine run_gleave ?_
  refine run_op (loc_or rfl rfl) rfl ?_
  refine run_nil ?_
  refine run_cond rfl (fun h1 => ?_) (fun h1 => ?_)
  ·
   have c1 := h1
   refine run_seq ?_
   refine run_region ?_
   refine run_op (loc_assign rfl) rfl ?_
   refine run_nil ?_
   refine run_retP Tryz.func60 rfl rfl ?_
   exact d_B ⟨False.elim, fun h => by have := shape_bd h; omega⟩
  ·
   have c1 := h1
   refine run_skip ?_
   refine run_seq ?_
   refine run_seq ?_
   refine run_region ?_
   refine run_op (loc_fieldAddr rfl) rfl ?_
   refine run_op (loc_load1 rfl) rfl ?_
   refine run_nil ?_
   refine run_block ?_
   refine run_seq ?_
   refine run_region ?_
   refine run_op (loc_eql rfl rfl) rfl ?_
   refine run_op (loc_assign rfl) rfl ?_
   refine run_nil ?_
   refine run_cond rfl (fun h2 => ?_) (fun h2 => ?_)
   ·
    refine run_seq ?_
    refine run_region ?_
    refine run_op (loc_fieldAddr rfl) rfl ?_
    refine run_op (loc_load1 rfl) rfl ?_
    refine run_op (loc_eql rfl rfl) rfl ?_
    refine run_op (loc_move rfl) rfl ?_
    refine run_gfirst rfl rfl gdI.ok (fun hg => loc_fieldAddr rfl) rfl ?_
    refine run_gop rfl rfl gdI.ok (fun hg => loc_load1 rfl) rfl ?_
    refine run_gop rfl rfl gdI.ok (fun hg => loc_eql rfl rfl) rfl ?_
    refine run_gleave ?_
    refine run_op (loc_and rfl rfl) rfl ?_
    refine run_op (loc_assign rfl) rfl ?_
    refine run_nil ?_
    refine run_retP Tryz.func60 rfl rfl ?_
    exact d_B (by unfold shapeS; constructor <;> (intro h; omega))
   ·
    refine run_seq ?_
    refine run_region ?_
    refine run_op (loc_eql rfl rfl) rfl ?_
    refine run_op (loc_assign rfl) rfl ?_
    refine run_nil ?_
    refine run_cond rfl (fun h3 => ?_) (fun h3 => ?_)
    ·
     refine run_seq ?_
     refine run_region ?_
     refine run_op (loc_fieldAddr rfl) rfl ?_
     refine run_op (loc_load1 rfl) rfl ?_
     refine run_op (loc_geq rfl rfl) rfl ?_
     refine run_op (loc_move rfl) rfl ?_
     refine run_gfirst rfl rfl gdI.ok (fun hg => loc_fieldAddr rfl) rfl ?_
     refine run_gop rfl rfl gdI.ok (fun hg => loc_load1 rfl) rfl ?_
     refine run_gop rfl rfl gdI.ok (fun hg => loc_fieldAddr rfl) rfl ?_
     refine run_gop rfl rfl gdI.ok (fun hg => loc_load1 rfl) rfl ?_
     first | refine run_gop rfl rfl gdI.ok (fun hg => loc_sub rfl rfl (by first | omega | assumption)) rfl ?_ | refine run_gop rfl rfl gdI.ok (fun hg => loc_subW rfl rfl) rfl ?_
     refine run_gop rfl rfl gdI.ok (fun hg => loc_leq rfl rfl) rfl ?_
     refine run_gleave ?_
     refine run_op (loc_and rfl rfl) rfl ?_
     refine run_op (loc_move rfl) rfl ?_
     refine run_gfirst rfl rfl gdI.ok (fun hg => loc_fieldAddr rfl) rfl ?_
     refine run_gop rfl rfl gdI.ok (fun hg => loc_load1 rfl) rfl ?_
     refine run_gop rfl rfl gdI.ok (fun hg => loc_eql rfl rfl) rfl ?_
     refine run_gleave ?_
     refine run_op (loc_and rfl rfl) rfl ?_
     refine run_op (loc_assign rfl) rfl ?_
     refine run_nil ?_
     refine run_retP Tryz.func60 rfl rfl ?_
     exact d_B (by unfold shapeS; constructor <;> (intro h; omega))
    ·
     refine run_seq ?_
     refine run_region ?_
     refine run_op (loc_eql rfl rfl) rfl ?_
     refine run_op (loc_assign rfl) rfl ?_
     refine run_nil ?_
     refine run_cond rfl (fun h4 => ?_) (fun h4 => ?_)
     ·
      refine run_seq ?_
      refine run_region ?_
      refine run_op (loc_fieldAddr rfl) rfl ?_
      refine run_op (loc_load1 rfl) rfl ?_
      refine run_op (loc_geq rfl rfl) rfl ?_
      refine run_op (loc_move rfl) rfl ?_
      refine run_gfirst rfl rfl gdI.ok (fun hg => loc_fieldAddr rfl) rfl ?_
      refine run_gop rfl rfl gdI.ok (fun hg => loc_load1 rfl) rfl ?_
      refine run_gop rfl rfl gdI.ok (fun hg => loc_geq rfl rfl) rfl ?_
      refine run_gleave ?_
      refine run_op (loc_and rfl rfl) rfl ?_
      refine run_op (loc_move rfl) rfl ?_
      refine run_gfirst rfl rfl gdI.ok (fun hg => loc_fieldAddr rfl) rfl ?_
      refine run_gop rfl rfl gdI.ok (fun hg => loc_load1 rfl) rfl ?_
      refine run_gop rfl rfl gdI.ok (fun hg => loc_leq rfl rfl) rfl ?_
      refine run_gleave ?_
      refine run_op (loc_and rfl rfl) rfl ?_
      refine run_op (loc_move rfl) rfl ?_
      refine run_gfirst rfl rfl gdI.ok (fun hg => loc_fieldAddr rfl) rfl ?_
      refine run_gop rfl rfl gdI.ok (fun hg => loc_load1 rfl) rfl ?_
      refine run_gop rfl rfl gdI.ok (fun hg => loc_leq rfl rfl) rfl ?_
      refine run_gleave ?_
      refine run_op (loc_and rfl rfl) rfl ?_
      refine run_op (loc_move rfl) rfl ?_
      refine run_gfirst rfl rfl gdI.ok (fun hg => loc_fieldAddr rfl) rfl ?_
      refine run_gop rfl rfl gdI.ok (fun hg => loc_load1 rfl) rfl ?_
      first | refine run_gop rfl rfl gdI.ok (fun hg => loc_mul rfl rfl (by first | omega | assumption)) rfl ?_ | refine run_gop rfl rfl gdI.ok (fun hg => loc_mulW rfl rfl) rfl ?_
      refine run_gop rfl rfl gdI.ok (fun hg => loc_fieldAddr rfl) rfl ?_
      refine run_gop rfl rfl gdI.ok (fun hg => loc_load1 rfl) rfl ?_
      first | refine run_gop rfl rfl gdI.ok (fun hg => loc_add rfl rfl (by first | omega | assumption)) rfl ?_ | refine run_gop rfl rfl gdI.ok (fun hg => loc_addW rfl rfl) rfl ?_
      first | refine run_gop rfl rfl gdI.ok (fun hg => loc_sub rfl rfl (by first | omega | assumption)) rfl ?_ | refine run_gop rfl rfl gdI.ok (fun hg => loc_subW rfl rfl) rfl ?_
      refine run_gop rfl rfl gdI.ok (fun hg => loc_fieldAddr rfl) rfl ?_
      refine run_gop rfl rfl gdI.ok (fun hg => loc_load1 rfl) rfl ?_
      refine run_gop rfl rfl gdI.ok (fun hg => loc_leq rfl rfl) rfl ?_
      refine run_gleave ?_
      refine run_op (loc_and rfl rfl) rfl ?_
      refine run_op (loc_assign rfl) rfl ?_
      refine run_nil ?_
      refine run_retP Tryz.func60 rfl rfl ?_
      exact d_B (by unfold shapeS; constructor <;> (intro h; omega))
     ·
      refine run_skip ?_
      refine run_inBlock ?_
      refine run_seq ?_
      refine run_region ?_
      refine run_op (loc_assign rfl) rfl ?_
      refine run_nil ?_
      refine run_retP Tryz.func60 rfl rfl ?_
      exact d_B ⟨False.elim, fun h => by have := shape_kind h; omega⟩
theorem valid_spec (s : Schm) (p : Int) : SpecP Tryz.prog 54 [dSchm s, dAgg [dInt .i64 p]] (dB (validS s p)) := by
 refine specP_of_body Tryz.func54 rfl rfl (fun I M => ?_)
 refine run_seq ?_
 refine run_region ?_
 refine run_op (loc_boxN rfl) rfl ?_
 refine run_op (loc_boxN rfl) rfl ?_
 refine run_op (loc_assign rfl) rfl ?_
 refine run_nil ?_
 refine run_seq ?_
 refine run_region ?_
 refine run_op (loc_loadN rfl rfl) rfl ?_
 refine run_op (loc_call (shape_spec _) rfl) rfl ?_
 refine run_op (loc_move rfl) rfl ?_
 refine run_gfirst rfl rfl gdI.ok (fun hg => loc_loadN rfl rfl) rfl ?_
 refine run_gop rfl rfl gdI.ok (fun hg => loc_call (fcheck_spec _) rfl) rfl ?_
 refine run_gop rfl rfl gdI.ok (fun hg => loc_eql rfl rfl) rfl ?_
 refine run_gleave ?_
 refine run_op (loc_and rfl rfl) rfl ?_
 refine run_op (loc_move rfl) rfl ?_
 refine run_gfirst rfl rfl gdI.ok (fun hg => loc_fieldAddr rfl) rfl ?_
 refine run_gop rfl rfl gdI.ok (fun hg => loc_load1 rfl) rfl ?_
 refine run_gop rfl rfl gdI.ok (fun hg => loc_eql rfl rfl) rfl ?_
 refine run_gop rfl rfl gdI.ok (fun hg => loc_move rfl) rfl ?_
 refine run_gleave ?_
 refine run_gfirst rfl rfl gdI.ok (fun hg => loc_fieldAddr rfl) rfl ?_
 refine run_gop rfl rfl gdI.ok (fun hg => loc_load1 rfl) rfl ?_
 refine run_gop rfl rfl gdI.ok (fun hg => loc_fieldAddr rfl) rfl ?_
 refine run_gop rfl rfl gdI.ok (fun hg => loc_load1 rfl) rfl ?_
 refine run_gop rfl rfl gdI.ok (fun hg => loc_lss rfl rfl) rfl ?_
 refine run_gleave ?_
 first | refine run_gfirst rfl rfl gdI.ok (fun hg => loc_or rfl rfl) rfl ?_ | refine run_gfirst rfl rfl gdI.ok (fun hg => loc_orG hg rfl rfl) rfl ?_ | refine run_gfirst rfl rfl gdI.ok (fun hg => loc_orH hg rfl rfl) rfl ?_
 refine run_gleave ?_
 refine run_op (loc_and rfl rfl) rfl ?_
 refine run_op (loc_assign rfl) rfl ?_
 refine run_nil ?_
 refine run_retP Tryz.func54 rfl rfl ?_
 exact d_B (by unfold validS; rw [errP_zero]; constructor; (· rintro ⟨⟨a, b⟩, c⟩; exact ⟨a, b, c⟩); (· rintro ⟨a, b, c⟩; exact ⟨⟨a, b⟩, c⟩))
theorem rvalid_spec (s : Schm) (p : Int) : SpecP Tryz.prog 63 [dSchm s, dAgg [dInt .i64 p]] (dB (validS s p)) := by
 refine specP_of_body Tryz.func63 rfl rfl (fun I M => ?_)
 refine run_seq ?_
 refine run_region ?_
 refine run_op (loc_boxN rfl) rfl ?_
 refine run_op (loc_boxN rfl) rfl ?_
 refine run_op (loc_assign rfl) rfl ?_
 refine run_nil ?_
 refine run_seq ?_
 refine run_region ?_
 refine run_op (loc_loadN rfl rfl) rfl ?_
 refine run_op (loc_call (rshape_spec _) rfl) rfl ?_
 refine run_op (loc_move rfl) rfl ?_
 refine run_gfirst rfl rfl gdI.ok (fun hg => loc_loadN rfl rfl) rfl ?_
 refine run_gop rfl rfl gdI.ok (fun hg => loc_call (rcheck3_spec _) rfl) rfl ?_
 refine run_gop rfl rfl gdI.ok (fun hg => loc_eql rfl rfl) rfl ?_
 refine run_gleave ?_
 refine run_op (loc_and rfl rfl) rfl ?_
 refine run_op (loc_move rfl) rfl ?_
 refine run_gfirst rfl rfl gdI.ok (fun hg => loc_fieldAddr rfl) rfl ?_
 refine run_gop rfl rfl gdI.ok (fun hg => loc_load1 rfl) rfl ?_
 refine run_gop rfl rfl gdI.ok (fun hg => loc_eql rfl rfl) rfl ?_
 refine run_gop rfl rfl gdI.ok (fun hg => loc_move rfl) rfl ?_
 refine run_gleave ?_
 refine run_gfirst rfl rfl gdI.ok (fun hg => loc_fieldAddr rfl) rfl ?_
 refine run_gop rfl rfl gdI.ok (fun hg => loc_load1 rfl) rfl ?_
 refine run_gop rfl rfl gdI.ok (fun hg => loc_fieldAddr rfl) rfl ?_
 refine run_gop rfl rfl gdI.ok (fun hg => loc_load1 rfl) rfl ?_
 refine run_gop rfl rfl gdI.ok (fun hg => loc_lss rfl rfl) rfl ?_
 refine run_gleave ?_
 first | refine run_gfirst rfl rfl gdI.ok (fun hg => loc_or rfl rfl) rfl ?_ | refine run_gfirst rfl rfl gdI.ok (fun hg => loc_orG hg rfl rfl) rfl ?_ | refine run_gfirst rfl rfl gdI.ok (fun hg => loc_orH hg rfl rfl) rfl ?_
 refine run_gleave ?_
 refine run_op (loc_and rfl rfl) rfl ?_
 refine run_op (loc_assign rfl) rfl ?_
 refine run_nil ?_
 refine run_retP Tryz.func63 rfl rfl ?_
 exact d_B (by unfold validS; rw [errP_zero]; constructor; (· rintro ⟨⟨a, b⟩, c⟩; exact ⟨a, b, c⟩); (· rintro ⟨a, b, c⟩; exact ⟨⟨a, b⟩, c⟩))
theorem storage_spec (s : Schm) : SpecP Tryz.prog 110 [dSchm s] (dAgg [dInt .i64 s.servers, dInt .i64 s.degree, dInt .i64 s.group]) := by
 refine specP_of_body Tryz.func110 rfl rfl (fun I M => ?_)
 refine run_seq ?_
 refine run_region ?_
 refine run_op (loc_boxN rfl) rfl ?_
 refine run_new (loc_allocOwn (by simp)) rfl (fun b1 _ => ?_)
 refine run_nil ?_
 refine run_seq ?_
 refine run_region ?_
 refine run_op (loc_fieldAddr rfl) rfl ?_
 refine run_op (loc_load1 rfl) rfl ?_
 refine run_op (loc_fieldAddr rfl) rfl ?_
 refine run_op (loc_load1 rfl) rfl ?_
 refine run_op (loc_fieldAddr rfl) rfl ?_
 refine run_op (loc_load1 rfl) rfl ?_
 refine run_op (loc_build (.one rfl rfl rfl (.one rfl rfl rfl (.one rfl rfl rfl (.nil))))) rfl ?_
 refine run_storeN (ho := (by show OneAll [_, _, _]; infer_instance)) rfl rfl (.here) (by rfl) ?_
 refine run_nil ?_
 refine run_retGP Tryz.func110 rfl (.cellN rfl (.here) (by rfl) (.nil)) ?_ (fun _ _ h => inv_tail (h))
 exact fun _ _ h => h
theorem runits_spec (s : Schm) (n : Int) : SpecP Tryz.prog 49 [dSchm s, dInt .i64 n] (dInt .i64 (unitsS s n)) := by
  refine specP_of_body Tryz.func49 rfl rfl (fun I M => ?_)
  refine run_seq ?_
  refine run_region ?_
  refine run_op (loc_boxN rfl) rfl ?_
  refine run_op (loc_assign rfl) rfl ?_
  refine run_nil ?_
  refine run_seq ?_
  refine run_seq ?_
  refine run_region ?_
  refine run_op (loc_loadN rfl rfl) rfl ?_
  refine run_op (loc_call (rshape_spec _) rfl) rfl ?_
  refine run_op (loc_not rfl) rfl ?_
  refine run_op (loc_move rfl) rfl ?_
  refine run_gfirst rfl rfl gdI.ok (fun hg => loc_move rfl) rfl ?_
  refine run_gop rfl rfl gdI.ok (fun hg => loc_lss rfl rfl) rfl ?_
  refine run_gleave ?_
  refine run_op (loc_or rfl rfl) rfl ?_
  refine run_op (loc_move rfl) rfl ?_
  refine run_gfirst rfl rfl gdI.ok (fun hg => loc_move rfl) rfl ?_
  refine run_gop rfl rfl gdI.ok (fun hg => loc_gtr rfl rfl) rfl ?_
  refine run_gleave ?_
  refine run_op (loc_or rfl rfl) rfl ?_
  refine run_nil ?_
  refine run_cond rfl (fun h1 => ?_) (fun h1 => ?_)
  ·
   have c1 : ¬ shapeS s ∨ ¬ (1 ≤ n ∧ n ≤ 1024) := un_yes h1
   refine run_seq ?_
   refine run_region ?_
   refine run_op (loc_assign rfl) rfl ?_
   refine run_nil ?_
   refine run_retP Tryz.func49 rfl rfl ?_
   exact d_int (by unfold unitsS; rw [if_pos c1])
  ·
   have c1 : ¬ (¬ shapeS s ∨ ¬ (1 ≤ n ∧ n ≤ 1024)) := un_no h1
   have c2 : shapeS s := Classical.not_not.1 fun h => c1 (.inl h)
   have c3 : 1 ≤ n ∧ n ≤ 1024 := Classical.not_not.1 fun h => c1 (.inr h)
   have hbd := shape_bd c2
   refine run_skip ?_
   refine run_seq ?_
   refine run_seq ?_
   refine run_region ?_
   refine run_op (loc_fieldAddr rfl) rfl ?_
   refine run_op (loc_load1 rfl) rfl ?_
   refine run_op (loc_eql rfl rfl) rfl ?_
   refine run_nil ?_
   refine run_cond rfl (fun h2 => ?_) (fun h2 => ?_)
   ·
    have c4 := h2
    have hg : 1 ≤ s.group := by unfold shapeS at c2; omega
    refine run_seq ?_
    refine run_region ?_
    refine run_op (loc_move rfl) rfl ?_
    refine run_op (loc_fieldAddr rfl) rfl ?_
    refine run_op (loc_load1 rfl) rfl ?_
    first | refine run_op (loc_add rfl rfl (by first | omega | assumption)) rfl ?_ | refine run_op (loc_addW rfl rfl) rfl ?_
    first | refine run_op (loc_sub rfl rfl (by first | omega | assumption)) rfl ?_ | refine run_op (loc_subW rfl rfl) rfl ?_
    refine run_op (loc_fieldAddr rfl) rfl ?_
    refine run_op (loc_load1 rfl) rfl ?_
    first | refine run_op (loc_quo rfl rfl (by first | omega | assumption)) rfl ?_ | refine run_op (loc_quoW rfl rfl (by first | omega | assumption)) rfl ?_
    refine run_op (loc_assign rfl) rfl ?_
    refine run_nil ?_
    refine run_retP Tryz.func49 rfl rfl ?_
    exact d_int (by unfold unitsS; rw [if_neg c1, if_pos c4])
   ·
    refine run_skip ?_
    refine run_seq ?_
    refine run_region ?_
    refine run_op (loc_move rfl) rfl ?_
    refine run_op (loc_assign rfl) rfl ?_
    refine run_nil ?_
    refine run_retP Tryz.func49 rfl rfl ?_
    exact d_int (by unfold unitsS; rw [if_neg c1, if_neg (by assumption)])
theorem shold_spec (s : Schm) (t : Tab) (j : Int) : SpecP Tryz.prog 55 [dSchm s, dTab t, dInt .i64 j] (dTup [dRows (hldL s t j), dInt .i64 (hldE s t j)]) := by
  refine specP_of_body Tryz.func55 rfl rfl (fun I M => ?_)
  refine run_seq ?_
  refine run_region ?_
  refine run_op (loc_boxN rfl) rfl ?_
  refine run_op (loc_boxN rfl) rfl ?_
  refine run_op (loc_assign rfl) rfl ?_
  refine run_op (loc_assign rfl) rfl ?_
  refine run_nil ?_
  refine run_seq ?_
  refine run_seq ?_
  refine run_region ?_
  refine run_op (loc_loadN rfl rfl) rfl ?_
  refine run_op (loc_call (tcheck_spec _) rfl) rfl ?_
  refine run_op (loc_assign rfl) rfl ?_
  refine run_nil ?_
  refine run_seq ?_
  refine run_region ?_
  refine run_op (loc_move rfl) rfl ?_
  refine run_op (loc_neq rfl rfl) rfl ?_
  refine run_nil ?_
  refine run_cond rfl (fun h1 => ?_) (fun h1 => ?_)
  ·
   have c1 := h1
   refine run_seq ?_
   refine run_region ?_
   refine run_op (loc_move rfl) rfl ?_
   refine run_op (loc_assign rfl) rfl ?_
   refine run_op (loc_assign rfl) rfl ?_
   refine run_nil ?_
   refine run_ret2P Tryz.func55 rfl rfl rfl ?_
   exact d_tup2 (d_toRows (by unfold hldL; rw [if_pos (.inl c1)]) d_nil) (d_int (by unfold hldE; rw [if_pos c1]))
  ·
   have c1 := Classical.not_not.1 h1
   refine run_skip ?_
   refine run_seq ?_
   refine run_block ?_
   refine run_seq ?_
   refine run_region ?_
   refine run_op (loc_loadN rfl rfl) rfl ?_
   refine run_op (loc_fieldAddr rfl) rfl ?_
   refine run_op (loc_loadN rfl rfl) rfl ?_
   refine run_op (loc_call (valid_spec _ _) rfl) rfl ?_
   refine run_op (loc_not rfl) rfl ?_
   refine run_op (loc_assign rfl) rfl ?_
   refine run_nil ?_
   refine run_cond rfl (fun h2 => ?_) (fun h2 => ?_)
   ·
    have c2 := h2
    refine run_seq ?_
    refine run_region ?_
    refine run_op (loc_assign rfl) rfl ?_
    refine run_op (loc_assign rfl) rfl ?_
    refine run_nil ?_
    refine run_ret2P Tryz.func55 rfl rfl rfl ?_
    exact d_tup2 (d_toRows (by unfold hldL; rw [if_pos (.inr (.inl c2))]) d_nil) (d_int (by unfold hldE; rw [if_neg (Classical.not_not.2 c1), if_pos c2]))
   ·
    have c2 := Classical.not_not.1 h2
    refine run_seq ?_
    refine run_region ?_
    refine run_op (loc_move rfl) rfl ?_
    refine run_op (loc_fieldAddr rfl) rfl ?_
    refine run_op (loc_load1 rfl) rfl ?_
    refine run_op (loc_call (within_spec _ _ _) rfl) rfl ?_
    refine run_op (loc_not rfl) rfl ?_
    refine run_op (loc_assign rfl) rfl ?_
    refine run_nil ?_
    refine run_cond rfl (fun h3 => ?_) (fun h3 => ?_)
    ·
     have c3 := h3
     refine run_seq ?_
     refine run_region ?_
     refine run_op (loc_assign rfl) rfl ?_
     refine run_op (loc_assign rfl) rfl ?_
     refine run_nil ?_
     refine run_ret2P Tryz.func55 rfl rfl rfl ?_
     exact d_tup2 (d_toRows (by unfold hldL; rw [if_pos (.inr (.inr c3))]) d_nil) (d_int (by unfold hldE; rw [if_neg (Classical.not_not.2 c1), if_neg (Classical.not_not.2 c2), if_pos c3]))
    ·
     have c3 := Classical.not_not.1 h3
     refine run_seq ?_
     refine run_region ?_
     refine run_op (loc_fieldAddr rfl) rfl ?_
     refine run_op (loc_load1 rfl) rfl ?_
     refine run_op (loc_eql rfl rfl) rfl ?_
     refine run_op (loc_assign rfl) rfl ?_
     refine run_nil ?_
     refine run_cond rfl (fun h4 => ?_) (fun h4 => ?_)
     ·
      have c4 := h4
      refine run_seq ?_
      refine dr_start _ (.none) [⟨[(4, none)], [], none⟩,
          ⟨[(33, some (0, false))], [0], none⟩,
          ⟨[(3, none)], [], none⟩,
          ⟨[(35, some (2, false))], [2], none⟩,
          ⟨[(4, none)], [], none⟩,
          ⟨[(37, some (4, false))], [4], none⟩,
          ⟨[(4, none)], [], none⟩,
          ⟨[(39, some (6, false))], [6], none⟩,
          ⟨[(2, none)], [], none⟩,
          ⟨[(34, some (1, false)), (36, some (3, false)), (38, some (5, false)), (40, some (7, false)), (41, some (8, false))], [0, 1, 2, 3, 4, 5, 6, 7, 8], none⟩,
          ⟨[(42, some (9, false))], [0, 1, 2, 3, 4, 5, 6, 7, 8, 9], none⟩,
          ⟨[(42, some (9, false))], [0, 1, 2, 3, 4, 5, 6, 7, 8, 9], none⟩,
          ⟨[(43, some (10, false))], [0, 1, 2, 3, 4, 5, 6, 7, 8, 9, 10, 11], none⟩,
          ⟨[(44, some (11, false))], [0, 1, 2, 3, 4, 5, 6, 7, 8, 9, 10, 11, 12], none⟩] [] _ rfl rfl ?_
      refine dq_pure rfl (fun s => .g rfl (.nil)) (fun s hs _ => loc_fieldAddr rfl) (by exact .nil) ?_
      refine dq_pure rfl (fun s => .op rfl (.nil)) (fun s hs _ => loc_loadN rfl rfl) (by exact .nil) ?_
      refine dq_pure rfl (fun s => .g rfl (.nil)) (fun s hs _ => loc_loadN rfl rfl) (by exact .nil) ?_
      refine dq_pure rfl (fun s => .op rfl (.nil)) (fun s hs _ => loc_call (storage_spec _) rfl) (by exact .nil) ?_
      refine dq_pure rfl (fun s => .g rfl (.nil)) (fun s hs _ => loc_fieldAddr rfl) (by exact .nil) ?_
      refine dq_pure rfl (fun s => .op rfl (.nil)) (fun s hs _ => loc_load1 rfl) (by exact .nil) ?_
      refine dq_pure rfl (fun s => .g rfl (.nil)) (fun s hs _ => loc_fieldAddr rfl) (by exact .nil) ?_
      refine dq_pure rfl (fun s => .op rfl (.nil)) (fun s hs _ => loc_load1 rfl) (by exact .nil) ?_
      refine dq_pure rfl (fun s => .g rfl (.nil)) (fun s hs _ => loc_move rfl) (by exact .nil) ?_
      refine dq_pure rfl (fun s => .op rfl (.op rfl (.op rfl (.op rfl (.op rfl (.nil)))))) (fun s hs _ => loc_call (hold_spec _ _ _ _ _ _ _) rfl) (by exact .nil) ?_
      refine dq_pure rfl (fun s => .op rfl (.nil)) (fun s hs _ => loc_extract rfl rfl) (by exact .nil) ?_
      refine dq_pure rfl (fun s => .op rfl (.nil)) (fun s hs _ => loc_extract rfl rfl) (by exact .nil) ?_
      refine dq_pure rfl (fun s => .op rfl (.nil)) (fun s hs _ => loc_assign rfl) (by exact .nil) ?_
      refine dq_pure rfl (fun s => .op rfl (.nil)) (fun s hs _ => loc_assign rfl) (by exact .nil) ?_
      refine dq_end (rs := []) () rfl (fun _ => rfl) (.nil) rfl (fun _ => rfl) (fun _ _ => ?_)
      dsimp only [outG, outM, List.map, List.set, id]
      refine run_ret2P Tryz.func55 rfl rfl rfl ?_
      exact d_tup2 (d_toRows (by unfold hldL; rw [if_neg (hld_no c1 c2 c3), if_pos c4]) (fun _ _ h => h)) (d_int (by unfold hldE; rw [if_neg (Classical.not_not.2 c1), if_neg (Classical.not_not.2 c2), if_neg (Classical.not_not.2 c3), if_pos c4]))
     ·
      have c4 := h4
      refine run_skip ?_
      refine run_inBlock ?_
      refine run_seq ?_
      refine run_region ?_
      refine run_op (loc_assign rfl) rfl ?_
      refine run_nil ?_
      refine run_seq ?_
      refine run_seq ?_
      refine run_region ?_
      refine run_op (loc_fieldAddr rfl) rfl ?_
      refine run_op (loc_load1 rfl) rfl ?_
      first | refine runL_fact (s := 46) rfl (fun _ _ h => dSl_len h) (fun hlen5 => ?_) | skip
      refine run_op (loc_len rfl) rfl ?_
      refine run_op (loc_move rfl) rfl ?_
      refine run_nil ?_
      refine run_block ?_
      have hct := checkT_ok c1
      refine run_rowNil 44 1 fR ?_
      refine run_loopF (σ := Value × Nat) (ks := [46, 47]) (.cons rfl (.cons rfl (.nil))) (fun q => [(9, dVal q.1), (48, dInt .i64 (q.2 : Nat))]) (fun q => [rRow q.1 44 1 fR (t.rows.take q.2)]) (fun q => q.2 ≤ t.rows.length) (fun q => t.rows.length - q.2) ((.slice none 0 0, 0)) (Nat.zero_le _) (.cons rfl (by first | exact fun _ _ h => h | exact d_int (by omega) | exact d_int (by simp) | exact d_intN (by omega) | exact d_any) (.cons rfl (by first | exact fun _ _ h => h | exact d_int (by omega) | exact d_int (by simp) | exact d_intN (by omega) | exact d_any) .nil)) (rfl) ?_
      intro q hq ih6
      have hql : (t.rows.take q.2).length = q.2 := by rw [List.length_take]; omega
      refine run_seq ?_
      refine run_region ?_
      refine run_op (loc_lss rfl rfl) rfl ?_
      refine run_nil ?_
      refine run_seq ?_
      refine run_cond rfl (fun h7 => ?_) (fun h7 => ?_)
      ·
       have hrl := (hct.2.2.2.2 _ (getD_mem (xs := t.rows) (k := q.2) (by omega))).1
       refine run_skip ?_
       refine run_seq ?_
       refine run_block ?_
       refine run_seq ?_
       refine run_region ?_
       first | refine run_op (loc_index rfl rfl (by first | omega | assumption)) rfl ?_ | refine run_op (loc_indexI rfl rfl (by first | omega | assumption)) rfl ?_
       refine run_op (loc_load1 rfl) rfl ?_
       refine run_op (loc_assign rfl) rfl ?_
       refine run_nil ?_
       refine run_region ?_
       refine run_op (loc_move rfl) rfl ?_
       refine run_op (loc_move rfl) rfl ?_
       refine run_op (loc_call (cloneI_spec _ (by omega)) rfl) rfl ?_
       refine run_op (loc_buildSlice rfl rfl (.one rfl (.nil)) rfl rfl) rfl ?_
       refine run_append1 rfl (.here) rfl (by rfl) (by rfl) (by first | omega | (simp [lenMax]; omega) | (simp [lenMax]; done) | assumption) (by first | omega | (simp [lenMax]; omega) | (simp [lenMax]; done) | assumption) rfl (fun v8 => ?_)
       refine run_op (loc_assign rfl) rfl ?_
       refine run_nil ?_
       refine run_inBlock ?_
       refine run_region ?_
       first | refine run_op (loc_add rfl rfl (by first | omega | assumption)) rfl ?_ | refine run_op (loc_addW rfl rfl) rfl ?_
       refine run_op (loc_move rfl) rfl ?_
       refine run_nil ?_
       exact run_againF ih6 ((v8, q.2 + 1)) (by simp only; omega) (by simp only; omega) (.cons rfl (by first | exact fun _ _ h => h | exact d_int (by omega) | exact d_int (by simp) | exact d_intN (by omega) | exact d_any) (.cons rfl (by first | exact fun _ _ h => h | exact d_int (by omega) | exact d_int (by simp) | exact d_intN (by omega) | exact d_any) .nil)) (.cons rfl (fun _ _ x => x) (.cons rfl (fun _ _ x => x) (.nil))) (by simp only [appR]; rw [take_snocR (by omega)])
      ·
       refine run_exit rfl ?_
       refine run_seq ?_
       refine run_freezeRow (s := 9) rfl (.here) ?_
       refine run_region ?_
       refine run_op (loc_move rfl) rfl ?_
       refine run_op (loc_assign rfl) rfl ?_
       refine run_op (loc_assign rfl) rfl ?_
       refine run_nil ?_
       refine run_ret2P Tryz.func55 rfl rfl rfl ?_
       exact d_tup2 (d_eq (by unfold hldL; rw [if_neg (hld_no c1 c2 c3), if_neg c4, List.take_of_length_le (by omega)])) (d_int (by unfold hldE; rw [if_neg (Classical.not_not.2 c1), if_neg (Classical.not_not.2 c2), if_neg (Classical.not_not.2 c3), if_neg c4]))
end Go.Q

namespace Go.Q
open Classical
def keptOk (l : List Int) (j : Nat) : Prop := 1 ≤ l[j]?.getD default ∧ l[j]?.getD default ≤ 2147483646 ∧ (0 < j → l[j - 1]?.getD default < l[j]?.getD default)
def rowOk (kept : List Int) (l : List Pn) (j : Nat) : Prop := 0 ≤ (l[j]?.getD default).session ∧ (0 < j → (l[j - 1]?.getD default).session < (l[j]?.getD default).session) ∧ (l[j]?.getD default).version ∈ kept
structure okPins (p : Pins) : Prop where
 one : 1 ≤ p.kept.length
 most : p.kept.length ≤ 16
 reads : p.rows.length ≤ 64
 kept : ∀ j, j < p.kept.length → keptOk p.kept j
 rows : ∀ j, j < p.rows.length → rowOk p.kept p.rows j
theorem cmpI_neg {x y : Int} : cmpI x y < 0 ↔ x < y := by unfold cmpI; split <;> (try split) <;> omega
theorem cmpI_zero {x y : Int} : cmpI x y = 0 ↔ x = y := by unfold cmpI; split <;> (try split) <;> omega
end Go.Q

namespace Go.Q
open Classical
structure Dc where
 xs : List Int
 k : Nat
deriving Inhabited
def Dc.val (d : Dc) (n : Int) : Int := if d.k < d.xs.length then d.xs[d.k]?.getD default % n else 0
def Dc.next (d : Dc) : Dc := ⟨d.xs, if d.k < d.xs.length then d.k + 1 else d.k⟩
structure okDc (d : Dc) : Prop where
 byte : ∀ x ∈ d.xs, 0 ≤ x ∧ x ≤ 255
 len : d.xs.length ≤ 300
theorem Dc.val_nonneg {d : Dc} {n : Int} (hn : 1 ≤ n) : 0 ≤ d.val n := by
 unfold Dc.val
 split
 ·exact Int.emod_nonneg _ (by omega)
 ·omega
theorem Dc.val_lt {d : Dc} {n : Int} (hn : 1 ≤ n) : d.val n < n := by
 unfold Dc.val
 split
 ·exact Int.emod_lt_of_pos _ (by omega)
 ·omega
theorem Dc.next_ok {d : Dc} (h : okDc d) : okDc d.next := ⟨h.byte, h.len⟩
structure rowsP (kept : List Int) (l : List Pn) : Prop where
 nonneg : ∀ r ∈ l, 0 ≤ r.session
 mem : ∀ r ∈ l, r.version ∈ kept
 asc : l.Pairwise fun a b => a.session < b.session
structure keptP (l : List Int) : Prop where
 bd : ∀ v ∈ l, 1 ≤ v ∧ v ≤ 2147483646
 asc : l.Pairwise fun a b => a < b
end Go.Q

namespace Go.Q
open Classical
theorem okP_7 : okP 7 := by
 refine ⟨by omega, by omega, fun d h1 h2 h3 => ?_⟩
 have hd : d ≤ 2 := by by_cases h : d ≤ 2; (· exact h); (· exfalso; have := mul_bd (a := 3) (A := d) (b := 3) (B := d) (by omega) (by omega) (by omega) (by omega); omega)
 have : d = 2 := by omega
 subst this; omega
theorem okP_11 : okP 11 := by
 refine ⟨by omega, by omega, fun d h1 h2 h3 => ?_⟩
 have hd : d ≤ 3 := by by_cases h : d ≤ 3; (· exact h); (· exfalso; have := mul_bd (a := 4) (A := d) (b := 4) (B := d) (by omega) (by omega) (by omega) (by omega); omega)
 have : d = 2 ∨ d = 3 := by omega
 rcases this with rfl | rfl <;> omega
theorem okP_13 : okP 13 := by
 refine ⟨by omega, by omega, fun d h1 h2 h3 => ?_⟩
 have hd : d ≤ 3 := by by_cases h : d ≤ 3; (· exact h); (· exfalso; have := mul_bd (a := 4) (A := d) (b := 4) (B := d) (by omega) (by omega) (by omega) (by omega); omega)
 have : d = 2 ∨ d = 3 := by omega
 rcases this with rfl | rfl <;> omega
theorem okP_257 : okP 257 := by
 refine ⟨by omega, by omega, fun d h1 h2 h3 => ?_⟩
 have hd : d ≤ 16 := by by_cases h : d ≤ 16; (· exact h); (· exfalso; have := mul_bd (a := 17) (A := d) (b := 17) (B := d) (by omega) (by omega) (by omega) (by omega); omega)
 have : d = 2 ∨ d = 3 ∨ d = 4 ∨ d = 5 ∨ d = 6 ∨ d = 7 ∨ d = 8 ∨ d = 9 ∨ d = 10 ∨ d = 11 ∨ d = 12 ∨ d = 13 ∨ d = 14 ∨ d = 15 ∨ d = 16 := by omega
 rcases this with rfl | rfl | rfl | rfl | rfl | rfl | rfl | rfl | rfl | rfl | rfl | rfl | rfl | rfl | rfl <;> omega
def dieP (p : Int) : Prop := p = 7 ∨ p = 11 ∨ p = 13 ∨ p = 257
theorem dieP_ok {p : Int} (h : dieP p) : okP p ∧ 7 ≤ p ∧ p ≤ 257 := by
 rcases h with rfl | rfl | rfl | rfl
 ·exact ⟨okP_7, by omega, by omega⟩
 ·exact ⟨okP_11, by omega, by omega⟩
 ·exact ⟨okP_13, by omega, by omega⟩
 ·exact ⟨okP_257, by omega, by omega⟩
def dieS (s : Schm) : Prop := shapeS s ∧ 3 ≤ s.servers ∧ s.servers ≤ 6
def dieT (p : Int) (t : Tab) : Prop := checkT t = 0 ∧ t.p = p ∧ (1 ≤ t.rows.length ∧ t.rows.length ≤ 5) ∧ (1 ≤ t.number ∧ t.number ≤ 3) ∧ (1 ≤ t.width ∧ t.width ≤ 3)
theorem dieT_of {p n w c : Int} {rows : List (List Int)} (hp : dieP p) (hn : 1 ≤ n ∧ n ≤ 3) (hw : 1 ≤ w ∧ w ≤ 3) (hc : 1 ≤ c ∧ c ≤ 5) (h : rows.length = c.toNat ∧ ∀ r ∈ rows, r.length = w.toNat ∧ ∀ x ∈ r, hasP p x) : dieT p ⟨n, p, w, rows⟩ := by
 refine ⟨?_, rfl, ⟨by simp only; omega, by simp only; omega⟩, hn, hw⟩
 unfold checkT
 rw [if_neg (by simp only; omega), if_neg (Classical.not_not.2 (dieP_ok hp).1), if_neg (by simp only; omega), if_neg (by simp only; omega)]
 refine firstErr_none fun r hr => ?_
 obtain ⟨h1, h2⟩ := h.2 r hr
 unfold rowErr
 rw [if_neg (by simp only; omega), if_neg (Classical.not_not.2 (show allP p r from h2))]
theorem die_get {k : Int} (h : 0 ≤ k ∧ k < 4) : dieP (([7, 11, 13, 257] : List Int)[k.toNat]?.getD default) := by
 have : k.toNat = 0 ∨ k.toNat = 1 ∨ k.toNat = 2 ∨ k.toNat = 3 := by omega
 unfold dieP
 rcases this with e | e | e | e <;> rw [e] <;> simp
theorem die1 {n : Int} (h : 3 ≤ n ∧ n ≤ 6) : dieS ⟨1, n, 0, 0⟩ := ⟨⟨⟨by simp only; omega, by simp only; omega⟩, .inl ⟨rfl, rfl, rfl⟩⟩, h⟩
theorem die2 {n d : Int} (h : 3 ≤ n ∧ n ≤ 6) (hd : 1 ≤ d ∧ d ≤ 2) : dieS ⟨2, n, d, 0⟩ := ⟨⟨⟨by simp only; omega, by simp only; omega⟩, .inr (.inl ⟨rfl, hd.1, by simp only; omega, rfl⟩)⟩, h⟩
theorem die3 {n d : Int} (h : 3 ≤ n ∧ n ≤ 6) (hd : 1 ≤ d ∧ d ≤ 2) : dieS ⟨3, n, d, 1⟩ := ⟨⟨⟨by simp only; omega, by simp only; omega⟩, .inr (.inr ⟨rfl, hd.1, by simp only; omega, by simp only; omega, by simp only; omega, by simp only; omega⟩)⟩, h⟩
theorem die4 {n : Int} (h : 4 ≤ n ∧ n ≤ 6) : dieS ⟨3, n, 1, 2⟩ := ⟨⟨⟨by simp only; omega, by simp only; omega⟩, .inr (.inr ⟨rfl, by simp only; omega, by simp only; omega, by simp only; omega, by simp only; omega, by simp only; omega⟩)⟩, by simp only; omega, h.2⟩
noncomputable def schI (d : Dc) : Dc := @ite _ (¬ 3 + d.val 4 < 4) (Classical.propDecidable _) d.next.next.next d.next.next
noncomputable def schV (d : Dc) : Schm := if d.next.val 3 = 0 then ⟨1, 3 + d.val 4, 0, 0⟩ else if d.next.val 3 = 1 then ⟨2, 3 + d.val 4, 1 + d.next.next.val 2, 0⟩ else if 3 + d.val 4 < 4 ∨ d.next.next.val 2 = 0 then ⟨3, 3 + d.val 4, 1 + (schI d).val 2, 1⟩ else ⟨3, 3 + d.val 4, 1, 2⟩
noncomputable def schD (d : Dc) : Dc := if d.next.val 3 = 0 then d.next.next else if d.next.val 3 = 1 then d.next.next.next else if 3 + d.val 4 < 4 ∨ d.next.next.val 2 = 0 then (schI d).next else schI d
theorem schI_ok {d : Dc} (h : okDc d) : okDc (schI d) := by
 have h1 := Dc.next_ok h
 have h2 := Dc.next_ok h1
 have h3 := Dc.next_ok h2
 unfold schI
 split <;> assumption
theorem schD_ok {d : Dc} (h : okDc d) : okDc (schD d) := by
 have h1 := Dc.next_ok h
 have h2 := Dc.next_ok h1
 have h3 := Dc.next_ok h2
 have h4 := schI_ok h
 have h5 := Dc.next_ok h4
 unfold schD
 split
 ·assumption
 ·split
  ·assumption
  ·split <;> assumption
theorem schV_die (d : Dc) : dieS (schV d) := by
 have v0 := Dc.val_lt (d := d) (n := 4) (by omega)
 have w0 := Dc.val_nonneg (d := d) (n := 4) (by omega)
 have v1 := Dc.val_lt (d := d.next.next) (n := 2) (by omega)
 have w1 := Dc.val_nonneg (d := d.next.next) (n := 2) (by omega)
 have v2 := Dc.val_lt (d := schI d) (n := 2) (by omega)
 have w2 := Dc.val_nonneg (d := schI d) (n := 2) (by omega)
 unfold schV
 split
 ·exact die1 (by omega)
 ·split
  ·exact die2 (by omega) (by omega)
  ·split
   ·exact die3 (by omega) (by omega)
   ·exact die4 (by omega)
noncomputable def oddV (d : Dc) : Schm :=
 let s := schV d; let e := schD d
 if e.val 6 = 0 then ⟨e.next.val 6, s.servers, s.degree, s.group⟩ else if e.val 6 = 1 then ⟨s.kind, ([0, 1, 2, 10, 11, -1] : List Int)[(e.next.val 6).toNat]?.getD default, s.degree, s.group⟩
 else if e.val 6 = 2 then ⟨s.kind, s.servers, ([0, -1, s.servers - 1, s.servers] : List Int)[(e.next.val 4).toNat]?.getD default, s.group⟩ else if e.val 6 = 3 then ⟨s.kind, s.servers, s.degree, ([0, 1, 3, -1] : List Int)[(e.next.val 4).toNat]?.getD default⟩ else s
noncomputable def oddD (d : Dc) : Dc := if (schD d).val 6 = 0 ∨ (schD d).val 6 = 1 ∨ (schD d).val 6 = 2 ∨ (schD d).val 6 = 3 then (schD d).next.next else (schD d).next
theorem oddD_ok {d : Dc} (h : okDc d) : okDc (oddD d) := by
 have h1 := schD_ok h
 have h2 := Dc.next_ok h1
 have h3 := Dc.next_ok h2
 unfold oddD
 split <;> assumption

theorem grp_bd {n g : Int} (hn : 1 ≤ n ∧ n ≤ 1024) (hg : 1 ≤ g ∧ g ≤ 10) : 1 ≤ (n + g - 1) / g ∧ (n + g - 1) / g ≤ 1024 := by
 constructor
 ·exact (Int.le_ediv_iff_mul_le (by omega)).2 (by omega)
 ·have h1 : (n + g - 1) / g * g ≤ n + g - 1 := Int.ediv_mul_le _ (by omega)
  by_cases h : (n + g - 1) / g ≤ 1024
  ·exact h
  ·exfalso
   have h2 : 1025 * g ≤ (n + g - 1) / g * g := Int.mul_le_mul_of_nonneg_right (by omega) (by omega)
   have : n ≤ 1024 := hn.2
   omega
theorem units_ok {s : Schm} {n : Int} (hs : shapeS s) (hn : 1 ≤ n ∧ n ≤ 1024) : unitsS s n = if s.kind = 3 then (n + s.group - 1) / s.group else n := by
 unfold unitsS
 rw [if_neg (by rintro (h | h); (· exact h hs); (· exact h hn))]
theorem hld_ok {s : Schm} {t : Tab} {j : Int} (hv : validS s t.p) (ht : checkT t = 0) (hn : 1 ≤ t.rows.length) (hj : 1 ≤ j ∧ j ≤ s.servers) : hldE s t j = 0 ∧ ((hldL s t j).length : Int) = unitsS s t.rows.length := by
 have hct := checkT_ok ht
 have hs := hv.1
 have hsh := hv.1
 unfold shapeS at hs
 have hn2 : 1 ≤ (t.rows.length : Int) ∧ (t.rows.length : Int) ≤ 1024 := by have := hct.2.2.2.1; omega
 rw [units_ok hsh hn2]
 unfold hldE hldL
 rw [if_neg (Classical.not_not.2 ht), if_neg (Classical.not_not.2 hv), if_neg (Classical.not_not.2 hj), if_neg (hld_no ht hv hj)]
 by_cases h3 : s.kind = 3
 ·simp only [if_pos h3]
  have hp : s.servers < t.p := hv.2.2.resolve_left (by omega)
  have e := codE_ok (p := t.p) (s := s.servers) (d := s.degree) (g := s.group) hv.2.1 (by omega) hp (by omega) (by omega) (by omega)
  have eE : holdE t.p s.servers s.degree s.group t.width t.rows j = 0 := by
   unfold holdE
   rw [if_neg (Classical.not_not.2 e), if_neg (by omega), if_neg (by have := hct.2.2.1; omega)]
   refine firstErr_none fun r hr => ?_
   obtain ⟨h5, h6⟩ := hct.2.2.2.2 r hr
   unfold rowErr
   rw [if_neg (by omega), if_neg (Classical.not_not.2 h6)]
  refine ⟨eE, ?_⟩
  unfold holdG
  rw [if_pos eE, List.length_map, grpL_len]
  unfold grpN
  rw [Int.natCast_ediv]
  congr 1 <;> omega
 ·simp only [if_neg h3]
  exact ⟨trivial, trivial⟩
end Go.Q

namespace Go.Q
open Go.Proofs
open Classical
def rDc (b : Nat) (d : Dc) : Res := rCells b 84 [dSl 1 fU8 d.xs, dInt .i64 (d.k : Nat)]
theorem dnew_spec (xs : List Int) : Spec Tryz.prog 7 [dBy xs] [] (σ := Nat) (fun _ => True) (fun b => dVal (ptr b 0)) (fun b => [rDc b ⟨xs.take 300, 0⟩]) := by
  refine spec_of_body Tryz.func7 rfl rfl (fun I F => ?_)
  refine run_seq ?_
  refine run_region ?_
  refine run_op (loc_assign rfl) rfl ?_
  refine run_nil ?_
  refine run_seq ?_
  refine run_seq ?_
  refine run_region ?_
  refine run_op (loc_move rfl) rfl ?_
  refine run_op (loc_lenBy rfl) rfl ?_
  refine run_op (loc_gtr rfl rfl) rfl ?_
  refine run_nil ?_
  refine run_cond rfl (fun h1 => ?_) (fun h1 => ?_)
  ·
   refine run_region ?_
   refine run_op (loc_move rfl) rfl ?_
   refine run_op (loc_sliceToBy rfl rfl (by omega)) rfl ?_
   refine run_op (loc_assign rfl) rfl ?_
   refine run_nil ?_
   refine run_seq ?_
   refine run_region ?_
   refine run_op (loc_move rfl) rfl ?_
   refine run_op (loc_build (.one rfl rfl rfl (.nil))) rfl ?_
   refine run_new (loc_boxOwnN rfl) rfl (fun b2 _ => ?_)
   refine run_op (loc_assign rfl) rfl ?_
   refine run_nil ?_
   refine run_ret (b2) Tryz.func7 rfl rfl ?_ (trivial) (fun _ _ h => h)
   exact fun _ _ h => h
  ·
   refine run_recast (s := 0) rfl (dBy_sl (by omega)) ?_
   refine run_skip ?_
   refine run_seq ?_
   refine run_region ?_
   refine run_op (loc_move rfl) rfl ?_
   refine run_op (loc_build (.one rfl rfl rfl (.nil))) rfl ?_
   refine run_new (loc_boxOwnN rfl) rfl (fun b3 _ => ?_)
   refine run_op (loc_assign rfl) rfl ?_
   refine run_nil ?_
   refine run_ret (b3) Tryz.func7 rfl rfl ?_ (trivial) (fun _ _ h => by rw [show xs.take 300 = xs from List.take_of_length_le (by omega)]; exact h)
   exact fun _ _ h => h
theorem pick_spec (b : Nat) (d : Dc) (n : Int) (h : okDc d) (hn : 1 ≤ n) : Spec Tryz.prog 21 [dVal (ptr b 0), dInt .i64 n] [rDc b d] (σ := Unit) (fun _ => True) (fun _ => dInt .i64 (d.val n)) (fun _ => [rDc b d.next]) := by
  refine spec_of_body Tryz.func21 rfl rfl (fun I F => ?_)
  show Run _ _ _ _ _ _ (rCells b 84 [dSl 1 fU8 d.xs, dInt .i64 (d.k : Nat)] :: F) _
  refine run_seq ?_
  have hlen := h.len
  refine run_region ?_
  refine run_op (loc_assign rfl) rfl ?_
  refine run_nil ?_
  refine run_seq ?_
  refine run_seq ?_
  refine dr_start _ (.none) [⟨[(0, none)], [], none⟩,
      ⟨[(5, some (0, false))], [0], none⟩,
      ⟨[(6, some (1, false))], [0, 1], none⟩,
      ⟨[(7, some (2, false))], [0, 1, 2], some (0, 0, false)⟩,
      ⟨[(0, none)], [], none⟩,
      ⟨[(9, some (4, false))], [4], none⟩,
      ⟨[(10, some (5, false))], [4, 5], none⟩,
      ⟨[(11, some (6, false))], [4, 5, 6], some (0, 0, false)⟩,
      ⟨[(12, some (7, false))], [4, 5, 6, 7], none⟩,
      ⟨[(8, some (3, false)), (13, some (8, false))], [0, 1, 2, 3, 4, 5, 6, 7, 8], none⟩] [_] _ rfl rfl ?_
  refine dq_pure rfl (fun s => .g rfl (.nil)) (fun s hs _ => loc_move rfl) (by exact .nil) ?_
  refine dq_pure rfl (fun s => .op rfl (.nil)) (fun s hs _ => loc_nilCheckOwn rfl) (by exact .nil) ?_
  refine dq_pure rfl (fun s => .op rfl (.nil)) (fun s hs _ => loc_fieldAddrOwn rfl) (by exact .nil) ?_
  refine dq_read rfl (fun s => .op rfl (.nil)) rfl rfl (fun s hs _ hm => loc_loadOwn1 rfl hm (by rfl)) (by exact .nil) ?_
  refine dq_pure rfl (fun s => .g rfl (.nil)) (fun s hs _ => loc_move rfl) (by exact .nil) ?_
  refine dq_pure rfl (fun s => .op rfl (.nil)) (fun s hs _ => loc_nilCheckOwn rfl) (by exact .nil) ?_
  refine dq_pure rfl (fun s => .op rfl (.nil)) (fun s hs _ => loc_fieldAddrOwn rfl) (by exact .nil) ?_
  refine dq_read rfl (fun s => .op rfl (.nil)) rfl rfl (fun s hs _ hm => loc_loadOwn1 rfl hm (by rfl)) (by exact .nil) ?_
  refine dq_pure rfl (fun s => .op rfl (.nil)) (fun s hs _ => loc_len rfl) (by exact .nil) ?_
  refine dq_pure rfl (fun s => .op rfl (.op rfl (.nil))) (fun s hs _ => loc_geq rfl rfl) (by exact .nil) ?_
  refine dq_end (rs := [_]) () rfl (fun _ => rfl) (.nil) rfl (fun _ => rfl) (fun _ _ => ?_)
  dsimp only [outG, outM, List.map, List.set, id]
  refine run_cond rfl (fun h1 => ?_) (fun h1 => ?_)
  ·
   refine run_seq ?_
   refine run_region ?_
   refine run_op (loc_assign rfl) rfl ?_
   refine run_nil ?_
   refine run_ret (()) Tryz.func21 rfl rfl ?_ (trivial) (fun _ _ h => by unfold Dc.next rDc; rw [if_neg (by omega)]; exact h)
   exact d_int (by unfold Dc.val; rw [if_neg (by omega)])
  ·
   refine run_skip ?_
   refine run_seq ?_
   refine run_region ?_
   refine run_op (loc_move rfl) rfl ?_
   refine run_op (loc_nilCheckOwn rfl) rfl ?_
   refine run_op (loc_fieldAddrOwn rfl) rfl ?_
   refine run_op (loc_loadOwn1 rfl (.here) (by rfl)) rfl ?_
   first | refine run_op (loc_add rfl rfl (by first | omega | assumption)) rfl ?_ | refine run_op (loc_addW rfl rfl) rfl ?_
   refine run_op (loc_nilCheckOwn rfl) rfl ?_
   refine run_op (loc_fieldAddrOwn rfl) rfl ?_
   refine run_store1 rfl rfl (.here) (by rfl) ?_
   refine run_nil ?_
   refine run_seq ?_
   have hx := h.byte (d.xs[((d.k : Int) + 1 - 1).toNat]?.getD default) (getD_mem (by omega))
   refine dr_start _ (.none) [⟨[(0, none)], [], none⟩,
       ⟨[(22, some (0, false))], [0], none⟩,
       ⟨[(23, some (1, false))], [0, 1], none⟩,
       ⟨[(24, some (2, false))], [0, 1, 2], some (0, 0, false)⟩,
       ⟨[(0, none)], [], none⟩,
       ⟨[(26, some (4, false))], [4], none⟩,
       ⟨[(27, some (5, false))], [4, 5], none⟩,
       ⟨[(28, some (6, false))], [4, 5, 6], some (0, 0, false)⟩,
       ⟨[(29, some (7, false))], [4, 5, 6, 7], none⟩,
       ⟨[(25, some (3, false)), (30, some (8, false))], [0, 1, 2, 3, 4, 5, 6, 7, 8], none⟩,
       ⟨[(31, some (9, false))], [0, 1, 2, 3, 4, 5, 6, 7, 8, 9], none⟩,
       ⟨[(32, some (10, false))], [0, 1, 2, 3, 4, 5, 6, 7, 8, 9, 10], none⟩,
       ⟨[(1, none)], [], none⟩,
       ⟨[(33, some (11, false)), (34, some (12, false))], [0, 1, 2, 3, 4, 5, 6, 7, 8, 9, 10, 11, 12], none⟩,
       ⟨[(35, some (13, false))], [0, 1, 2, 3, 4, 5, 6, 7, 8, 9, 10, 11, 12, 13], none⟩] [_] _ rfl rfl ?_
   refine dq_pure rfl (fun s => .g rfl (.nil)) (fun s hs _ => loc_move rfl) (by exact .nil) ?_
   refine dq_pure rfl (fun s => .op rfl (.nil)) (fun s hs _ => loc_nilCheckOwn rfl) (by exact .nil) ?_
   refine dq_pure rfl (fun s => .op rfl (.nil)) (fun s hs _ => loc_fieldAddrOwn rfl) (by exact .nil) ?_
   refine dq_read rfl (fun s => .op rfl (.nil)) rfl rfl (fun s hs _ hm => loc_loadOwn1 rfl hm (by rfl)) (by exact .nil) ?_
   refine dq_pure rfl (fun s => .g rfl (.nil)) (fun s hs _ => loc_move rfl) (by exact .nil) ?_
   refine dq_pure rfl (fun s => .op rfl (.nil)) (fun s hs _ => loc_nilCheckOwn rfl) (by exact .nil) ?_
   refine dq_pure rfl (fun s => .op rfl (.nil)) (fun s hs _ => loc_fieldAddrOwn rfl) (by exact .nil) ?_
   refine dq_read rfl (fun s => .op rfl (.nil)) rfl rfl (fun s hs _ hm => loc_loadOwn1 rfl hm (by rfl)) (by exact .nil) ?_
   first | refine dq_pure rfl (fun s => .op rfl (.nil)) (fun s hs _ => loc_sub rfl rfl (by first | omega | assumption)) (by exact .nil) ?_ | refine dq_pure rfl (fun s => .op rfl (.nil)) (fun s hs _ => loc_subW rfl rfl) (by exact .nil) ?_
   first | refine dq_pure rfl (fun s => .op rfl (.op rfl (.nil))) (fun s hs _ => loc_index rfl rfl (by first | omega | assumption)) (by exact .nil) ?_ | refine dq_pure rfl (fun s => .op rfl (.op rfl (.nil))) (fun s hs _ => loc_indexI rfl rfl (by first | omega | assumption)) (by exact .nil) ?_
   refine dq_pure rfl (fun s => .op rfl (.nil)) (fun s hs _ => loc_load1 rfl) (by exact .nil) ?_
   first | refine dq_pure rfl (fun s => .op rfl (.nil)) (fun s hs _ => loc_conv rfl (by first | omega | assumption)) (by exact .nil) ?_ | refine dq_pure rfl (fun s => .op rfl (.nil)) (fun s hs _ => loc_convW rfl) (by exact .nil) ?_
   refine dq_pure rfl (fun s => .g rfl (.nil)) (fun s hs _ => loc_move rfl) (by exact .nil) ?_
   first | refine dq_pure rfl (fun s => .op rfl (.op rfl (.nil))) (fun s hs _ => loc_rem rfl rfl (by first | omega | assumption)) (by exact .nil) ?_ | refine dq_pure rfl (fun s => .op rfl (.op rfl (.nil))) (fun s hs _ => loc_remW rfl rfl (by first | omega | assumption)) (by exact .nil) ?_
   refine dq_pure rfl (fun s => .op rfl (.nil)) (fun s hs _ => loc_assign rfl) (by exact .nil) ?_
   refine dq_end (rs := [_]) () rfl (fun _ => rfl) (.nil) rfl (fun _ => rfl) (fun _ _ => ?_)
   dsimp only [outG, outM, List.map, List.set, id]
   refine run_ret (()) Tryz.func21 rfl rfl ?_ (trivial) (fun _ _ h => by unfold Dc.next rDc; rw [if_pos (by omega)]; exact h)
   exact d_int (by unfold Dc.val; rw [if_pos (by omega)]; congr 3; omega)
end Go.Q

namespace Go.Q
open Go.Proofs
open Classical
theorem spec_some {P : Program} {f : FuncId} {Ds : List D} {Min : List Res} {σ : Type} {φ : σ → Prop} {d : σ → D} {Mout : σ → List Res} {d0 : D} {M0 : List Res} (h : Spec P f Ds Min (σ := Unit) (fun _ => True) (fun _ => d0) (fun _ => M0)) (s : σ) (hφ : φ s) (hd : d0 = d s := by rfl) (hM : M0 = Mout s := by rfl) : Spec P f Ds Min φ d Mout := by
 subst hd hM
 intro I F w vs hv hi
 refine (h I F w vs hv hi).mono ?_
 rintro e w' ⟨v, rfl, _, _, J, h1, h2, h3⟩
 exact ⟨v, rfl, s, hφ, J, h1, h2, h3⟩
theorem dfield_spec (b : Nat) (d : Dc) (h : okDc d) : Spec Tryz.prog 36 [dVal (ptr b 0)] [rDc b d] (σ := Int × Dc) (fun s => dieP s.1 ∧ okDc s.2) (fun s => dAgg [dInt .i64 s.1]) (fun s => [rDc b s.2]) := by
 refine spec_of_body Tryz.func36 rfl rfl (fun I F => ?_)
 refine run_seq ?_
 have hv0 := Dc.val_lt (d := d) (n := 4) (by omega)
 have hw0 := Dc.val_nonneg (d := d) (n := 4) (by omega)
 refine run_region ?_
 refine run_new (loc_allocOwn (by simp)) rfl (fun b1 _ => ?_)
 refine run_nil ?_
 refine run_seq ?_
 refine run_region ?_
 refine run_op (loc_buildSlice rfl rfl (.one rfl (.one rfl (.one rfl (.one rfl (.nil))))) rfl rfl) rfl ?_
 refine run_op (loc_move rfl) rfl ?_
 refine run_callM rfl (.there (.here)) (pick_spec b _ _ (by assumption) (by omega)) rfl (fun s2 hs2 => ?_)
 refine runL_recast (s := 3) rfl (d_sl (ys := [7, 11, 13, 257]) (h := fI) rfl) ?_
 first | refine run_op (loc_index rfl rfl (by first | omega | assumption | (simp; omega))) rfl ?_ | refine run_op (loc_indexI rfl rfl (by first | omega | assumption | (simp; omega))) rfl ?_
 refine run_op (loc_load1 rfl) rfl ?_
 refine run_op (loc_build (.one rfl rfl rfl (.nil))) rfl ?_
 refine run_storeN (ho := (by show OneAll [_]; infer_instance)) rfl rfl (.here) (by rfl) ?_
 refine run_nil ?_
 refine run_retG ((([7, 11, 13, 257] : List Int)[(d.val 4).toNat]?.getD default, d.next)) Tryz.func36 rfl (.cellN rfl (.here) (by rfl) (.nil)) ?_ (⟨die_get ⟨hw0, hv0⟩, Dc.next_ok h⟩) (fun _ _ h => h.sub (.cons _ (.cons_cons _ (.refl _))))
 exact fun _ _ h => h
theorem dschemeD_spec (b : Nat) (d : Dc) (h : okDc d) : Spec Tryz.prog 34 [dVal (ptr b 0)] [rDc b d] (σ := Unit) (fun _ => True) (fun _ => dSchm (schV d)) (fun _ => [rDc b (schD d)]) := by
  refine spec_of_body Tryz.func34 rfl rfl (fun I F => ?_)
  refine run_seq ?_
  refine run_region ?_
  refine run_new (loc_allocOwn (by simp)) rfl (fun b1 _ => ?_)
  refine run_nil ?_
  refine run_seq ?_
  have hv0 := Dc.val_lt (d := d) (n := 4) (by omega)
  have hw0 := Dc.val_nonneg (d := d) (n := 4) (by omega)
  have h1 := Dc.next_ok h
  have h2 := Dc.next_ok h1
  have h3 := Dc.next_ok h2
  have hif : okDc (@ite _ (¬ 3 + d.val 4 < 4) (Classical.propDecidable _) d.next.next.next d.next.next) := schI_ok h
  have hv1 := Dc.val_lt (d := d.next) (n := 3) (by omega)
  have hw1 := Dc.val_nonneg (d := d.next) (n := 3) (by omega)
  have hv2 := Dc.val_lt (d := d.next.next) (n := 2) (by omega)
  have hw2 := Dc.val_nonneg (d := d.next.next) (n := 2) (by omega)
  have hvi := Dc.val_lt (d := @ite _ (¬ 3 + d.val 4 < 4) (Classical.propDecidable _) d.next.next.next d.next.next) (n := 2) (by omega)
  have hwi := Dc.val_nonneg (d := @ite _ (¬ 3 + d.val 4 < 4) (Classical.propDecidable _) d.next.next.next d.next.next) (n := 2) (by omega)
  refine run_region ?_
  refine run_op (loc_move rfl) rfl ?_
  refine run_callM rfl (.there (.here)) (pick_spec b _ _ (by assumption) (by omega)) rfl (fun s2 hs2 => ?_)
  first | refine run_op (loc_add rfl rfl (by first | omega | assumption | (simp; omega))) rfl ?_ | refine run_op (loc_addW rfl rfl) rfl ?_
  refine run_op (loc_assign rfl) rfl ?_
  refine run_nil ?_
  refine run_seq ?_
  refine run_seq ?_
  refine run_region ?_
  refine run_op (loc_move rfl) rfl ?_
  refine run_callM rfl (.there (.here)) (pick_spec b _ _ (by assumption) (by omega)) rfl (fun s3 hs3 => ?_)
  refine run_nil ?_
  refine run_block ?_
  refine run_seq ?_
  refine run_region ?_
  refine run_op (loc_eql rfl rfl) rfl ?_
  refine run_op (loc_assign rfl) rfl ?_
  refine run_nil ?_
  refine run_cond rfl (fun h4 => ?_) (fun h4 => ?_)
  ·
   have k1 := h4
   refine run_seq ?_
   refine run_region ?_
   refine run_op (loc_move rfl) rfl ?_
   refine run_op (loc_build (.one rfl rfl rfl (.one rfl rfl rfl (.nil)))) rfl ?_
   refine run_storeN (ho := (by show OneAll [_, _, _, _]; infer_instance)) rfl rfl (.here) (by rfl) ?_
   refine run_nil ?_
   refine run_retG (()) Tryz.func34 rfl (.cellN rfl (.here) (by rfl) (.nil)) ?_ (trivial) (fun I w h => by rw [show schD d = _ by unfold schD; rw [if_pos k1]]; exact (fun _ _ h => h.sub (.cons _ (.cons_cons _ (.refl _)))) I w h)
   exact d_eq (by unfold schV; rw [if_pos k1] <;> rfl)
  ·
   have k1 := h4
   refine run_seq ?_
   refine run_region ?_
   refine run_op (loc_eql rfl rfl) rfl ?_
   refine run_op (loc_assign rfl) rfl ?_
   refine run_nil ?_
   refine run_cond rfl (fun h5 => ?_) (fun h5 => ?_)
   ·
    have k2 := h5
    refine run_seq ?_
    refine run_region ?_
    refine run_op (loc_move rfl) rfl ?_
    refine run_op (loc_move rfl) rfl ?_
    refine run_callM rfl (.there (.here)) (pick_spec b _ _ (by assumption) (by omega)) rfl (fun s6 hs6 => ?_)
    first | refine run_op (loc_add rfl rfl (by first | omega | assumption | (simp; omega))) rfl ?_ | refine run_op (loc_addW rfl rfl) rfl ?_
    refine run_op (loc_build (.one rfl rfl rfl (.one rfl rfl rfl (.one rfl rfl rfl (.nil))))) rfl ?_
    refine run_storeN (ho := (by show OneAll [_, _, _, _]; infer_instance)) rfl rfl (.here) (by rfl) ?_
    refine run_nil ?_
    refine run_retG (()) Tryz.func34 rfl (.cellN rfl (.here) (by rfl) (.nil)) ?_ (trivial) (fun I w h => by rw [show schD d = _ by unfold schD; rw [if_neg k1, if_pos k2]]; exact (fun _ _ h => h.sub (.cons _ (.cons_cons _ (.refl _)))) I w h)
    exact d_eq (by unfold schV; rw [if_neg k1, if_pos k2] <;> rfl)
   ·
    have k2 := h5
    refine run_skip ?_
    refine run_inBlock ?_
    refine run_seq ?_
    refine run_seq ?_
    refine run_region ?_
    refine run_op (loc_move rfl) rfl ?_
    refine run_op (loc_lss rfl rfl) rfl ?_
    refine run_op (loc_move rfl) rfl ?_
    refine run_gfirst rfl rfl gdI.ok (fun hg => loc_move rfl) rfl ?_
    refine run_gopM (rDc b) rfl rfl gdI.ok (fun hg => loc_callM (pick_spec b _ _ (by assumption) (by omega)) rfl) rfl (.there (.here)) ?_
    refine run_gop rfl rfl gdI.ok (fun hg => loc_eql rfl rfl) rfl ?_
    refine run_gleave ?_
    refine run_op (loc_or rfl rfl) rfl ?_
    refine run_nil ?_
    refine run_cond rfl (fun h7 => ?_) (fun h7 => ?_)
    ·
     have k3 := h7
     refine run_seq ?_
     refine run_region ?_
     refine run_op (loc_move rfl) rfl ?_
     refine run_op (loc_move rfl) rfl ?_
     refine run_callM rfl (.there (.here)) (pick_spec b _ _ (by assumption) (by omega)) rfl (fun s8 hs8 => ?_)
     first | refine run_op (loc_add rfl rfl (by first | omega | assumption | (simp; omega))) rfl ?_ | refine run_op (loc_addW rfl rfl) rfl ?_
     refine run_op (loc_build (.one rfl rfl rfl (.one rfl rfl rfl (.one rfl rfl rfl (.one rfl rfl rfl (.nil)))))) rfl ?_
     refine run_storeN (ho := (by show OneAll [_, _, _, _]; infer_instance)) rfl rfl (.here) (by rfl) ?_
     refine run_nil ?_
     refine run_retG (()) Tryz.func34 rfl (.cellN rfl (.here) (by rfl) (.nil)) ?_ (trivial) (fun I w h => by rw [show schD d = _ by unfold schD; rw [if_neg k1, if_neg k2, if_pos k3]]; exact (fun _ _ h => h.sub (.cons _ (.cons_cons _ (.refl _)))) I w h)
     exact d_eq (by unfold schV; rw [if_neg k1, if_neg k2, if_pos k3] <;> rfl)
    ·
     have k3 := h7
     refine run_skip ?_
     refine run_seq ?_
     refine run_region ?_
     refine run_op (loc_move rfl) rfl ?_
     refine run_op (loc_build (.one rfl rfl rfl (.one rfl rfl rfl (.one rfl rfl rfl (.one rfl rfl rfl (.nil)))))) rfl ?_
     refine run_storeN (ho := (by show OneAll [_, _, _, _]; infer_instance)) rfl rfl (.here) (by rfl) ?_
     refine run_nil ?_
     refine run_retG (()) Tryz.func34 rfl (.cellN rfl (.here) (by rfl) (.nil)) ?_ (trivial) (fun I w h => by rw [show schD d = _ by unfold schD; rw [if_neg k1, if_neg k2, if_neg k3]]; exact (fun _ _ h => h.sub (.cons _ (.cons_cons _ (.refl _)))) I w h)
     exact d_eq (by unfold schV; rw [if_neg k1, if_neg k2, if_neg k3] <;> rfl)
theorem dscheme_spec (b : Nat) (d : Dc) (h : okDc d) : Spec Tryz.prog 34 [dVal (ptr b 0)] [rDc b d] (σ := Schm × Dc) (fun s => dieS s.1 ∧ okDc s.2) (fun s => dSchm s.1) (fun s => [rDc b s.2]) :=
 spec_some (dschemeD_spec b d h) (schV d, schD d) ⟨schV_die d, schD_ok h⟩
theorem doddD_spec (b : Nat) (d : Dc) (h : okDc d) : Spec Tryz.prog 17 [dVal (ptr b 0)] [rDc b d] (σ := Unit) (fun _ => True) (fun _ => dSchm (oddV d)) (fun _ => [rDc b (oddD d)]) := by
  refine spec_of_body Tryz.func17 rfl rfl (fun I F => ?_)
  refine run_seq ?_
  refine run_region ?_
  refine run_new (loc_allocOwn (by simp)) rfl (fun b2 _ => ?_)
  refine run_nil ?_
  refine run_seq ?_
  refine run_region ?_
  refine run_op (loc_move rfl) rfl ?_
  refine run_callM rfl (.there (.here)) (dschemeD_spec b _ (by assumption)) rfl (fun s1 hs1 => ?_)
  refine run_new (loc_allocOwn (by simp)) rfl (fun b3 _ => ?_)
  refine run_storeN (ho := (by show OneAll [_, _, _, _]; infer_instance)) rfl rfl (.here) (by rfl) ?_
  refine run_nil ?_
  have hx5b := schD_ok h
  have hx5c := Dc.next_ok hx5b
  have hv6 := Dc.val_lt (d := (schD d).next) (n := 6) (by omega)
  have hw6 := Dc.val_nonneg (d := (schD d).next) (n := 6) (by omega)
  have hsv := (schV_die d).2
  have hv4 := Dc.val_lt (d := (schD d).next) (n := 4) (by omega)
  have hw4 := Dc.val_nonneg (d := (schD d).next) (n := 4) (by omega)
  refine run_seq ?_
  refine run_seq ?_
  refine run_region ?_
  refine run_op (loc_move rfl) rfl ?_
  refine run_callM rfl (.there (.there (.here))) (pick_spec b _ _ (by assumption) (by omega)) rfl (fun s2 hs2 => ?_)
  refine run_nil ?_
  refine run_joinE (σ := Schm × Dc) (ks := [2, 3]) (.cons rfl (.cons rfl (.nil))) (fun s => []) (fun s => rCells b3 27 (cSchm s.1) :: rCells b2 27 (cSchm ⟨0, 0, 0, 0⟩) :: rDc b s.2 :: F) (fun s => s = (oddV d, oddD d)) (fun j3 => ?_) ?_
  ·
   refine run_block ?_
   refine run_seq ?_
   refine run_region ?_
   refine run_op (loc_eql rfl rfl) rfl ?_
   refine run_op (loc_assign rfl) rfl ?_
   refine run_nil ?_
   refine run_cond rfl (fun h4 => ?_) (fun h4 => ?_)
   ·
    have k1 := h4
    refine run_region ?_
    refine run_op (loc_move rfl) rfl ?_
    refine run_callM rfl (.there (.there (.here))) (pick_spec b _ _ (by assumption) (by omega)) rfl (fun s5 hs5 => ?_)
    refine run_op (loc_fieldAddrOwn rfl) rfl ?_
    refine run_store1 rfl rfl (.here) (by rfl) ?_
    refine run_nil ?_
    refine run_inBlock ?_
    exact run_atE j3 ((⟨(schD d).next.val 6, (schV d).servers, (schV d).degree, (schV d).group⟩, (schD d).next.next)) (Prod.ext (by unfold oddV; simp only [if_pos k1]) (by unfold oddD; rw [if_pos (.inl k1)])) (rfl) (.nil) (.cons rfl (fun _ _ x => x) (.cons rfl (fun _ _ x => x) (.nil)))
   ·
    have k1 := h4
    refine run_seq ?_
    refine run_region ?_
    refine run_op (loc_eql rfl rfl) rfl ?_
    refine run_op (loc_assign rfl) rfl ?_
    refine run_nil ?_
    refine run_cond rfl (fun h6 => ?_) (fun h6 => ?_)
    ·
     have k2 := h6
     refine run_region ?_
     refine run_op (loc_buildSlice rfl rfl (.one rfl (.one rfl (.one rfl (.one rfl (.one rfl (.one rfl (.nil))))))) rfl rfl) rfl ?_
     refine run_op (loc_move rfl) rfl ?_
     refine run_callM rfl (.there (.there (.here))) (pick_spec b _ _ (by assumption) (by omega)) rfl (fun s7 hs7 => ?_)
     refine runL_recast (s := 15) rfl (d_sl (ys := [0, 1, 2, 10, 11, -1]) (h := fI) rfl) ?_
     first | refine run_op (loc_index rfl rfl (by first | omega | assumption | (simp; omega))) rfl ?_ | refine run_op (loc_indexI rfl rfl (by first | omega | assumption | (simp; omega))) rfl ?_
     refine run_op (loc_load1 rfl) rfl ?_
     refine run_op (loc_fieldAddrOwn rfl) rfl ?_
     refine run_store1 rfl rfl (.here) (by rfl) ?_
     refine run_nil ?_
     refine run_inBlock ?_
     exact run_atE j3 ((⟨(schV d).kind, ([0, 1, 2, 10, 11, -1] : List Int)[((schD d).next.val 6).toNat]?.getD default, (schV d).degree, (schV d).group⟩, (schD d).next.next)) (Prod.ext (by unfold oddV; simp only [if_neg k1, if_pos k2]) (by unfold oddD; rw [if_pos (.inr (.inl k2))])) (rfl) (.nil) (.cons rfl (fun _ _ x => x) (.cons rfl (fun _ _ x => x) (.nil)))
    ·
     have k2 := h6
     refine run_seq ?_
     refine run_region ?_
     refine run_op (loc_eql rfl rfl) rfl ?_
     refine run_op (loc_assign rfl) rfl ?_
     refine run_nil ?_
     refine run_cond rfl (fun h8 => ?_) (fun h8 => ?_)
     ·
      have k3 := h8
      refine dr_start _ (.none) [⟨[(3, none)], [], none⟩,
          ⟨[(23, some (0, false))], [0], some (0, 0, false)⟩,
          ⟨[(24, some (1, false))], [0, 1], none⟩,
          ⟨[(3, none)], [], none⟩,
          ⟨[(26, some (3, false))], [3], some (0, 0, false)⟩,
          ⟨[(25, some (2, false)), (27, some (4, false))], [0, 1, 2, 3, 4], none⟩,
          ⟨[(0, none)], [], none⟩,
          ⟨[(29, some (6, false))], [6], some (2, 0, true)⟩,
          ⟨[(28, some (5, false)), (30, some (7, false))], [0, 1, 2, 3, 4, 5, 6, 7], none⟩,
          ⟨[(31, some (8, false))], [0, 1, 2, 3, 4, 5, 6, 7, 8], none⟩,
          ⟨[(3, none)], [0, 1, 2, 3, 4, 5, 6, 7, 8, 9], none⟩,
          ⟨[(33, some (10, false)), (32, some (9, false))], [0, 1, 2, 3, 4, 5, 6, 7, 8, 9, 10], some (0, 0, true)⟩] [_, _, _] _ rfl rfl ?_
      refine dq_pure rfl (fun s => .g rfl (.nil)) (fun s hs _ => loc_fieldAddrOwn rfl) (by exact .nil) ?_
      refine dq_read rfl (fun s => .op rfl (.nil)) rfl rfl (fun s hs _ hm => loc_loadOwn1 rfl hm (by rfl)) (by exact .nil) ?_
      first | refine dq_pure rfl (fun s => .op rfl (.nil)) (fun s hs _ => loc_sub rfl rfl (by first | omega | assumption | (simp; omega))) (by exact .nil) ?_ | refine dq_pure rfl (fun s => .op rfl (.nil)) (fun s hs _ => loc_subW rfl rfl) (by exact .nil) ?_
      refine dq_pure rfl (fun s => .g rfl (.nil)) (fun s hs _ => loc_fieldAddrOwn rfl) (by exact .nil) ?_
      refine dq_read rfl (fun s => .op rfl (.nil)) rfl rfl (fun s hs _ hm => loc_loadOwn1 rfl hm (by rfl)) (by exact .nil) ?_
      refine dq_pure rfl (fun s => .op rfl (.op rfl (.nil))) (fun s hs _ => LocP.imp (loc_buildSlice rfl rfl (.one rfl (.one rfl (.one rfl (.one rfl (.nil))))) rfl rfl) (d_sl (ys := [0, -1, (schV d).servers - 1, (schV d).servers]) (h := fI) rfl)) (by exact .nil) ?_
      refine dq_pure rfl (fun s => .g rfl (.nil)) (fun s hs _ => loc_move rfl) (by exact .nil) ?_
      refine dq_write rfl (fun s => .op rfl (.nil)) rfl rfl (fun s hs => loc_callM (pick_spec b _ _ (by assumption) (by omega)) rfl) (by exact .nil) ?_
      first | refine dq_pure rfl (fun s => .op rfl (.op rfl (.nil))) (fun s hs _ => loc_index rfl rfl (by first | omega | assumption | (simp; omega))) (by exact .nil) ?_ | refine dq_pure rfl (fun s => .op rfl (.op rfl (.nil))) (fun s hs _ => loc_indexI rfl rfl (by first | omega | assumption | (simp; omega))) (by exact .nil) ?_
      refine dq_pure rfl (fun s => .op rfl (.nil)) (fun s hs _ => loc_load1 rfl) (by exact .nil) ?_
      refine dq_pure rfl (fun s => .g rfl (.nil)) (fun s hs _ => loc_fieldAddrOwn rfl) (by exact .nil) ?_
      refine dq_write0 rfl (fun s => .op rfl (.op rfl (.nil))) rfl rfl (fun s hs => loc_store1 rfl rfl rfl) (by exact .nil) ?_
      refine dq_end (rs := [_, _, _]) () rfl (fun _ => rfl) (.nil) rfl (fun _ => rfl) (fun _ _ => ?_)
      dsimp only [outG, outM, List.map, List.set, id]
      refine run_inBlock ?_
      exact run_atE j3 ((⟨(schV d).kind, (schV d).servers, ([0, -1, (schV d).servers - 1, (schV d).servers] : List Int)[((schD d).next.val 4).toNat]?.getD default, (schV d).group⟩, (schD d).next.next)) (Prod.ext (by unfold oddV; simp only [if_neg k1, if_neg k2, if_pos k3]) (by unfold oddD; rw [if_pos (.inr (.inr (.inl k3)))])) (rfl) (.nil) (.cons rfl (fun _ _ x => x) (.cons rfl (fun _ _ x => x) (.nil)))
     ·
      have k3 := h8
      refine run_seq ?_
      refine run_region ?_
      refine run_op (loc_eql rfl rfl) rfl ?_
      refine run_op (loc_assign rfl) rfl ?_
      refine run_nil ?_
      refine run_cond rfl (fun h9 => ?_) (fun h9 => ?_)
      ·
       have k4 := h9
       refine run_region ?_
       refine run_op (loc_buildSlice rfl rfl (.one rfl (.one rfl (.one rfl (.one rfl (.nil))))) rfl rfl) rfl ?_
       refine run_op (loc_move rfl) rfl ?_
       refine run_callM rfl (.there (.there (.here))) (pick_spec b _ _ (by assumption) (by omega)) rfl (fun s10 hs10 => ?_)
       refine runL_recast (s := 36) rfl (d_sl (ys := [0, 1, 3, -1]) (h := fI) rfl) ?_
       first | refine run_op (loc_index rfl rfl (by first | omega | assumption | (simp; omega))) rfl ?_ | refine run_op (loc_indexI rfl rfl (by first | omega | assumption | (simp; omega))) rfl ?_
       refine run_op (loc_load1 rfl) rfl ?_
       refine run_op (loc_fieldAddrOwn rfl) rfl ?_
       refine run_store1 rfl rfl (.here) (by rfl) ?_
       refine run_nil ?_
       refine run_inBlock ?_
       exact run_atE j3 ((⟨(schV d).kind, (schV d).servers, (schV d).degree, ([0, 1, 3, -1] : List Int)[((schD d).next.val 4).toNat]?.getD default⟩, (schD d).next.next)) (Prod.ext (by unfold oddV; simp only [if_neg k1, if_neg k2, if_neg k3, if_pos k4]) (by unfold oddD; rw [if_pos (.inr (.inr (.inr k4)))])) (rfl) (.nil) (.cons rfl (fun _ _ x => x) (.cons rfl (fun _ _ x => x) (.nil)))
      ·
       have k4 := h9
       refine run_skip ?_
       refine run_inBlock ?_
       exact run_atE j3 ((schV d, (schD d).next)) (Prod.ext (by unfold oddV; simp only [if_neg k1, if_neg k2, if_neg k3, if_neg k4]) (by unfold oddD; rw [if_neg (by omega)])) (rfl) (.nil) (.cons rfl (fun _ _ x => x) (.cons rfl (fun _ _ x => x) (.nil)))
  rintro s rfl
  refine run_seq ?_
  refine run_region ?_
  refine run_op (loc_loadOwnN rfl (.here) (by rfl)) rfl ?_
  refine run_storeN (ho := (by show OneAll [_, _, _, _]; infer_instance)) rfl rfl (.there (.here)) (by rfl) ?_
  refine run_nil ?_
  refine run_retG (()) Tryz.func17 rfl (.cellN rfl (.there (.here)) (by rfl) (.nil)) ?_ (trivial) (fun _ _ h => h.sub (.cons _ (.cons _ (.cons_cons _ (.refl _)))))
  exact fun _ _ h => h
theorem delements_spec (b : Nat) (d : Dc) (h : okDc d) (p n : Int) (hp : 2 ≤ p ∧ p ≤ 65521) (hn : n ≤ 100000) : Spec Tryz.prog 48 [dVal (ptr b 0), dAgg [dInt .i64 p], dInt .i64 n] [rDc b d] (σ := List Int × Dc) (fun s => (s.1.length = n.toNat ∧ ∀ x ∈ s.1, hasP p x) ∧ okDc s.2) (fun s => dInts s.1) (fun s => [rDc b s.2]) := by
  refine spec_of_body Tryz.func48 rfl rfl (fun I F => ?_)
  refine run_seq ?_
  refine run_region ?_
  refine run_op (loc_boxN rfl) rfl ?_
  refine run_op (loc_assign rfl) rfl ?_
  refine run_nil ?_
  refine run_seq ?_
  refine run_region ?_
  refine run_op (loc_assign rfl) rfl ?_
  refine run_nil ?_
  refine run_seq ?_
  refine run_seq ?_
  refine run_region ?_
  refine run_op (loc_assign rfl) rfl ?_
  refine run_nil ?_
  refine run_block ?_
  refine run_rowNil 3 1 fI ?_
  refine run_loopF (σ := Value × List Int × Dc) (ks := [0, 2, 4]) (.cons rfl (.cons rfl (.cons rfl (.nil)))) (fun q => [(7, dVal q.1), (8, dInt .i64 (q.2.1.length : Nat))]) (fun q => [rRow q.1 3 1 fI q.2.1, rDc b q.2.2]) (fun q => q.2.1.length ≤ n.toNat ∧ (∀ x ∈ q.2.1, hasP p x) ∧ okDc q.2.2) (fun q => n.toNat - q.2.1.length) ((.slice none 0 0, [], d)) (⟨Nat.zero_le _, fun x hx => (by cases hx), h⟩) (.cons rfl (by first | exact fun _ _ h => h | exact d_int (by omega) | exact d_int (by simp) | exact d_intN (by omega) | exact d_any) (.cons rfl (d_int rfl) .nil)) (rfl) ?_
  rintro q ⟨hl, hall, hok⟩ ih1
  have hok1 := Dc.next_ok hok
  have hv0 := Dc.val_lt (d := q.2.2) (n := 256) (by omega)
  have hw0 := Dc.val_nonneg (d := q.2.2) (n := 256) (by omega)
  have hv1 := Dc.val_lt (d := q.2.2.next) (n := 2) (by omega)
  have hw1 := Dc.val_nonneg (d := q.2.2.next) (n := 2) (by omega)
  have hxb := mod_bd (q.2.2.val 256 + q.2.2.next.val 2 * 128) (show 0 < p by omega)
  refine run_seq ?_
  refine run_seq ?_
  refine run_region ?_
  refine run_op (loc_move rfl) rfl ?_
  refine run_op (loc_move rfl) rfl ?_
  refine run_op (loc_lss rfl rfl) rfl ?_
  refine run_nil ?_
  refine run_cond rfl (fun h2 => ?_) (fun h2 => ?_)
  ·
   refine run_skip ?_
   refine run_seq ?_
   refine run_block ?_
   refine dr_start _ (.one (σ := Value) 11 (fun _ => True)) [⟨[(7, none)], [], none⟩,
       ⟨[(0, none)], [], none⟩,
       ⟨[(15, some (1, false))], [1], some (1, 0, true)⟩,
       ⟨[(0, none)], [], none⟩,
       ⟨[(17, some (3, false))], [1, 2, 3], some (1, 1, true)⟩,
       ⟨[(18, some (4, false))], [1, 2, 3, 4], none⟩,
       ⟨[(16, some (2, false)), (19, some (5, false))], [1, 2, 3, 4, 5], none⟩,
       ⟨[(4, none)], [], none⟩,
       ⟨[(21, some (7, false))], [7], none⟩,
       ⟨[(20, some (6, false)), (22, some (8, false))], [1, 2, 3, 4, 5, 6, 7, 8], none⟩,
       ⟨[(23, some (9, false))], [1, 2, 3, 4, 5, 6, 7, 8, 9], none⟩,
       ⟨[(14, some (0, false)), (24, some (10, false))], [0, 1, 2, 3, 4, 5, 6, 7, 8, 9, 10], some (0, 0, true)⟩,
       ⟨[(25, some (11, false))], [0, 1, 2, 3, 4, 5, 6, 7, 8, 9, 10, 11], none⟩] [_, _] _ rfl rfl ?_
   refine dq_pure rfl (fun s => .g rfl (.nil)) (fun s hs _ => loc_move rfl) (by exact .cons (.inr fun _ _ _ => rfl) (.nil)) ?_
   refine dq_pure rfl (fun s => .g rfl (.nil)) (fun s hs _ => loc_move rfl) (by exact .cons (.inr fun _ _ _ => rfl) (.nil)) ?_
   refine dq_write rfl (fun s => .op rfl (.nil)) rfl rfl (fun s hs => loc_callM (pick_spec b _ _ (by assumption) (by omega)) rfl) (by exact .cons (.inr fun _ _ _ => ⟨rfl, rfl⟩) (.nil)) ?_
   refine dq_pure rfl (fun s => .g rfl (.nil)) (fun s hs _ => loc_move rfl) (by exact .cons (.inr fun _ _ _ => rfl) (.nil)) ?_
   refine dq_write rfl (fun s => .op rfl (.nil)) rfl rfl (fun s hs => loc_callM (pick_spec b _ _ (by assumption) (by omega)) rfl) (by exact .cons (.inr fun _ _ _ => ⟨rfl, rfl⟩) (.nil)) ?_
   first | refine dq_pure rfl (fun s => .op rfl (.nil)) (fun s hs _ => loc_mul rfl rfl (by first | omega | assumption | (simp; omega))) (by exact .cons (.inr fun _ _ _ => rfl) (.nil)) ?_ | refine dq_pure rfl (fun s => .op rfl (.nil)) (fun s hs _ => loc_mulW rfl rfl) (by exact .cons (.inr fun _ _ _ => rfl) (.nil)) ?_
   first | refine dq_pure rfl (fun s => .op rfl (.op rfl (.nil))) (fun s hs _ => loc_add rfl rfl (by first | omega | assumption | (simp; omega))) (by exact .cons (.inr fun _ _ _ => rfl) (.nil)) ?_ | refine dq_pure rfl (fun s => .op rfl (.op rfl (.nil))) (fun s hs _ => loc_addW rfl rfl) (by exact .cons (.inr fun _ _ _ => rfl) (.nil)) ?_
   refine dq_pure rfl (fun s => .g rfl (.nil)) (fun s hs _ => loc_fieldAddr rfl) (by exact .cons (.inr fun _ _ _ => rfl) (.nil)) ?_
   refine dq_pure rfl (fun s => .op rfl (.nil)) (fun s hs _ => loc_load1 rfl) (by exact .cons (.inr fun _ _ _ => rfl) (.nil)) ?_
   first | refine dq_pure rfl (fun s => .op rfl (.op rfl (.nil))) (fun s hs _ => loc_rem rfl rfl (by first | omega | assumption | (simp; omega))) (by exact .cons (.inr fun _ _ _ => rfl) (.nil)) ?_ | refine dq_pure rfl (fun s => .op rfl (.op rfl (.nil))) (fun s hs _ => loc_remW rfl rfl (by first | omega | assumption | (simp; omega))) (by exact .cons (.inr fun _ _ _ => rfl) (.nil)) ?_
   refine dq_pure rfl (fun s => .op rfl (.nil)) (fun s hs _ => loc_buildSlice rfl rfl (.one rfl (.nil)) rfl rfl) (by exact .cons (.inr fun _ _ _ => rfl) (.nil)) ?_
   refine dq_choose id (fun _ t => t) rfl (fun _ _ => ⟨rfl, id, trivial⟩) (fun s => .op rfl (.op rfl (.nil))) rfl rfl (fun s hs => loc_append1 _ rfl rfl rfl rfl (by first | omega | (simp [lenMax]; omega) | (simp [lenMax]; done) | assumption) (by first | omega | (simp [lenMax]; omega) | (simp [lenMax]; done) | assumption)) (by exact .cons (.inl rfl) (.nil)) (fun _ _ => rfl) ?_
   refine dq_pure rfl (fun s => .op rfl (.nil)) (fun s hs _ => loc_assign rfl) (by exact .cons (.inl rfl) (.nil)) ?_
   refine dq_end (rs := [_, _]) (.bool true) rfl (fun _ => rfl) (.cons rfl (.nil)) rfl (fun _ => rfl) (fun v3 _ => ?_)
   dsimp only [outG, outM, List.map, List.set, id]
   refine run_inBlock ?_
   refine run_region ?_
   refine run_op (loc_move rfl) rfl ?_
   first | refine run_op (loc_add rfl rfl (by first | omega | assumption | (simp; omega))) rfl ?_ | refine run_op (loc_addW rfl rfl) rfl ?_
   refine run_op (loc_assign rfl) rfl ?_
   refine run_nil ?_
   exact run_againF ih1 ((v3, q.2.1 ++ [(q.2.2.val 256 + q.2.2.next.val 2 * 128) % p], q.2.2.next.next)) (⟨by simp only [List.length_append, List.length_singleton]; omega, fun x hx => by rcases List.mem_append.1 hx with hx | hx; (· exact hall x hx); (· rw [List.mem_singleton.1 hx]; exact hxb), Dc.next_ok hok1⟩) (by simp only [List.length_append, List.length_singleton]; omega) (.cons rfl (by first | exact fun _ _ h => h | exact d_int (by omega) | exact d_int (by simp) | exact d_intN (by omega) | exact d_any) (.cons rfl (d_int (by simp only [List.length_append, List.length_singleton]; omega)) .nil)) (.cons rfl (fun _ _ x => x) (.cons rfl (fun _ _ x => x) (.cons rfl (fun _ _ x => x) (.nil)))) (rfl)
  ·
   refine run_exit rfl ?_
   refine run_seq ?_
   refine run_freezeRow (s := 7) rfl (.here) ?_
   refine run_region ?_
   refine run_op (loc_move rfl) rfl ?_
   refine run_op (loc_assign rfl) rfl ?_
   refine run_nil ?_
   refine run_ret (q.2) Tryz.func48 rfl rfl ?_ (⟨⟨by omega, hall⟩, hok⟩) (fun _ _ h => h.sub (.cons_cons _ (.refl _)))
   exact fun _ _ h => h
theorem drows_spec (b : Nat) (d : Dc) (h : okDc d) (p n w : Int) (hp : 2 ≤ p ∧ p ≤ 65521) (hn : n ≤ 100000) (hw : w ≤ 100000) : Spec Tryz.prog 78 [dVal (ptr b 0), dAgg [dInt .i64 p], dInt .i64 n, dInt .i64 w] [rDc b d] (σ := List (List Int) × Dc) (fun s => (s.1.length = n.toNat ∧ ∀ r ∈ s.1, r.length = w.toNat ∧ ∀ x ∈ r, hasP p x) ∧ okDc s.2) (fun s => dRows s.1) (fun s => [rDc b s.2]) := by
  refine spec_of_body Tryz.func78 rfl rfl (fun I F => ?_)
  refine run_seq ?_
  refine run_region ?_
  refine run_op (loc_boxN rfl) rfl ?_
  refine run_op (loc_assign rfl) rfl ?_
  refine run_nil ?_
  refine run_seq ?_
  refine run_region ?_
  refine run_op (loc_assign rfl) rfl ?_
  refine run_nil ?_
  refine run_seq ?_
  refine run_seq ?_
  refine run_region ?_
  refine run_op (loc_assign rfl) rfl ?_
  refine run_nil ?_
  refine run_block ?_
  refine run_rowNil 44 1 fR ?_
  refine run_loopF (σ := Value × List (List Int) × Dc) (ks := [0, 2, 3, 5]) (.cons rfl (.cons rfl (.cons rfl (.cons rfl (.nil))))) (fun q => [(9, dVal q.1), (10, dInt .i64 (q.2.1.length : Nat))]) (fun q => [rRow q.1 44 1 fR q.2.1, rDc b q.2.2]) (fun q => q.2.1.length ≤ n.toNat ∧ (∀ r ∈ q.2.1, r.length = w.toNat ∧ ∀ x ∈ r, hasP p x) ∧ okDc q.2.2) (fun q => n.toNat - q.2.1.length) ((.slice none 0 0, [], d)) (⟨Nat.zero_le _, fun x hx => (by cases hx), h⟩) (.cons rfl (by first | exact fun _ _ h => h | exact d_int (by omega) | exact d_int (by simp) | exact d_intN (by omega) | exact d_any) (.cons rfl (d_int rfl) .nil)) (rfl) ?_
  rintro q ⟨hl, hall, hok⟩ ih1
  refine run_seq ?_
  refine run_seq ?_
  refine run_region ?_
  refine run_op (loc_move rfl) rfl ?_
  refine run_op (loc_move rfl) rfl ?_
  refine run_op (loc_lss rfl rfl) rfl ?_
  refine run_nil ?_
  refine run_cond rfl (fun h2 => ?_) (fun h2 => ?_)
  ·
   refine run_skip ?_
   refine run_seq ?_
   refine run_block ?_
   refine run_region ?_
   refine run_op (loc_move rfl) rfl ?_
   refine run_op (loc_move rfl) rfl ?_
   refine run_op (loc_loadN rfl rfl) rfl ?_
   refine run_op (loc_move rfl) rfl ?_
   refine run_callM rfl (.there (.here)) (delements_spec b _ (by assumption) p w hp hw) rfl (fun x20 hx20 => ?_)
   refine run_op (loc_buildSlice rfl rfl (.one rfl (.nil)) rfl rfl) rfl ?_
   refine run_append1 rfl (.here) rfl (by rfl) (by rfl) (by first | omega | (simp [lenMax]; omega) | (simp [lenMax]; done) | assumption) (by first | omega | (simp [lenMax]; omega) | (simp [lenMax]; done) | assumption) rfl (fun v3 => ?_)
   refine run_op (loc_assign rfl) rfl ?_
   refine run_nil ?_
   refine run_inBlock ?_
   refine run_region ?_
   refine run_op (loc_move rfl) rfl ?_
   first | refine run_op (loc_add rfl rfl (by first | omega | assumption | (simp; omega))) rfl ?_ | refine run_op (loc_addW rfl rfl) rfl ?_
   refine run_op (loc_assign rfl) rfl ?_
   refine run_nil ?_
   exact run_againF ih1 ((v3, q.2.1 ++ [x20.1], x20.2)) (⟨by simp only [List.length_append, List.length_singleton]; omega, fun x hx => by rcases List.mem_append.1 hx with hx | hx; (· exact hall x hx); (· rw [List.mem_singleton.1 hx]; exact hx20.1), hx20.2⟩) (by simp only [List.length_append, List.length_singleton]; omega) (.cons rfl (by first | exact fun _ _ h => h | exact d_int (by omega) | exact d_int (by simp) | exact d_intN (by omega) | exact d_any) (.cons rfl (d_int (by simp only [List.length_append, List.length_singleton]; omega)) .nil)) (.cons rfl (fun _ _ x => x) (.cons rfl (fun _ _ x => x) (.cons rfl (fun _ _ x => x) (.cons rfl (fun _ _ x => x) (.nil))))) (rfl)
  ·
   refine run_exit rfl ?_
   refine run_seq ?_
   refine run_freezeRow (s := 9) rfl (.here) ?_
   refine run_region ?_
   refine run_op (loc_move rfl) rfl ?_
   refine run_op (loc_assign rfl) rfl ?_
   refine run_nil ?_
   refine run_ret (q.2) Tryz.func78 rfl rfl ?_ (⟨⟨by omega, hall⟩, hok⟩) (fun _ _ h => h.sub (.cons_cons _ (.refl _)))
   exact fun _ _ h => h
theorem dtable_spec (b : Nat) (d : Dc) (h : okDc d) (p : Int) (hp : dieP p) : Spec Tryz.prog 35 [dVal (ptr b 0), dAgg [dInt .i64 p]] [rDc b d] (σ := Tab × Dc) (fun s => dieT p s.1 ∧ okDc s.2) (fun s => dTab s.1) (fun s => [rDc b s.2]) := by
 refine spec_of_body Tryz.func35 rfl rfl (fun I F => ?_)
 refine run_seq ?_
 refine run_region ?_
 refine run_op (loc_boxN rfl) rfl ?_
 refine run_new (loc_allocOwn (by simp)) rfl (fun b1 _ => ?_)
 refine run_nil ?_
 refine run_seq ?_
 have hpb := (dieP_ok hp).2
 have h1 := Dc.next_ok h
 have h2 := Dc.next_ok h1
 have h3 := Dc.next_ok h2
 have hv0 := Dc.val_lt (d := d) (n := 3) (by omega)
 have hw0 := Dc.val_nonneg (d := d) (n := 3) (by omega)
 have hv1 := Dc.val_lt (d := d.next) (n := 3) (by omega)
 have hw1 := Dc.val_nonneg (d := d.next) (n := 3) (by omega)
 have hv2 := Dc.val_lt (d := d.next.next) (n := 5) (by omega)
 have hw2 := Dc.val_nonneg (d := d.next.next) (n := 5) (by omega)
 refine run_region ?_
 refine run_op (loc_move rfl) rfl ?_
 refine run_callM rfl (.there (.here)) (pick_spec b _ _ (by assumption) (by omega)) rfl (fun s2 hs2 => ?_)
 first | refine run_op (loc_add rfl rfl (by first | omega | assumption | (simp; omega))) rfl ?_ | refine run_op (loc_addW rfl rfl) rfl ?_
 refine run_op (loc_assign rfl) rfl ?_
 refine run_nil ?_
 refine run_seq ?_
 refine dr_start _ (.one (σ := List (List Int) × Dc) 11 (fun s => (s.1.length = (1 + d.next.next.val 5).toNat ∧ ∀ r ∈ s.1, r.length = (1 + d.val 3).toNat ∧ ∀ x ∈ r, hasP p x) ∧ okDc s.2)) [⟨[(0, none)], [], none⟩,
   ⟨[(9, some (0, false))], [0], some (1, 0, true)⟩,
   ⟨[(10, some (1, false))], [0, 1], none⟩,
   ⟨[(3, none)], [], none⟩,
   ⟨[(5, none)], [], none⟩,
   ⟨[(0, none)], [], none⟩,
   ⟨[(3, none)], [], none⟩,
   ⟨[(0, none)], [], none⟩,
   ⟨[(16, some (7, false))], [0, 1, 7], some (1, 1, true)⟩,
   ⟨[(17, some (8, false))], [0, 1, 7, 8], none⟩,
   ⟨[(5, none)], [], none⟩,
   ⟨[(14, some (5, false)), (15, some (6, false)), (18, some (9, false)), (19, some (10, false))], [0, 1, 5, 6, 7, 8, 9, 10], some (1, 2, true)⟩,
   ⟨[(11, some (2, false)), (12, some (3, false)), (13, some (4, false)), (20, some (11, false))], [0, 1, 2, 3, 4, 5, 6, 7, 8, 9, 10, 11], none⟩,
   ⟨[(4, none), (21, some (12, false))], [0, 1, 2, 3, 4, 5, 6, 7, 8, 9, 10, 11, 12], some (0, 0, true)⟩] [_, _] _ rfl rfl ?_
 refine dq_pure rfl (fun s => .g rfl (.nil)) (fun s hs _ => loc_move rfl) (by exact .cons (.inr fun _ _ _ => rfl) (.nil)) ?_
 refine dq_write rfl (fun s => .op rfl (.nil)) rfl rfl (fun s hs => loc_callM (pick_spec b _ _ (by assumption) (by omega)) rfl) (by exact .cons (.inr fun _ _ _ => ⟨rfl, rfl⟩) (.nil)) ?_
 first | refine dq_pure rfl (fun s => .op rfl (.nil)) (fun s hs _ => loc_add rfl rfl (by first | omega | assumption | (simp; omega))) (by exact .cons (.inr fun _ _ _ => rfl) (.nil)) ?_ | refine dq_pure rfl (fun s => .op rfl (.nil)) (fun s hs _ => loc_addW rfl rfl) (by exact .cons (.inr fun _ _ _ => rfl) (.nil)) ?_
 refine dq_pure rfl (fun s => .g rfl (.nil)) (fun s hs _ => loc_loadN rfl rfl) (by exact .cons (.inr fun _ _ _ => rfl) (.nil)) ?_
 refine dq_pure rfl (fun s => .g rfl (.nil)) (fun s hs _ => loc_move rfl) (by exact .cons (.inr fun _ _ _ => rfl) (.nil)) ?_
 refine dq_pure rfl (fun s => .g rfl (.nil)) (fun s hs _ => loc_move rfl) (by exact .cons (.inr fun _ _ _ => rfl) (.nil)) ?_
 refine dq_pure rfl (fun s => .g rfl (.nil)) (fun s hs _ => loc_loadN rfl rfl) (by exact .cons (.inr fun _ _ _ => rfl) (.nil)) ?_
 refine dq_pure rfl (fun s => .g rfl (.nil)) (fun s hs _ => loc_move rfl) (by exact .cons (.inr fun _ _ _ => rfl) (.nil)) ?_
 refine dq_write rfl (fun s => .op rfl (.nil)) rfl rfl (fun s hs => loc_callM (pick_spec b _ _ (by assumption) (by omega)) rfl) (by exact .cons (.inr fun _ _ _ => ⟨rfl, rfl⟩) (.nil)) ?_
 first | refine dq_pure rfl (fun s => .op rfl (.nil)) (fun s hs _ => loc_add rfl rfl (by first | omega | assumption | (simp; omega))) (by exact .cons (.inr fun _ _ _ => rfl) (.nil)) ?_ | refine dq_pure rfl (fun s => .op rfl (.nil)) (fun s hs _ => loc_addW rfl rfl) (by exact .cons (.inr fun _ _ _ => rfl) (.nil)) ?_
 refine dq_pure rfl (fun s => .g rfl (.nil)) (fun s hs _ => loc_move rfl) (by exact .cons (.inr fun _ _ _ => rfl) (.nil)) ?_
 refine dq_choose id (fun _ t => t) rfl (fun _ _ => ⟨rfl, id, trivial⟩) (fun s => .op rfl (.op rfl (.op rfl (.op rfl (.nil))))) rfl rfl (fun s hs => loc_callM (drows_spec b _ (by assumption) p _ _ ⟨by omega, by omega⟩ (by omega) (by omega)) rfl) (by exact .cons (.inl rfl) (.nil)) (fun _ _ => rfl) ?_
 refine dq_pure rfl (fun s => .op rfl (.op rfl (.op rfl (.op rfl (.nil))))) (fun s hs _ => loc_build (.one rfl rfl rfl (.agg rfl rfl rfl rfl (.one rfl rfl rfl (.one rfl rfl rfl (.nil)))))) (by exact .cons (.inl rfl) (.nil)) ?_
 refine dq_write0 rfl (fun s => .g rfl (.op rfl (.nil))) rfl rfl (fun s hs => loc_storeN (ho := (by show OneAll [_, _, _, _]; infer_instance)) rfl rfl rfl) (by exact .cons (.inl rfl) (.nil)) ?_
 refine dq_end (rs := [_, _]) ([], d) rfl (fun _ => rfl) (.cons rfl (.nil)) rfl (fun _ => rfl) (fun r9 h9 => ?_)
 obtain hr9 := Ch.one_good h9
 dsimp only [outG, outM, List.map, List.set, id]
 refine run_retG ((⟨1 + d.next.val 3, p, 1 + d.val 3, r9.1⟩, r9.2)) Tryz.func35 rfl (.cellN rfl (.here) (by rfl) (.nil)) ?_ (⟨dieT_of hp (by omega) (by omega) (by omega) hr9.1, hr9.2⟩) (fun _ _ h => h.sub (.cons _ (.cons_cons _ (.refl _))))
 exact fun _ _ h => h
end Go.Q
