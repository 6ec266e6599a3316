/- The law ServerSteps holds: for every input it answers true, and its arguments read as they did. -/
import Derived.Test.YtgaalfgmgmpnbaaGreatRows
import Derived.Test.YtgaalfgmgmpnbaaGreatQBridge3
import Derived.Test.YtgaalfgmgmpnbaaGreatQArgs
set_option linter.unusedVariables false
set_option linter.unusedSimpArgs false
namespace Go.Proofs.YtgaalfgmgmpnbaaGreat
open Go.ChangeShapes Go.WideShapes Go.ChangeAt Go.RowKit Go.Q

theorem Tryz.own : ownKnob Tryz.prog.godebug = none := by kernel_rfl
theorem Tryz.laidOut : laidOutB Tryz.prog = true := by kernel_rfl
theorem Tryz.readable : ∀ t ∈ Tryz.f4.params.toList, Tryz.prog.readableRec t = true ∧ t < Tryz.prog.types.size := by
  have h : (Tryz.f4.params.toList.all fun t => Tryz.prog.readableRec t && decide (t < Tryz.prog.types.size)) = true := by kernel_rfl
  intro t ht
  simpa using List.all_eq_true.1 h t ht

set_option maxRecDepth 100000 in
theorem serverSteps_lifted (os : Os) (started : os.Started) (H : Type) (enc : TypeId × Value → H) :
    ReturnsInHanded {} Tryz.checked os 4 .any (Rows.serverStepsSpec.pre6 enc Tryz.prog Tryz.f4 Rows.serverStepsRow.domain false) (Rows.serverStepsSpec.post enc Tryz.prog Tryz.f4 false true false false) := by
  refine returnsInHanded_of_change_sized (C := Tryz.checked) Tryz.own started (by kernel_rfl) Tryz.func4
    (ChangeSpec.witness6 (enc := enc) (C := Tryz.checked) false ⟨#[], #[.slice none 0 0, .int .i64 0, .agg #[.int .i64 0, .int .i64 0, .int .i64 0, .int .i64 0], .agg #[.int .i64 0, .int .i64 0, .int .i64 0, .int .i64 0, .int .i64 0, .slice none 0 0, .slice none 0 0, .int .i64 0], .int .i64 0, .int .i64 0, .agg #[.int .i64 0, .int .i64 0]], []⟩ 8 (by kernel_rfl) (by kernel_rfl) (by kernel_rfl) (by kernel_rfl)) ?_
  intro W base args ds gs before hval0 hW _ hsz0 _
  have hval : ∀ (j : Nat) t v, Tryz.f4.params[j]? = some t → args[j]? = some v → Value.okWide Tryz.prog W .any base t v := hval0
  have hsz : (DataW.weightsEach Tryz.prog (Tryz.f4.params.toList ++ Rows.serverStepsSpec.plain.varTypes Tryz.prog) (ds ++ gs)).all (· ≤ reachBytes) = true := hsz0
  have hW0 : DataW.Whole enc Tryz.prog Tryz.f4.params.toList Rows.serverStepsSpec.vars false W args.toList ds gs before := hW
  obtain ⟨p, q, hA, hV, _, _, _⟩ := hW0
  obtain ⟨rfl, _⟩ := trodVars_none hV
  rw [show Tryz.f4.params = #[22, 3, 27, 46, 3, 3, 51] from rfl] at hA hval
  obtain ⟨v0, vs0, d0, ds0, p0, q0, ha0, hd0, _, h0, hA0⟩ := trodAll_cons hA
  obtain ⟨v1, vs1, d1, ds1, p1, q1, ha1, hd1, _, h1, hA1⟩ := trodAll_cons hA0
  obtain ⟨v2, vs2, d2, ds2, p2, q2, ha2, hd2, _, h2, hA2⟩ := trodAll_cons hA1
  obtain ⟨v3, vs3, d3, ds3, p3, q3, ha3, hd3, _, h3, hA3⟩ := trodAll_cons hA2
  obtain ⟨v4, vs4, d4, ds4, p4, q4, ha4, hd4, _, h4, hA4⟩ := trodAll_cons hA3
  obtain ⟨v5, vs5, d5, ds5, p5, q5, ha5, hd5, _, h5, hA5⟩ := trodAll_cons hA4
  obtain ⟨v6, vs6, d6, ds6, p6, q6, ha6, hd6, _, h6, hA6⟩ := trodAll_cons hA5
  obtain ⟨hz1, hz2, _⟩ := trodAll_nil hA6
  subst hz1 hz2
  subst ha6 hd6
  subst ha5 hd5
  subst ha4 hd4
  subst ha3 hd3
  subst ha2 hd2
  subst ha1 hd1
  subst hd0
  have ha := ha0
  have hargs : args = #[v0, v1, v2, v3, v4, v5, v6] := by rw [← Array.toArray_toList (xs := args), ha]
  subst hargs
  obtain ⟨xs, w0, e0⟩ := arg_bytes (P := Tryz.prog) (e := 5) (by kernel_rfl) (by kernel_rfl) (by kernel_rfl) (by kernel_rfl) (hval 0 22 v0 rfl rfl) h0 (fun n hn => by simpa using List.all_eq_true.1 hsz n (DataW.weights_mem_each (j := 0) rfl rfl n hn))
  obtain ⟨idn, e1, _⟩ := arg_int (P := Tryz.prog) (k := .i64) (by kernel_rfl) (hval 1 3 v1 rfl rfl) h1
  obtain ⟨raw, _, e2⟩ := arg_struct (P := Tryz.prog) argSchm (by kernel_rfl) (hval 2 27 v2 rfl rfl) h2 (fun n hn => by simpa using List.all_eq_true.1 hsz n (DataW.weights_mem_each (j := 2) rfl rfl n hn))
  obtain ⟨nt, _, e3⟩ := arg_struct (P := Tryz.prog) argNte (by kernel_rfl) (hval 3 46 v3 rfl rfl) h3 (fun n hn => by simpa using List.all_eq_true.1 hsz n (DataW.weights_mem_each (j := 3) rfl rfl n hn))
  obtain ⟨ver, e4, _⟩ := arg_int (P := Tryz.prog) (k := .i64) (by kernel_rfl) (hval 4 3 v4 rfl rfl) h4
  obtain ⟨lie, e5, _⟩ := arg_int (P := Tryz.prog) (k := .i64) (by kernel_rfl) (hval 5 3 v5 rfl rfl) h5
  obtain ⟨ps, _, e6⟩ := arg_struct (P := Tryz.prog) argPsn (by kernel_rfl) (hval 6 51 v6 rfl rfl) h6 (fun n hn => by simpa using List.all_eq_true.1 hsz n (DataW.weights_mem_each (j := 6) rfl rfl n hn))
  exact law_calls Tryz.laidOut Tryz.readable rfl (by kernel_rfl) rfl hW rfl rfl rfl (serverSteps_spec xs w0 idn raw nt ver lie ps) ⟨e0, e1, e2, e3, e4, e5, e6, trivial⟩

theorem serverSteps_holds : Rows.ServerStepsSaid :=
  OpenClaim.holds_of_wide 4 Tryz.f4 rfl rfl rfl rfl rfl rfl rfl ⟨rfl, rfl, rfl, rfl, rfl⟩ rfl rfl rfl rfl rfl (by kernel_rfl) Tryz.func4 (by kernel_rfl)
    (of_decide_eq_true (by kernel_rfl)) (by unfold Func.isWrapper; first | (rw [if_pos (by decide +kernel)]; kernel_rfl) | (rw [if_neg (by decide +kernel)]; exact ⟨rfl, rfl⟩))
    (fun os started H enc _ => serverSteps_lifted os started H enc)

#print axioms serverSteps_holds
end Go.Proofs.YtgaalfgmgmpnbaaGreat
