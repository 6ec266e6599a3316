/- The law BatchAlike holds: for every input it answers true, and its arguments read as they did. -/
import Derived.Test.YtmofkofgpeibiaaGreatRows
import Derived.Test.YtmofkofgpeibiaaGreatQBridge2
import Derived.Test.YtmofkofgpeibiaaGreatQBridge3
set_option linter.unusedVariables false
set_option linter.unusedSimpArgs false
namespace Go.Proofs.YtmofkofgpeibiaaGreat
open Go.ChangeShapes Go.WideShapes Go.ChangeAt Go.RowKit Go.Q

theorem Tryz.own : ownKnob Tryz.prog.godebug = none := by kernel_rfl
theorem Tryz.laidOut : laidOutB Tryz.prog = true := by kernel_rfl
theorem Tryz.readable : ∀ t ∈ Tryz.f3.params.toList, Tryz.prog.readableRec t = true ∧ t < Tryz.prog.types.size := by
  have h : (Tryz.f3.params.toList.all fun t => Tryz.prog.readableRec t && decide (t < Tryz.prog.types.size)) = true := by kernel_rfl
  intro t ht
  simpa using List.all_eq_true.1 h t ht

set_option maxRecDepth 100000 in
theorem batchAlike_lifted (os : Os) (started : os.Started) (H : Type) (enc : TypeId × Value → H) :
    ReturnsInHanded {} Tryz.checked os 3 .any (Rows.batchAlikeSpec.pre6 enc Tryz.prog Tryz.f3 Rows.batchAlikeRow.domain false) (Rows.batchAlikeSpec.post enc Tryz.prog Tryz.f3 false true false false) := by
  refine returnsInHanded_of_change_sized (C := Tryz.checked) Tryz.own started (by kernel_rfl) Tryz.func3
    (ChangeSpec.witness6 (enc := enc) (C := Tryz.checked) false ⟨#[], #[.slice none 0 0], []⟩ 8 (by kernel_rfl) (by kernel_rfl) (by kernel_rfl) (by kernel_rfl)) ?_
  intro W base args ds gs before hval0 hW _ hsz0 _
  have hval : ∀ (j : Nat) t v, Tryz.f3.params[j]? = some t → args[j]? = some v → Value.okWide Tryz.prog W .any base t v := hval0
  have hsz : (DataW.weightsEach Tryz.prog (Tryz.f3.params.toList ++ Rows.batchAlikeSpec.plain.varTypes Tryz.prog) (ds ++ gs)).all (· ≤ reachBytes) = true := hsz0
  have hW0 : DataW.Whole enc Tryz.prog Tryz.f3.params.toList Rows.batchAlikeSpec.vars false W args.toList ds gs before := hW
  obtain ⟨p, q, hA, hV, _, _, _⟩ := hW0
  obtain ⟨rfl, _⟩ := trodVars_none hV
  rw [show Tryz.f3.params = #[22] from rfl] at hA hval
  obtain ⟨v0, vs0, d0, ds0, p0, q0, ha0, hd0, _, h0, hA0⟩ := trodAll_cons hA
  obtain ⟨hz1, hz2, _⟩ := trodAll_nil hA0
  subst hz1 hz2
  subst hd0
  have ha := ha0
  have hargs : args = #[v0] := by rw [← Array.toArray_toList (xs := args), ha]
  subst hargs
  obtain ⟨xs, w0, e0⟩ := arg_bytes (P := Tryz.prog) (e := 5) (by kernel_rfl) (by kernel_rfl) (by kernel_rfl) (by kernel_rfl) (hval 0 22 v0 rfl rfl) h0 (fun n hn => by simpa using List.all_eq_true.1 hsz n (DataW.weights_mem_each (j := 0) rfl rfl n hn))
  exact law_calls Tryz.laidOut Tryz.readable rfl (by kernel_rfl) rfl hW rfl rfl rfl (batchAlike_spec xs w0) ⟨e0, trivial⟩

theorem batchAlike_holds : Rows.BatchAlikeSaid :=
  OpenClaim.holds_of_wide 3 Tryz.f3 rfl rfl rfl rfl rfl rfl rfl ⟨rfl, rfl, rfl, rfl, rfl⟩ rfl rfl rfl rfl rfl (by kernel_rfl) Tryz.func3 (by kernel_rfl)
    (of_decide_eq_true (by kernel_rfl)) (by unfold Func.isWrapper; first | (rw [if_pos (by decide +kernel)]; kernel_rfl) | (rw [if_neg (by decide +kernel)]; exact ⟨rfl, rfl⟩))
    (fun os started H enc _ => batchAlike_lifted os started H enc)

#print axioms batchAlike_holds
end Go.Proofs.YtmofkofgpeibiaaGreat
