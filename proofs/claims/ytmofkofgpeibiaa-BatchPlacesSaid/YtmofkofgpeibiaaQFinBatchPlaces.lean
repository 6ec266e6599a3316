/- The law BatchPlaces holds: for every input it answers true, and its arguments read as they did. -/
import Derived.Test.YtmofkofgpeibiaaRows
import Derived.Test.YtmofkofgpeibiaaQBridge3
set_option linter.unusedVariables false
set_option linter.unusedSimpArgs false
namespace Go.Proofs.Ytmofkofgpeibiaa
open Go.ChangeShapes Go.WideShapes Go.ChangeAt Go.RowKit Go.Q

theorem Try.own : ownKnob Try.prog.godebug = none := by kernel_rfl
theorem Try.laidOut : laidOutB Try.prog = true := by kernel_rfl
theorem Try.readable : ∀ t ∈ Try.f3.params.toList, Try.prog.readableRec t = true ∧ t < Try.prog.types.size := by
  have h : (Try.f3.params.toList.all fun t => Try.prog.readableRec t && decide (t < Try.prog.types.size)) = true := by kernel_rfl
  intro t ht
  simpa using List.all_eq_true.1 h t ht

set_option maxRecDepth 100000 in
theorem batchPlaces_lifted (os : Os) (started : os.Started) (H : Type) (enc : TypeId × Value → H) :
    ReturnsInHanded {} Try.checked os 3 .any (Rows.batchPlacesSpec.pre6 enc Try.prog Try.f3 Rows.batchPlacesRow.domain false) (Rows.batchPlacesSpec.post enc Try.prog Try.f3 false true false false) := by
  refine returnsInHanded_of_change_sized (C := Try.checked) Try.own started (by kernel_rfl) Try.func3
    (ChangeSpec.witness6 (enc := enc) (C := Try.checked) false ⟨#[], #[.slice none 0 0], []⟩ 8 (by kernel_rfl) (by kernel_rfl) (by kernel_rfl) (by kernel_rfl)) ?_
  intro W base args ds gs before hval0 hW _ hsz0 _
  have hval : ∀ (j : Nat) t v, Try.f3.params[j]? = some t → args[j]? = some v → Value.okWide Try.prog W .any base t v := hval0
  have hsz : (DataW.weightsEach Try.prog (Try.f3.params.toList ++ Rows.batchPlacesSpec.plain.varTypes Try.prog) (ds ++ gs)).all (· ≤ reachBytes) = true := hsz0
  have hW0 : DataW.Whole enc Try.prog Try.f3.params.toList Rows.batchPlacesSpec.vars false W args.toList ds gs before := hW
  obtain ⟨p, q, hA, hV, _, _, _⟩ := hW0
  obtain ⟨rfl, _⟩ := trodVars_none hV
  rw [show Try.f3.params = #[22] from rfl] at hA hval
  obtain ⟨v0, vs0, d0, ds0, p0, q0, ha0, hd0, _, h0, hA0⟩ := trodAll_cons hA
  obtain ⟨hz1, hz2, _⟩ := trodAll_nil hA0
  subst hz1 hz2
  subst hd0
  have ha := ha0
  have hargs : args = #[v0] := by rw [← Array.toArray_toList (xs := args), ha]
  subst hargs
  obtain ⟨xs, w0, e0⟩ := arg_bytes (P := Try.prog) (e := 5) (by kernel_rfl) (by kernel_rfl) (by kernel_rfl) (by kernel_rfl) (hval 0 22 v0 rfl rfl) h0 (fun n hn => by simpa using List.all_eq_true.1 hsz n (DataW.weights_mem_each (j := 0) rfl rfl n hn))
  exact law_calls Try.laidOut Try.readable rfl (by kernel_rfl) rfl hW rfl rfl rfl (batchPlaces_spec xs w0) ⟨e0, trivial⟩

theorem batchPlaces_holds : Rows.BatchPlacesSaid :=
  OpenClaim.holds_of_wide 3 Try.f3 rfl rfl rfl rfl rfl rfl rfl ⟨rfl, rfl, rfl, rfl, rfl⟩ rfl rfl rfl rfl rfl (by kernel_rfl) Try.func3 (by kernel_rfl)
    (of_decide_eq_true (by kernel_rfl)) (by unfold Func.isWrapper; first | (rw [if_pos (by decide +kernel)]; kernel_rfl) | (rw [if_neg (by decide +kernel)]; exact ⟨rfl, rfl⟩))
    (fun os started H enc _ => batchPlaces_lifted os started H enc)

#print axioms batchPlaces_holds
end Go.Proofs.Ytmofkofgpeibiaa
