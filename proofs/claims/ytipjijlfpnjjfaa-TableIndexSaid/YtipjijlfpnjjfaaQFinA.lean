/- The law TableIndex holds: for every input it answers true, and its arguments read as they did. -/
import Derived.Test.YtipjijlfpnjjfaaRows
import Derived.Test.YtipjijlfpnjjfaaQLawA
import Derived.Test.YtipjijlfpnjjfaaQBridge
namespace Go.Proofs.Ytipjijlfpnjjfaa
open Go.ChangeShapes Go.WideShapes Go.ChangeAt Go.RowKit Go.Q

theorem Try.own : ownKnob Try.prog.godebug = none := by kernel_rfl
theorem Try.laidOut : laidOutB Try.prog = true := by kernel_rfl
theorem Try.read5 : ∀ t ∈ Try.f5.params.toList, Try.prog.readableRec t = true ∧ t < Try.prog.types.size := by
  have h : (Try.f5.params.toList.all fun t => Try.prog.readableRec t && decide (t < Try.prog.types.size)) = true := by kernel_rfl
  intro t ht
  simpa using List.all_eq_true.1 h t ht

set_option maxRecDepth 100000 in
theorem tableIndex_lifted (os : Os) (started : os.Started) (H : Type) (enc : TypeId × Value → H) :
    ReturnsInHanded {} Try.checked os 5 .any (Rows.tableIndexSpec.pre6 enc Try.prog Try.f5 Rows.tableIndexRow.domain false) (Rows.tableIndexSpec.post enc Try.prog Try.f5 false true false false) := by
  refine returnsInHanded_of_change_sized (C := Try.checked) Try.own started (by kernel_rfl) Try.func5
    (ChangeSpec.witness6 (enc := enc) (C := Try.checked) false ⟨#[], #[.slice none 0 0, .int .u8 0, .int .u8 0], []⟩ 8 (by kernel_rfl) (by kernel_rfl) (by kernel_rfl) (by kernel_rfl)) ?_
  intro W base args ds gs before hval0 hW _ hsz0 _
  have hval : ∀ (j : Nat) t v, Try.f5.params[j]? = some t → args[j]? = some v → Value.okWide Try.prog W .any base t v := hval0
  have hsz : (DataW.weightsEach Try.prog (Try.f5.params.toList ++ Rows.tableIndexSpec.plain.varTypes Try.prog) (ds ++ gs)).all (· ≤ reachBytes) = true := hsz0
  have hW0 : DataW.Whole enc Try.prog Try.f5.params.toList Rows.tableIndexSpec.vars false W args.toList ds gs before := hW
  obtain ⟨p, q, hA, hV, _, _, _⟩ := hW0
  obtain ⟨rfl, _⟩ := trodVars_none hV
  rw [show Try.f5.params = #[22, 5, 5] from rfl] at hA hval
  obtain ⟨v0, v1, v2, d0, d1, d2, p0, p1, p2, ha, rfl, _, h0, h1, h2⟩ := trodAll_three hA
  have hargs : args = #[v0, v1, v2] := by rw [← Array.toArray_toList (xs := args), ha]
  subst hargs
  obtain ⟨xs, e0⟩ := arg_ints (P := Try.prog) (e := 3) (by kernel_rfl) (by kernel_rfl) (by kernel_rfl) (by kernel_rfl) (hval 0 22 v0 rfl rfl) h0 (fun n hn => by simpa using List.all_eq_true.1 hsz n (DataW.weights_mem_each (j := 0) rfl rfl n hn))
  obtain ⟨i, e1, w1⟩ := arg_int (P := Try.prog) (k := .u8) (by kernel_rfl) (hval 1 5 v1 rfl rfl) h1
  obtain ⟨k, e2, w2⟩ := arg_int (P := Try.prog) (k := .u8) (by kernel_rfl) (hval 2 5 v2 rfl rfl) h2
  have hi : 0 ≤ i ∧ i ≤ 255 := wf_u8 w1
  have hk : 0 ≤ k ∧ k ≤ 255 := wf_u8 w2
  exact law_calls Try.laidOut Try.read5 rfl (by kernel_rfl) rfl hW rfl rfl rfl (tableIndex_spec xs i k hi hk) ⟨e0, e1, e2, trivial⟩

theorem tableIndex_holds : Rows.TableIndexSaid :=
  OpenClaim.holds_of_wide 5 Try.f5 rfl rfl rfl rfl rfl rfl rfl ⟨rfl, rfl, rfl, rfl, rfl⟩ rfl rfl rfl rfl rfl (by kernel_rfl) Try.func5 (by kernel_rfl)
    (of_decide_eq_true (by kernel_rfl)) (by unfold Func.isWrapper; first | (rw [if_pos (by decide +kernel)]; kernel_rfl) | (rw [if_neg (by decide +kernel)]; exact ⟨rfl, rfl⟩))
    (fun os started H enc _ => tableIndex_lifted os started H enc)

#print axioms tableIndex_holds
end Go.Proofs.Ytipjijlfpnjjfaa
