/-
  No cell of these rows narrows 'for every input' (looked for: loops, veiled, ifaces, maps, wideKeys, modest, calm, conditions, laid).
  DERIVED. THE GIVEN ROWS OF THIS SEAT. 10 by the template 'for every input the law returns true; each argument reads behind the call as it read before'; 0 by the template 'total and deterministic' (their statements: YtmapjpdgjefnoaaTotals.lean).
  GIVEN WITH THE SEED: the statements are not yours to turn. If you find one false, say at which input.
  Laid BY PROGRAM, IN A SANDBOX (cutbox-rows.mjs): the forced cells as the released guide's own fill.sh prints them over the translation cad3960ab957ecd2… (all of the seat's roots in one cut). By AI agents, Wed Nov 11 2026. No macro, syntax, notation, axiom, sorry.
-/
import Derived.Test.YtmapjpdgjefnoaaChecked
import GoSem.Claim
import GoSem.ClaimJoined
import GoSem.ClaimMapViews
import Derived.JoinedTies
import Derived.KernelRfl
namespace Go.Proofs.Ytmapjpdgjefnoaa
/- THE CELL 'sum', in the pinned program and in every row, IS THE sha256 OF THE DUMP (.gsa) THAT YtmapjpdgjefnoaaProg.lean LOADS. Nothing in Lean hashes anything: it is a label: what it is worth is what the hold of that sum in a sandbox is worth. -/
noncomputable def Try.pinned : Pinned := { name := "ytmapjpdgjefnoaa", sum := "cad3960ab957ecd2acbd284b80534028853fe5c31b0033ea51dfcda2d23e246f", checked := Try.checked }
namespace Rows
def none {H : Type} : Left H := { results := [], args := [] }

/-- 'privatefetchlaw39.PinFull': WHATEVER THE INPUT: true; the input reads as it did. -/
def pinFullSpec : ChangeSpec := { name := "pinFull", fn := fun _ => fun
  | [d] => { results := [.lit (.bool true)], args := [d] }
  | _ => none }
def pinFullRow : OpenClaim := { program := "ytmapjpdgjefnoaa", sum := "cad3960ab957ecd2acbd284b80534028853fe5c31b0033ea51dfcda2d23e246f", func := "privatefetch/privatefetchlaw39.PinFull", spec := "pinFull", inPlace := ["slices.overlaps[privatefetch/api.Pin]"], unfollowed := true, recurses := true, apart := false }
def PinFullSaid : Prop := pinFullRow.holds Try.pinned (OpenSpec.ofChange pinFullSpec)

/-- ITS FALSE NEIGHBOUR: 'it returns false'. Refute it at one input. -/
def pinFullWrong : ChangeSpec := { name := "pinFull", fn := fun _ => fun
  | [d] => { results := [.lit (.bool false)], args := [d] }
  | _ => none }
def PinFullWrongFalsely : Prop := pinFullRow.holds Try.pinned (OpenSpec.ofChange pinFullWrong)

/-- 'privatefetchlaw39.PinKeeps': WHATEVER THE INPUT: true; the input reads as it did. -/
def pinKeepsSpec : ChangeSpec := { name := "pinKeeps", fn := fun _ => fun
  | [d] => { results := [.lit (.bool true)], args := [d] }
  | _ => none }
def pinKeepsRow : OpenClaim := { program := "ytmapjpdgjefnoaa", sum := "cad3960ab957ecd2acbd284b80534028853fe5c31b0033ea51dfcda2d23e246f", func := "privatefetch/privatefetchlaw39.PinKeeps", spec := "pinKeeps", inPlace := ["slices.overlaps[privatefetch/api.Pin]"], unfollowed := true, recurses := true, apart := false }
def PinKeepsSaid : Prop := pinKeepsRow.holds Try.pinned (OpenSpec.ofChange pinKeepsSpec)

/-- ITS FALSE NEIGHBOUR: 'it returns false'. Refute it at one input. -/
def pinKeepsWrong : ChangeSpec := { name := "pinKeeps", fn := fun _ => fun
  | [d] => { results := [.lit (.bool false)], args := [d] }
  | _ => none }
def PinKeepsWrongFalsely : Prop := pinKeepsRow.holds Try.pinned (OpenSpec.ofChange pinKeepsWrong)

/-- 'privatefetchlaw39.PinCollects': WHATEVER THE INPUT: true; the input reads as it did. -/
def pinCollectsSpec : ChangeSpec := { name := "pinCollects", fn := fun _ => fun
  | [d] => { results := [.lit (.bool true)], args := [d] }
  | _ => none }
def pinCollectsRow : OpenClaim := { program := "ytmapjpdgjefnoaa", sum := "cad3960ab957ecd2acbd284b80534028853fe5c31b0033ea51dfcda2d23e246f", func := "privatefetch/privatefetchlaw39.PinCollects", spec := "pinCollects", inPlace := ["slices.overlaps[privatefetch/api.Pin]"], unfollowed := true, recurses := true, apart := false }
def PinCollectsSaid : Prop := pinCollectsRow.holds Try.pinned (OpenSpec.ofChange pinCollectsSpec)

/-- ITS FALSE NEIGHBOUR: 'it returns false'. Refute it at one input. -/
def pinCollectsWrong : ChangeSpec := { name := "pinCollects", fn := fun _ => fun
  | [d] => { results := [.lit (.bool false)], args := [d] }
  | _ => none }
def PinCollectsWrongFalsely : Prop := pinCollectsRow.holds Try.pinned (OpenSpec.ofChange pinCollectsWrong)

/-- 'privatefetchlaw39.PinNames': WHATEVER THE INPUT: true; the input reads as it did. -/
def pinNamesSpec : ChangeSpec := { name := "pinNames", fn := fun _ => fun
  | [d] => { results := [.lit (.bool true)], args := [d] }
  | _ => none }
def pinNamesRow : OpenClaim := { program := "ytmapjpdgjefnoaa", sum := "cad3960ab957ecd2acbd284b80534028853fe5c31b0033ea51dfcda2d23e246f", func := "privatefetch/privatefetchlaw39.PinNames", spec := "pinNames", inPlace := ["slices.overlaps[privatefetch/api.Pin]"], unfollowed := true, recurses := true, apart := false }
def PinNamesSaid : Prop := pinNamesRow.holds Try.pinned (OpenSpec.ofChange pinNamesSpec)

/-- ITS FALSE NEIGHBOUR: 'it returns false'. Refute it at one input. -/
def pinNamesWrong : ChangeSpec := { name := "pinNames", fn := fun _ => fun
  | [d] => { results := [.lit (.bool false)], args := [d] }
  | _ => none }
def PinNamesWrongFalsely : Prop := pinNamesRow.holds Try.pinned (OpenSpec.ofChange pinNamesWrong)

/-- 'privatefetchlaw36.RestartFull': WHATEVER THE INPUT: true; the input reads as it did. -/
def restartFullSpec : ChangeSpec := { name := "restartFull", fn := fun _ => fun
  | [d] => { results := [.lit (.bool true)], args := [d] }
  | _ => none }
def restartFullRow : OpenClaim := { program := "ytmapjpdgjefnoaa", sum := "cad3960ab957ecd2acbd284b80534028853fe5c31b0033ea51dfcda2d23e246f", func := "privatefetch/privatefetchlaw36.RestartFull", spec := "restartFull", inPlace := ["slices.overlaps[privatefetch/api.Start]"], unfollowed := true, recurses := true, apart := false }
def RestartFullSaid : Prop := restartFullRow.holds Try.pinned (OpenSpec.ofChange restartFullSpec)

/-- ITS FALSE NEIGHBOUR: 'it returns false'. Refute it at one input. -/
def restartFullWrong : ChangeSpec := { name := "restartFull", fn := fun _ => fun
  | [d] => { results := [.lit (.bool false)], args := [d] }
  | _ => none }
def RestartFullWrongFalsely : Prop := restartFullRow.holds Try.pinned (OpenSpec.ofChange restartFullWrong)

/-- 'privatefetchlaw36.RestartTapes': WHATEVER THE INPUT: true; the input reads as it did. -/
def restartTapesSpec : ChangeSpec := { name := "restartTapes", fn := fun _ => fun
  | [d1, d2, d3] => { results := [.lit (.bool true)], args := [d1, d2, d3] }
  | _ => none }
def restartTapesRow : OpenClaim := { program := "ytmapjpdgjefnoaa", sum := "cad3960ab957ecd2acbd284b80534028853fe5c31b0033ea51dfcda2d23e246f", func := "privatefetch/privatefetchlaw36.RestartTapes", spec := "restartTapes", inPlace := ["slices.overlaps[privatefetch/api.Start]"], unfollowed := true, recurses := true, apart := false }
def RestartTapesSaid : Prop := restartTapesRow.holds Try.pinned (OpenSpec.ofChange restartTapesSpec)

/-- ITS FALSE NEIGHBOUR: 'it returns false'. Refute it at one input. -/
def restartTapesWrong : ChangeSpec := { name := "restartTapes", fn := fun _ => fun
  | [d1, d2, d3] => { results := [.lit (.bool false)], args := [d1, d2, d3] }
  | _ => none }
def RestartTapesWrongFalsely : Prop := restartTapesRow.holds Try.pinned (OpenSpec.ofChange restartTapesWrong)

/-- 'privatefetchlaw39.PinSteps': WHATEVER THE INPUT: true; the input reads as it did. -/
def pinStepsSpec : ChangeSpec := { name := "pinSteps", fn := fun _ => fun
  | [d1, d2, d3, d4] => { results := [.lit (.bool true)], args := [d1, d2, d3, d4] }
  | _ => none }
def pinStepsRow : OpenClaim := { program := "ytmapjpdgjefnoaa", sum := "cad3960ab957ecd2acbd284b80534028853fe5c31b0033ea51dfcda2d23e246f", func := "privatefetch/privatefetchlaw39.PinSteps", spec := "pinSteps", inPlace := ["slices.overlaps[privatefetch/api.Pin]"], unfollowed := true, recurses := true, apart := false }
def PinStepsSaid : Prop := pinStepsRow.holds Try.pinned (OpenSpec.ofChange pinStepsSpec)

/-- ITS FALSE NEIGHBOUR: 'it returns false'. Refute it at one input. -/
def pinStepsWrong : ChangeSpec := { name := "pinSteps", fn := fun _ => fun
  | [d1, d2, d3, d4] => { results := [.lit (.bool false)], args := [d1, d2, d3, d4] }
  | _ => none }
def PinStepsWrongFalsely : Prop := pinStepsRow.holds Try.pinned (OpenSpec.ofChange pinStepsWrong)

/-- 'privatefetchlaw36.RestartAgain': WHATEVER THE INPUT: true; the input reads as it did. -/
def restartAgainSpec : ChangeSpec := { name := "restartAgain", fn := fun _ => fun
  | [d] => { results := [.lit (.bool true)], args := [d] }
  | _ => none }
def restartAgainRow : OpenClaim := { program := "ytmapjpdgjefnoaa", sum := "cad3960ab957ecd2acbd284b80534028853fe5c31b0033ea51dfcda2d23e246f", func := "privatefetch/privatefetchlaw36.RestartAgain", spec := "restartAgain", inPlace := ["slices.overlaps[privatefetch/api.Start]"], unfollowed := true, recurses := true, apart := false }
def RestartAgainSaid : Prop := restartAgainRow.holds Try.pinned (OpenSpec.ofChange restartAgainSpec)

/-- ITS FALSE NEIGHBOUR: 'it returns false'. Refute it at one input. -/
def restartAgainWrong : ChangeSpec := { name := "restartAgain", fn := fun _ => fun
  | [d] => { results := [.lit (.bool false)], args := [d] }
  | _ => none }
def RestartAgainWrongFalsely : Prop := restartAgainRow.holds Try.pinned (OpenSpec.ofChange restartAgainWrong)

/-- 'privatefetchlaw36.RestartEnds': WHATEVER THE INPUT: true; the input reads as it did. -/
def restartEndsSpec : ChangeSpec := { name := "restartEnds", fn := fun _ => fun
  | [d] => { results := [.lit (.bool true)], args := [d] }
  | _ => none }
def restartEndsRow : OpenClaim := { program := "ytmapjpdgjefnoaa", sum := "cad3960ab957ecd2acbd284b80534028853fe5c31b0033ea51dfcda2d23e246f", func := "privatefetch/privatefetchlaw36.RestartEnds", spec := "restartEnds", inPlace := ["slices.overlaps[privatefetch/api.Start]"], unfollowed := true, recurses := true, apart := false }
def RestartEndsSaid : Prop := restartEndsRow.holds Try.pinned (OpenSpec.ofChange restartEndsSpec)

/-- ITS FALSE NEIGHBOUR: 'it returns false'. Refute it at one input. -/
def restartEndsWrong : ChangeSpec := { name := "restartEnds", fn := fun _ => fun
  | [d] => { results := [.lit (.bool false)], args := [d] }
  | _ => none }
def RestartEndsWrongFalsely : Prop := restartEndsRow.holds Try.pinned (OpenSpec.ofChange restartEndsWrong)

/-- 'privatefetchlaw36.RestartSteps': WHATEVER THE INPUT: true; the input reads as it did. -/
def restartStepsSpec : ChangeSpec := { name := "restartSteps", fn := fun _ => fun
  | [d1, d2, d3, d4, d5, d6, d7] => { results := [.lit (.bool true)], args := [d1, d2, d3, d4, d5, d6, d7] }
  | _ => none }
def restartStepsRow : OpenClaim := { program := "ytmapjpdgjefnoaa", sum := "cad3960ab957ecd2acbd284b80534028853fe5c31b0033ea51dfcda2d23e246f", func := "privatefetch/privatefetchlaw36.RestartSteps", spec := "restartSteps", inPlace := ["slices.overlaps[privatefetch/api.Start]"], unfollowed := true, recurses := true, apart := false }
def RestartStepsSaid : Prop := restartStepsRow.holds Try.pinned (OpenSpec.ofChange restartStepsSpec)

/-- ITS FALSE NEIGHBOUR: 'it returns false'. Refute it at one input. -/
def restartStepsWrong : ChangeSpec := { name := "restartSteps", fn := fun _ => fun
  | [d1, d2, d3, d4, d5, d6, d7] => { results := [.lit (.bool false)], args := [d1, d2, d3, d4, d5, d6, d7] }
  | _ => none }
def RestartStepsWrongFalsely : Prop := restartStepsRow.holds Try.pinned (OpenSpec.ofChange restartStepsWrong)

/- THE SECOND FORM. 'bulk': how many values and letters a reading holds, each counted each time it is reached (what is shared counts as often as it is met; a slice's spare places count too). A statement '..UptoSaid' is the law's where the arguments, and the package variables that the reading takes, are together of bulk at most 1048576: NARROWER than '..Said'. Prove '..Said' where nothing that the law and all that it calls make is longer than what came in: it says more and counts as full. Else prove '..UptoSaid'. A law counts once. -/
mutual
def uptoBulk {H : Type} : DataW H → Nat
  | .lit (.string bytes) => bytes.length + 1
  | .lit _ => 1
  | .nil => 1
  | .ptr d => uptoBulk d + 1
  | .slice elems spare => uptoBulkAll elems + uptoBulkAll spare + 1
  | .agg parts => uptoBulkAll parts + 1
  | .iface _ d => uptoBulk d + 1
  | .map entries => uptoBulkEntries entries + 1
  | .held _ => 1
def uptoBulkAll {H : Type} : List (DataW H) → Nat
  | [] => 0
  | d :: r => uptoBulk d + uptoBulkAll r
def uptoBulkEntries {H : Type} : List (Lit × DataW H) → Nat
  | [] => 0
  | x :: r => uptoBulkEntry x + uptoBulkEntries r
def uptoBulkEntry {H : Type} : Lit × DataW H → Nat
  | (.string bytes, d) => bytes.length + uptoBulk d + 1
  | (_, d) => uptoBulk d + 1
 end
def uptoSmall : (H : Type) → List (DataW H) → Bool := fun _ ds => decide (uptoBulkAll ds ≤ 1048576)
def OpenSpec.upto (s : _root_.Go.ChangeSpec) : _root_.Go.OpenSpec := { _root_.Go.OpenSpec.ofChange s with cond := some uptoSmall }

/-- 'privatefetchlaw39.PinFull', WHERE WHAT IT READS IS OF BULK AT MOST 1048576: true; the input reads as it did. -/
def pinFullUptoRow : OpenClaim := { program := "ytmapjpdgjefnoaa", sum := "cad3960ab957ecd2acbd284b80534028853fe5c31b0033ea51dfcda2d23e246f", func := "privatefetch/privatefetchlaw39.PinFull", spec := "pinFull", inPlace := ["slices.overlaps[privatefetch/api.Pin]"], unfollowed := true, recurses := true, apart := false, narrowed := true }
def PinFullUptoSaid : Prop := pinFullUptoRow.holds Try.pinned (OpenSpec.upto pinFullSpec)

/-- 'privatefetchlaw39.PinKeeps', WHERE WHAT IT READS IS OF BULK AT MOST 1048576: true; the input reads as it did. -/
def pinKeepsUptoRow : OpenClaim := { program := "ytmapjpdgjefnoaa", sum := "cad3960ab957ecd2acbd284b80534028853fe5c31b0033ea51dfcda2d23e246f", func := "privatefetch/privatefetchlaw39.PinKeeps", spec := "pinKeeps", inPlace := ["slices.overlaps[privatefetch/api.Pin]"], unfollowed := true, recurses := true, apart := false, narrowed := true }
def PinKeepsUptoSaid : Prop := pinKeepsUptoRow.holds Try.pinned (OpenSpec.upto pinKeepsSpec)

/-- 'privatefetchlaw39.PinCollects', WHERE WHAT IT READS IS OF BULK AT MOST 1048576: true; the input reads as it did. -/
def pinCollectsUptoRow : OpenClaim := { program := "ytmapjpdgjefnoaa", sum := "cad3960ab957ecd2acbd284b80534028853fe5c31b0033ea51dfcda2d23e246f", func := "privatefetch/privatefetchlaw39.PinCollects", spec := "pinCollects", inPlace := ["slices.overlaps[privatefetch/api.Pin]"], unfollowed := true, recurses := true, apart := false, narrowed := true }
def PinCollectsUptoSaid : Prop := pinCollectsUptoRow.holds Try.pinned (OpenSpec.upto pinCollectsSpec)

/-- 'privatefetchlaw39.PinNames', WHERE WHAT IT READS IS OF BULK AT MOST 1048576: true; the input reads as it did. -/
def pinNamesUptoRow : OpenClaim := { program := "ytmapjpdgjefnoaa", sum := "cad3960ab957ecd2acbd284b80534028853fe5c31b0033ea51dfcda2d23e246f", func := "privatefetch/privatefetchlaw39.PinNames", spec := "pinNames", inPlace := ["slices.overlaps[privatefetch/api.Pin]"], unfollowed := true, recurses := true, apart := false, narrowed := true }
def PinNamesUptoSaid : Prop := pinNamesUptoRow.holds Try.pinned (OpenSpec.upto pinNamesSpec)

/-- 'privatefetchlaw36.RestartFull', WHERE WHAT IT READS IS OF BULK AT MOST 1048576: true; the input reads as it did. -/
def restartFullUptoRow : OpenClaim := { program := "ytmapjpdgjefnoaa", sum := "cad3960ab957ecd2acbd284b80534028853fe5c31b0033ea51dfcda2d23e246f", func := "privatefetch/privatefetchlaw36.RestartFull", spec := "restartFull", inPlace := ["slices.overlaps[privatefetch/api.Start]"], unfollowed := true, recurses := true, apart := false, narrowed := true }
def RestartFullUptoSaid : Prop := restartFullUptoRow.holds Try.pinned (OpenSpec.upto restartFullSpec)

/-- 'privatefetchlaw36.RestartTapes', WHERE WHAT IT READS IS OF BULK AT MOST 1048576: true; the input reads as it did. -/
def restartTapesUptoRow : OpenClaim := { program := "ytmapjpdgjefnoaa", sum := "cad3960ab957ecd2acbd284b80534028853fe5c31b0033ea51dfcda2d23e246f", func := "privatefetch/privatefetchlaw36.RestartTapes", spec := "restartTapes", inPlace := ["slices.overlaps[privatefetch/api.Start]"], unfollowed := true, recurses := true, apart := false, narrowed := true }
def RestartTapesUptoSaid : Prop := restartTapesUptoRow.holds Try.pinned (OpenSpec.upto restartTapesSpec)

/-- 'privatefetchlaw39.PinSteps', WHERE WHAT IT READS IS OF BULK AT MOST 1048576: true; the input reads as it did. -/
def pinStepsUptoRow : OpenClaim := { program := "ytmapjpdgjefnoaa", sum := "cad3960ab957ecd2acbd284b80534028853fe5c31b0033ea51dfcda2d23e246f", func := "privatefetch/privatefetchlaw39.PinSteps", spec := "pinSteps", inPlace := ["slices.overlaps[privatefetch/api.Pin]"], unfollowed := true, recurses := true, apart := false, narrowed := true }
def PinStepsUptoSaid : Prop := pinStepsUptoRow.holds Try.pinned (OpenSpec.upto pinStepsSpec)

/-- 'privatefetchlaw36.RestartAgain', WHERE WHAT IT READS IS OF BULK AT MOST 1048576: true; the input reads as it did. -/
def restartAgainUptoRow : OpenClaim := { program := "ytmapjpdgjefnoaa", sum := "cad3960ab957ecd2acbd284b80534028853fe5c31b0033ea51dfcda2d23e246f", func := "privatefetch/privatefetchlaw36.RestartAgain", spec := "restartAgain", inPlace := ["slices.overlaps[privatefetch/api.Start]"], unfollowed := true, recurses := true, apart := false, narrowed := true }
def RestartAgainUptoSaid : Prop := restartAgainUptoRow.holds Try.pinned (OpenSpec.upto restartAgainSpec)

/-- 'privatefetchlaw36.RestartEnds', WHERE WHAT IT READS IS OF BULK AT MOST 1048576: true; the input reads as it did. -/
def restartEndsUptoRow : OpenClaim := { program := "ytmapjpdgjefnoaa", sum := "cad3960ab957ecd2acbd284b80534028853fe5c31b0033ea51dfcda2d23e246f", func := "privatefetch/privatefetchlaw36.RestartEnds", spec := "restartEnds", inPlace := ["slices.overlaps[privatefetch/api.Start]"], unfollowed := true, recurses := true, apart := false, narrowed := true }
def RestartEndsUptoSaid : Prop := restartEndsUptoRow.holds Try.pinned (OpenSpec.upto restartEndsSpec)

/-- 'privatefetchlaw36.RestartSteps', WHERE WHAT IT READS IS OF BULK AT MOST 1048576: true; the input reads as it did. -/
def restartStepsUptoRow : OpenClaim := { program := "ytmapjpdgjefnoaa", sum := "cad3960ab957ecd2acbd284b80534028853fe5c31b0033ea51dfcda2d23e246f", func := "privatefetch/privatefetchlaw36.RestartSteps", spec := "restartSteps", inPlace := ["slices.overlaps[privatefetch/api.Start]"], unfollowed := true, recurses := true, apart := false, narrowed := true }
def RestartStepsUptoSaid : Prop := restartStepsUptoRow.holds Try.pinned (OpenSpec.upto restartStepsSpec)

end Rows
end Go.Proofs.Ytmapjpdgjefnoaa
