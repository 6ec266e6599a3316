/-
  No cell of these rows narrows 'for every input' (looked for: loops, veiled, ifaces, maps, wideKeys, modest, calm, conditions, laid).
  DERIVED. THE GIVEN ROWS OF THIS SEAT. 3 by the template 'for every input the law returns true; each argument reads behind the call as it read before'; 0 by the template 'total and deterministic' (their statements: YtjcbhnlcbdmlfaaTotals.lean).
  GIVEN WITH THE SEED: the statements are not yours to turn. If you find one false, say at which input.
  Laid BY PROGRAM, IN A SANDBOX (cutbox-rows.mjs): the forced cells as the released guide's own fill.sh prints them over the translation ded6ae0ff7c4657a… (all of the seat's roots in one cut). By AI agents, Wed Nov 11 2026. No macro, syntax, notation, axiom, sorry.
-/
import Derived.Test.YtjcbhnlcbdmlfaaChecked
import GoSem.Claim
import GoSem.ClaimJoined
import GoSem.ClaimMapViews
import Derived.JoinedTies
import Derived.KernelRfl
namespace Go.Proofs.Ytjcbhnlcbdmlfaa
/- THE CELL 'sum', in the pinned program and in every row, IS THE sha256 OF THE DUMP (.gsa) THAT YtjcbhnlcbdmlfaaProg.lean LOADS. Nothing in Lean hashes anything: it is a label: what it is worth is what the hold of that sum in a sandbox is worth. -/
noncomputable def Try.pinned : Pinned := { name := "ytjcbhnlcbdmlfaa", sum := "ded6ae0ff7c4657af0b7ced3b38202911d16604add50e746a568a9dc82795a2e", checked := Try.checked }
namespace Rows
def none {H : Type} : Left H := { results := [], args := [] }

/-- 'privatefetchlaw30.ServerFull': WHATEVER THE INPUT: true; the input reads as it did. -/
def serverFullSpec : ChangeSpec := { name := "serverFull", fn := fun _ => fun
  | [d] => { results := [.lit (.bool true)], args := [d] }
  | _ => none }
def serverFullRow : OpenClaim := { program := "ytjcbhnlcbdmlfaa", sum := "ded6ae0ff7c4657af0b7ced3b38202911d16604add50e746a568a9dc82795a2e", func := "privatefetch/privatefetchlaw30.ServerFull", spec := "serverFull", inPlace := ["slices.overlaps[privatefetch/api.Held]"], unfollowed := true, recurses := true, apart := false }
def ServerFullSaid : Prop := serverFullRow.holds Try.pinned (OpenSpec.ofChange serverFullSpec)

/-- ITS FALSE NEIGHBOUR: 'it returns false'. Refute it at one input. -/
def serverFullWrong : ChangeSpec := { name := "serverFull", fn := fun _ => fun
  | [d] => { results := [.lit (.bool false)], args := [d] }
  | _ => none }
def ServerFullWrongFalsely : Prop := serverFullRow.holds Try.pinned (OpenSpec.ofChange serverFullWrong)

/-- 'privatefetchlaw30.ServerLoads': WHATEVER THE INPUT: true; the input reads as it did. -/
def serverLoadsSpec : ChangeSpec := { name := "serverLoads", fn := fun _ => fun
  | [d] => { results := [.lit (.bool true)], args := [d] }
  | _ => none }
def serverLoadsRow : OpenClaim := { program := "ytjcbhnlcbdmlfaa", sum := "ded6ae0ff7c4657af0b7ced3b38202911d16604add50e746a568a9dc82795a2e", func := "privatefetch/privatefetchlaw30.ServerLoads", spec := "serverLoads", inPlace := ["slices.overlaps[privatefetch/api.Held]"], unfollowed := true, recurses := true, apart := false }
def ServerLoadsSaid : Prop := serverLoadsRow.holds Try.pinned (OpenSpec.ofChange serverLoadsSpec)

/-- ITS FALSE NEIGHBOUR: 'it returns false'. Refute it at one input. -/
def serverLoadsWrong : ChangeSpec := { name := "serverLoads", fn := fun _ => fun
  | [d] => { results := [.lit (.bool false)], args := [d] }
  | _ => none }
def ServerLoadsWrongFalsely : Prop := serverLoadsRow.holds Try.pinned (OpenSpec.ofChange serverLoadsWrong)

/-- 'privatefetchlaw30.ServerAnswers': WHATEVER THE INPUT: true; the input reads as it did. -/
def serverAnswersSpec : ChangeSpec := { name := "serverAnswers", fn := fun _ => fun
  | [d] => { results := [.lit (.bool true)], args := [d] }
  | _ => none }
def serverAnswersRow : OpenClaim := { program := "ytjcbhnlcbdmlfaa", sum := "ded6ae0ff7c4657af0b7ced3b38202911d16604add50e746a568a9dc82795a2e", func := "privatefetch/privatefetchlaw30.ServerAnswers", spec := "serverAnswers", inPlace := ["slices.overlaps[privatefetch/api.Held]"], unfollowed := true, recurses := true, apart := false }
def ServerAnswersSaid : Prop := serverAnswersRow.holds Try.pinned (OpenSpec.ofChange serverAnswersSpec)

/-- ITS FALSE NEIGHBOUR: 'it returns false'. Refute it at one input. -/
def serverAnswersWrong : ChangeSpec := { name := "serverAnswers", fn := fun _ => fun
  | [d] => { results := [.lit (.bool false)], args := [d] }
  | _ => none }
def ServerAnswersWrongFalsely : Prop := serverAnswersRow.holds Try.pinned (OpenSpec.ofChange serverAnswersWrong)

/- THE SECOND FORM. 'bulk': how many values and letters a reading holds, each counted each time it is reached (what is shared counts as often as it is met; a slice's spare places count too). A statement '..UptoSaid' is the law's where the arguments, and the package variables that the reading takes, are together of bulk at most 1048576: NARROWER than '..Said'. Prove '..Said' where nothing that the law and all that it calls make is longer than what came in: it says more and counts as full. Else prove '..UptoSaid'. A law counts once. -/
mutual
def uptoBulk {H : Type} : DataW H → Nat
  | .lit (.string bytes) => bytes.length + 1
  | .lit _ => 1
  | .nil => 1
  | .ptr d => uptoBulk d + 1
  | .slice elems spare => uptoBulkAll elems + uptoBulkAll spare + 1
  | .agg parts => uptoBulkAll parts + 1
  | .iface _ d => uptoBulk d + 1
  | .map entries => uptoBulkEntries entries + 1
  | .held _ => 1
def uptoBulkAll {H : Type} : List (DataW H) → Nat
  | [] => 0
  | d :: r => uptoBulk d + uptoBulkAll r
def uptoBulkEntries {H : Type} : List (Lit × DataW H) → Nat
  | [] => 0
  | x :: r => uptoBulkEntry x + uptoBulkEntries r
def uptoBulkEntry {H : Type} : Lit × DataW H → Nat
  | (.string bytes, d) => bytes.length + uptoBulk d + 1
  | (_, d) => uptoBulk d + 1
 end
def uptoSmall : (H : Type) → List (DataW H) → Bool := fun _ ds => decide (uptoBulkAll ds ≤ 1048576)
def OpenSpec.upto (s : _root_.Go.ChangeSpec) : _root_.Go.OpenSpec := { _root_.Go.OpenSpec.ofChange s with cond := some uptoSmall }

/-- 'privatefetchlaw30.ServerFull', WHERE WHAT IT READS IS OF BULK AT MOST 1048576: true; the input reads as it did. -/
def serverFullUptoRow : OpenClaim := { program := "ytjcbhnlcbdmlfaa", sum := "ded6ae0ff7c4657af0b7ced3b38202911d16604add50e746a568a9dc82795a2e", func := "privatefetch/privatefetchlaw30.ServerFull", spec := "serverFull", inPlace := ["slices.overlaps[privatefetch/api.Held]"], unfollowed := true, recurses := true, apart := false, narrowed := true }
def ServerFullUptoSaid : Prop := serverFullUptoRow.holds Try.pinned (OpenSpec.upto serverFullSpec)

/-- 'privatefetchlaw30.ServerLoads', WHERE WHAT IT READS IS OF BULK AT MOST 1048576: true; the input reads as it did. -/
def serverLoadsUptoRow : OpenClaim := { program := "ytjcbhnlcbdmlfaa", sum := "ded6ae0ff7c4657af0b7ced3b38202911d16604add50e746a568a9dc82795a2e", func := "privatefetch/privatefetchlaw30.ServerLoads", spec := "serverLoads", inPlace := ["slices.overlaps[privatefetch/api.Held]"], unfollowed := true, recurses := true, apart := false, narrowed := true }
def ServerLoadsUptoSaid : Prop := serverLoadsUptoRow.holds Try.pinned (OpenSpec.upto serverLoadsSpec)

/-- 'privatefetchlaw30.ServerAnswers', WHERE WHAT IT READS IS OF BULK AT MOST 1048576: true; the input reads as it did. -/
def serverAnswersUptoRow : OpenClaim := { program := "ytjcbhnlcbdmlfaa", sum := "ded6ae0ff7c4657af0b7ced3b38202911d16604add50e746a568a9dc82795a2e", func := "privatefetch/privatefetchlaw30.ServerAnswers", spec := "serverAnswers", inPlace := ["slices.overlaps[privatefetch/api.Held]"], unfollowed := true, recurses := true, apart := false, narrowed := true }
def ServerAnswersUptoSaid : Prop := serverAnswersUptoRow.holds Try.pinned (OpenSpec.upto serverAnswersSpec)

end Rows
end Go.Proofs.Ytjcbhnlcbdmlfaa
