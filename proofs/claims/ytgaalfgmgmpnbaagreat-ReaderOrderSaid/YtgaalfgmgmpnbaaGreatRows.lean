/-
  No cell of these rows narrows 'for every input' (looked for: loops, veiled, ifaces, maps, wideKeys, modest, calm, conditions, laid).
  DERIVED. THE GIVEN ROWS OF THIS SEAT. 3 by the template 'for every input the law returns true; each argument reads behind the call as it read before'; 0 by the template 'total and deterministic' (their statements: YtgaalfgmgmpnbaaGreatTotals.lean).
  GIVEN WITH THE SEED: the statements are not yours to turn. If you find one false, say at which input.
  Laid BY PROGRAM, IN A SANDBOX (cutbox-rows.mjs): the forced cells as the released guide's own fill.sh prints them over the translation 42af4a420c990a18… (all of the seat's roots in one cut). By AI agents, Wed Nov 11 2026. No macro, syntax, notation, axiom, sorry.
-/
import Derived.Test.YtgaalfgmgmpnbaaGreatChecked
import GoSem.Claim
import GoSem.ClaimJoined
import GoSem.ClaimMapViews
import Derived.JoinedTies
import Derived.KernelRfl
namespace Go.Proofs.YtgaalfgmgmpnbaaGreat
/- THE CELL 'sum', in the pinned program and in every row, IS THE sha256 OF THE DUMP (.gsa) THAT YtgaalfgmgmpnbaaGreatProg.lean LOADS. Nothing in Lean hashes anything: it is a label: what it is worth is what the hold of that sum in a sandbox is worth. -/
noncomputable def Tryz.pinned : Pinned := { name := "ytgaalfgmgmpnbaagreat", sum := "42af4a420c990a181697630052f002a8f8ca398b2cbaa701ad9ff8fb191d736a", checked := Tryz.checked }
namespace Rows
def none {H : Type} : Left H := { results := [], args := [] }

/-- 'privatefetchlaw30.ServerCrashes': WHATEVER THE INPUT: true; the input reads as it did. -/
def serverCrashesSpec : ChangeSpec := { name := "serverCrashes", fn := fun _ => fun
  | [d] => { results := [.lit (.bool true)], args := [d] }
  | _ => none }
def serverCrashesRow : OpenClaim := { program := "ytgaalfgmgmpnbaagreat", sum := "42af4a420c990a181697630052f002a8f8ca398b2cbaa701ad9ff8fb191d736a", func := "privatefetch/privatefetchlaw30.ServerCrashes", spec := "serverCrashes", inPlace := ["slices.overlaps[privatefetch/api.Held]"], unfollowed := true, recurses := true, apart := false }
def ServerCrashesSaid : Prop := serverCrashesRow.holds Tryz.pinned (OpenSpec.ofChange serverCrashesSpec)

/-- ITS FALSE NEIGHBOUR: 'it returns false'. Refute it at one input. -/
def serverCrashesWrong : ChangeSpec := { name := "serverCrashes", fn := fun _ => fun
  | [d] => { results := [.lit (.bool false)], args := [d] }
  | _ => none }
def ServerCrashesWrongFalsely : Prop := serverCrashesRow.holds Tryz.pinned (OpenSpec.ofChange serverCrashesWrong)

/-- 'privatefetchlaw30.ServerSteps': WHATEVER THE INPUT: true; the input reads as it did. -/
def serverStepsSpec : ChangeSpec := { name := "serverSteps", fn := fun _ => fun
  | [d1, d2, d3, d4, d5, d6, d7] => { results := [.lit (.bool true)], args := [d1, d2, d3, d4, d5, d6, d7] }
  | _ => none }
def serverStepsRow : OpenClaim := { program := "ytgaalfgmgmpnbaagreat", sum := "42af4a420c990a181697630052f002a8f8ca398b2cbaa701ad9ff8fb191d736a", func := "privatefetch/privatefetchlaw30.ServerSteps", spec := "serverSteps", inPlace := ["slices.overlaps[privatefetch/api.Held]"], unfollowed := true, recurses := true, apart := false }
def ServerStepsSaid : Prop := serverStepsRow.holds Tryz.pinned (OpenSpec.ofChange serverStepsSpec)

/-- ITS FALSE NEIGHBOUR: 'it returns false'. Refute it at one input. -/
def serverStepsWrong : ChangeSpec := { name := "serverSteps", fn := fun _ => fun
  | [d1, d2, d3, d4, d5, d6, d7] => { results := [.lit (.bool false)], args := [d1, d2, d3, d4, d5, d6, d7] }
  | _ => none }
def ServerStepsWrongFalsely : Prop := serverStepsRow.holds Tryz.pinned (OpenSpec.ofChange serverStepsWrong)

/-- 'privatefetchlaw32.ReaderOrder': WHATEVER THE INPUT: true; the input reads as it did. -/
def readerOrderSpec : ChangeSpec := { name := "readerOrder", fn := fun _ => fun
  | [d] => { results := [.lit (.bool true)], args := [d] }
  | _ => none }
def readerOrderRow : OpenClaim := { program := "ytgaalfgmgmpnbaagreat", sum := "42af4a420c990a181697630052f002a8f8ca398b2cbaa701ad9ff8fb191d736a", func := "privatefetch/privatefetchlaw32.ReaderOrder", spec := "readerOrder", unfollowed := true, recurses := true, apart := false }
def ReaderOrderSaid : Prop := readerOrderRow.holds Tryz.pinned (OpenSpec.ofChange readerOrderSpec)

/-- ITS FALSE NEIGHBOUR: 'it returns false'. Refute it at one input. -/
def readerOrderWrong : ChangeSpec := { name := "readerOrder", fn := fun _ => fun
  | [d] => { results := [.lit (.bool false)], args := [d] }
  | _ => none }
def ReaderOrderWrongFalsely : Prop := readerOrderRow.holds Tryz.pinned (OpenSpec.ofChange readerOrderWrong)

/- THE SECOND FORM. 'bulk': how many values and letters a reading holds, each counted each time it is reached (what is shared counts as often as it is met; a slice's spare places count too). A statement '..UptoSaid' is the law's where the arguments, and the package variables that the reading takes, are together of bulk at most 1048576: NARROWER than '..Said'. Prove '..Said' where nothing that the law and all that it calls make is longer than what came in: it says more and counts as full. Else prove '..UptoSaid'. A law counts once. -/
mutual
def uptoBulk {H : Type} : DataW H → Nat
  | .lit (.string bytes) => bytes.length + 1
  | .lit _ => 1
  | .nil => 1
  | .ptr d => uptoBulk d + 1
  | .slice elems spare => uptoBulkAll elems + uptoBulkAll spare + 1
  | .agg parts => uptoBulkAll parts + 1
  | .iface _ d => uptoBulk d + 1
  | .map entries => uptoBulkEntries entries + 1
  | .held _ => 1
def uptoBulkAll {H : Type} : List (DataW H) → Nat
  | [] => 0
  | d :: r => uptoBulk d + uptoBulkAll r
def uptoBulkEntries {H : Type} : List (Lit × DataW H) → Nat
  | [] => 0
  | x :: r => uptoBulkEntry x + uptoBulkEntries r
def uptoBulkEntry {H : Type} : Lit × DataW H → Nat
  | (.string bytes, d) => bytes.length + uptoBulk d + 1
  | (_, d) => uptoBulk d + 1
 end
def uptoSmall : (H : Type) → List (DataW H) → Bool := fun _ ds => decide (uptoBulkAll ds ≤ 1048576)
def OpenSpec.upto (s : _root_.Go.ChangeSpec) : _root_.Go.OpenSpec := { _root_.Go.OpenSpec.ofChange s with cond := some uptoSmall }

/-- 'privatefetchlaw30.ServerCrashes', WHERE WHAT IT READS IS OF BULK AT MOST 1048576: true; the input reads as it did. -/
def serverCrashesUptoRow : OpenClaim := { program := "ytgaalfgmgmpnbaagreat", sum := "42af4a420c990a181697630052f002a8f8ca398b2cbaa701ad9ff8fb191d736a", func := "privatefetch/privatefetchlaw30.ServerCrashes", spec := "serverCrashes", inPlace := ["slices.overlaps[privatefetch/api.Held]"], unfollowed := true, recurses := true, apart := false, narrowed := true }
def ServerCrashesUptoSaid : Prop := serverCrashesUptoRow.holds Tryz.pinned (OpenSpec.upto serverCrashesSpec)

/-- 'privatefetchlaw30.ServerSteps', WHERE WHAT IT READS IS OF BULK AT MOST 1048576: true; the input reads as it did. -/
def serverStepsUptoRow : OpenClaim := { program := "ytgaalfgmgmpnbaagreat", sum := "42af4a420c990a181697630052f002a8f8ca398b2cbaa701ad9ff8fb191d736a", func := "privatefetch/privatefetchlaw30.ServerSteps", spec := "serverSteps", inPlace := ["slices.overlaps[privatefetch/api.Held]"], unfollowed := true, recurses := true, apart := false, narrowed := true }
def ServerStepsUptoSaid : Prop := serverStepsUptoRow.holds Tryz.pinned (OpenSpec.upto serverStepsSpec)

/-- 'privatefetchlaw32.ReaderOrder', WHERE WHAT IT READS IS OF BULK AT MOST 1048576: true; the input reads as it did. -/
def readerOrderUptoRow : OpenClaim := { program := "ytgaalfgmgmpnbaagreat", sum := "42af4a420c990a181697630052f002a8f8ca398b2cbaa701ad9ff8fb191d736a", func := "privatefetch/privatefetchlaw32.ReaderOrder", spec := "readerOrder", unfollowed := true, recurses := true, apart := false, narrowed := true }
def ReaderOrderUptoSaid : Prop := readerOrderUptoRow.holds Tryz.pinned (OpenSpec.upto readerOrderSpec)

end Rows
end Go.Proofs.YtgaalfgmgmpnbaaGreat
