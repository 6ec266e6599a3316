/-
  No cell of these rows narrows 'for every input' (looked for: loops, veiled, ifaces, maps, wideKeys, modest, calm, conditions, laid).
  DERIVED. THE GIVEN ROWS OF THIS SEAT. 5 by the template 'for every input the law returns true; each argument reads behind the call as it read before'; 0 by the template 'total and deterministic' (their statements: YtipjijlfpnjjfaaTotals.lean).
  GIVEN WITH THE SEED: the statements are not yours to turn. If you find one false, say at which input.
  Laid BY PROGRAM, IN A SANDBOX (cutbox-rows.mjs): the forced cells as the released guide's own fill.sh prints them over the translation c2ba57506c5e2b30… (all of the seat's roots in one cut). By AI agents, Wed Nov 11 2026. No macro, syntax, notation, axiom, sorry.
-/
import Derived.Test.YtipjijlfpnjjfaaChecked
import GoSem.Claim
import GoSem.ClaimJoined
import GoSem.ClaimMapViews
import Derived.JoinedTies
import Derived.KernelRfl
namespace Go.Proofs.Ytipjijlfpnjjfaa
/- THE CELL 'sum', in the pinned program and in every row, IS THE sha256 OF THE DUMP (.gsa) THAT YtipjijlfpnjjfaaProg.lean LOADS. Nothing in Lean hashes anything: it is a label: what it is worth is what the hold of that sum in a sandbox is worth. -/
noncomputable def Try.pinned : Pinned := { name := "ytipjijlfpnjjfaa", sum := "c2ba57506c5e2b30fd93d624926ab39c3dfe70da064b11c5fcb1560112cf14f7", checked := Try.checked }
namespace Rows
def none {H : Type} : Left H := { results := [], args := [] }

/-- 'privatefetchlaw14.TableVerifies': WHATEVER THE INPUT: true; the input reads as it did. -/
def tableVerifiesSpec : ChangeSpec := { name := "tableVerifies", fn := fun _ => fun
  | [d1, d2, d3, d4, d5] => { results := [.lit (.bool true)], args := [d1, d2, d3, d4, d5] }
  | _ => none }
def tableVerifiesRow : OpenClaim := { program := "ytipjijlfpnjjfaa", sum := "c2ba57506c5e2b30fd93d624926ab39c3dfe70da064b11c5fcb1560112cf14f7", func := "privatefetch/privatefetchlaw14.TableVerifies", spec := "tableVerifies", unfollowed := true, recurses := true, apart := false }
def TableVerifiesSaid : Prop := tableVerifiesRow.holds Try.pinned (OpenSpec.ofChange tableVerifiesSpec)

/-- ITS FALSE NEIGHBOUR: 'it returns false'. Refute it at one input. -/
def tableVerifiesWrong : ChangeSpec := { name := "tableVerifies", fn := fun _ => fun
  | [d1, d2, d3, d4, d5] => { results := [.lit (.bool false)], args := [d1, d2, d3, d4, d5] }
  | _ => none }
def TableVerifiesWrongFalsely : Prop := tableVerifiesRow.holds Try.pinned (OpenSpec.ofChange tableVerifiesWrong)

/-- 'privatefetchlaw14.TableRoots': WHATEVER THE INPUT: true; the input reads as it did. -/
def tableRootsSpec : ChangeSpec := { name := "tableRoots", fn := fun _ => fun
  | [d1, d2] => { results := [.lit (.bool true)], args := [d1, d2] }
  | _ => none }
def tableRootsRow : OpenClaim := { program := "ytipjijlfpnjjfaa", sum := "c2ba57506c5e2b30fd93d624926ab39c3dfe70da064b11c5fcb1560112cf14f7", func := "privatefetch/privatefetchlaw14.TableRoots", spec := "tableRoots", unfollowed := true, recurses := true, apart := false }
def TableRootsSaid : Prop := tableRootsRow.holds Try.pinned (OpenSpec.ofChange tableRootsSpec)

/-- ITS FALSE NEIGHBOUR: 'it returns false'. Refute it at one input. -/
def tableRootsWrong : ChangeSpec := { name := "tableRoots", fn := fun _ => fun
  | [d1, d2] => { results := [.lit (.bool false)], args := [d1, d2] }
  | _ => none }
def TableRootsWrongFalsely : Prop := tableRootsRow.holds Try.pinned (OpenSpec.ofChange tableRootsWrong)

/-- 'privatefetchlaw14.TableIndex': WHATEVER THE INPUT: true; the input reads as it did. -/
def tableIndexSpec : ChangeSpec := { name := "tableIndex", fn := fun _ => fun
  | [d1, d2, d3] => { results := [.lit (.bool true)], args := [d1, d2, d3] }
  | _ => none }
def tableIndexRow : OpenClaim := { program := "ytipjijlfpnjjfaa", sum := "c2ba57506c5e2b30fd93d624926ab39c3dfe70da064b11c5fcb1560112cf14f7", func := "privatefetch/privatefetchlaw14.TableIndex", spec := "tableIndex", unfollowed := true, recurses := true, apart := false }
def TableIndexSaid : Prop := tableIndexRow.holds Try.pinned (OpenSpec.ofChange tableIndexSpec)

/-- ITS FALSE NEIGHBOUR: 'it returns false'. Refute it at one input. -/
def tableIndexWrong : ChangeSpec := { name := "tableIndex", fn := fun _ => fun
  | [d1, d2, d3] => { results := [.lit (.bool false)], args := [d1, d2, d3] }
  | _ => none }
def TableIndexWrongFalsely : Prop := tableIndexRow.holds Try.pinned (OpenSpec.ofChange tableIndexWrong)

/-- 'privatefetchlaw14.TableProves': WHATEVER THE INPUT: true; the input reads as it did. -/
def tableProvesSpec : ChangeSpec := { name := "tableProves", fn := fun _ => fun
  | [d1, d2, d3] => { results := [.lit (.bool true)], args := [d1, d2, d3] }
  | _ => none }
def tableProvesRow : OpenClaim := { program := "ytipjijlfpnjjfaa", sum := "c2ba57506c5e2b30fd93d624926ab39c3dfe70da064b11c5fcb1560112cf14f7", func := "privatefetch/privatefetchlaw14.TableProves", spec := "tableProves", unfollowed := true, recurses := true, apart := false }
def TableProvesSaid : Prop := tableProvesRow.holds Try.pinned (OpenSpec.ofChange tableProvesSpec)

/-- ITS FALSE NEIGHBOUR: 'it returns false'. Refute it at one input. -/
def tableProvesWrong : ChangeSpec := { name := "tableProves", fn := fun _ => fun
  | [d1, d2, d3] => { results := [.lit (.bool false)], args := [d1, d2, d3] }
  | _ => none }
def TableProvesWrongFalsely : Prop := tableProvesRow.holds Try.pinned (OpenSpec.ofChange tableProvesWrong)

/-- 'privatefetchlaw14.TableDoes': WHATEVER THE INPUT: true; the input reads as it did. -/
def tableDoesSpec : ChangeSpec := { name := "tableDoes", fn := fun _ => fun
  | [d1, d2, d3, d4, d5, d6] => { results := [.lit (.bool true)], args := [d1, d2, d3, d4, d5, d6] }
  | _ => none }
def tableDoesRow : OpenClaim := { program := "ytipjijlfpnjjfaa", sum := "c2ba57506c5e2b30fd93d624926ab39c3dfe70da064b11c5fcb1560112cf14f7", func := "privatefetch/privatefetchlaw14.TableDoes", spec := "tableDoes", unfollowed := true, recurses := true, apart := false }
def TableDoesSaid : Prop := tableDoesRow.holds Try.pinned (OpenSpec.ofChange tableDoesSpec)

/-- ITS FALSE NEIGHBOUR: 'it returns false'. Refute it at one input. -/
def tableDoesWrong : ChangeSpec := { name := "tableDoes", fn := fun _ => fun
  | [d1, d2, d3, d4, d5, d6] => { results := [.lit (.bool false)], args := [d1, d2, d3, d4, d5, d6] }
  | _ => none }
def TableDoesWrongFalsely : Prop := tableDoesRow.holds Try.pinned (OpenSpec.ofChange tableDoesWrong)

/- THE SECOND FORM. 'bulk': how many values and letters a reading holds, each counted each time it is reached (what is shared counts as often as it is met; a slice's spare places count too). A statement '..UptoSaid' is the law's where the arguments, and the package variables that the reading takes, are together of bulk at most 1048576: NARROWER than '..Said'. Prove '..Said' where nothing that the law and all that it calls make is longer than what came in: it says more and counts as full. Else prove '..UptoSaid'. A law counts once. -/
mutual
def uptoBulk {H : Type} : DataW H → Nat
  | .lit (.string bytes) => bytes.length + 1
  | .lit _ => 1
  | .nil => 1
  | .ptr d => uptoBulk d + 1
  | .slice elems spare => uptoBulkAll elems + uptoBulkAll spare + 1
  | .agg parts => uptoBulkAll parts + 1
  | .iface _ d => uptoBulk d + 1
  | .map entries => uptoBulkEntries entries + 1
  | .held _ => 1
def uptoBulkAll {H : Type} : List (DataW H) → Nat
  | [] => 0
  | d :: r => uptoBulk d + uptoBulkAll r
def uptoBulkEntries {H : Type} : List (Lit × DataW H) → Nat
  | [] => 0
  | x :: r => uptoBulkEntry x + uptoBulkEntries r
def uptoBulkEntry {H : Type} : Lit × DataW H → Nat
  | (.string bytes, d) => bytes.length + uptoBulk d + 1
  | (_, d) => uptoBulk d + 1
 end
def uptoSmall : (H : Type) → List (DataW H) → Bool := fun _ ds => decide (uptoBulkAll ds ≤ 1048576)
def OpenSpec.upto (s : _root_.Go.ChangeSpec) : _root_.Go.OpenSpec := { _root_.Go.OpenSpec.ofChange s with cond := some uptoSmall }

/-- 'privatefetchlaw14.TableVerifies', WHERE WHAT IT READS IS OF BULK AT MOST 1048576: true; the input reads as it did. -/
def tableVerifiesUptoRow : OpenClaim := { program := "ytipjijlfpnjjfaa", sum := "c2ba57506c5e2b30fd93d624926ab39c3dfe70da064b11c5fcb1560112cf14f7", func := "privatefetch/privatefetchlaw14.TableVerifies", spec := "tableVerifies", unfollowed := true, recurses := true, apart := false, narrowed := true }
def TableVerifiesUptoSaid : Prop := tableVerifiesUptoRow.holds Try.pinned (OpenSpec.upto tableVerifiesSpec)

/-- 'privatefetchlaw14.TableRoots', WHERE WHAT IT READS IS OF BULK AT MOST 1048576: true; the input reads as it did. -/
def tableRootsUptoRow : OpenClaim := { program := "ytipjijlfpnjjfaa", sum := "c2ba57506c5e2b30fd93d624926ab39c3dfe70da064b11c5fcb1560112cf14f7", func := "privatefetch/privatefetchlaw14.TableRoots", spec := "tableRoots", unfollowed := true, recurses := true, apart := false, narrowed := true }
def TableRootsUptoSaid : Prop := tableRootsUptoRow.holds Try.pinned (OpenSpec.upto tableRootsSpec)

/-- 'privatefetchlaw14.TableIndex', WHERE WHAT IT READS IS OF BULK AT MOST 1048576: true; the input reads as it did. -/
def tableIndexUptoRow : OpenClaim := { program := "ytipjijlfpnjjfaa", sum := "c2ba57506c5e2b30fd93d624926ab39c3dfe70da064b11c5fcb1560112cf14f7", func := "privatefetch/privatefetchlaw14.TableIndex", spec := "tableIndex", unfollowed := true, recurses := true, apart := false, narrowed := true }
def TableIndexUptoSaid : Prop := tableIndexUptoRow.holds Try.pinned (OpenSpec.upto tableIndexSpec)

/-- 'privatefetchlaw14.TableProves', WHERE WHAT IT READS IS OF BULK AT MOST 1048576: true; the input reads as it did. -/
def tableProvesUptoRow : OpenClaim := { program := "ytipjijlfpnjjfaa", sum := "c2ba57506c5e2b30fd93d624926ab39c3dfe70da064b11c5fcb1560112cf14f7", func := "privatefetch/privatefetchlaw14.TableProves", spec := "tableProves", unfollowed := true, recurses := true, apart := false, narrowed := true }
def TableProvesUptoSaid : Prop := tableProvesUptoRow.holds Try.pinned (OpenSpec.upto tableProvesSpec)

/-- 'privatefetchlaw14.TableDoes', WHERE WHAT IT READS IS OF BULK AT MOST 1048576: true; the input reads as it did. -/
def tableDoesUptoRow : OpenClaim := { program := "ytipjijlfpnjjfaa", sum := "c2ba57506c5e2b30fd93d624926ab39c3dfe70da064b11c5fcb1560112cf14f7", func := "privatefetch/privatefetchlaw14.TableDoes", spec := "tableDoes", unfollowed := true, recurses := true, apart := false, narrowed := true }
def TableDoesUptoSaid : Prop := tableDoesUptoRow.holds Try.pinned (OpenSpec.upto tableDoesSpec)

end Rows
end Go.Proofs.Ytipjijlfpnjjfaa
