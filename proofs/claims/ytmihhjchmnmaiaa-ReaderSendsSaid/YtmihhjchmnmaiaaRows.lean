/-
  No cell of these rows narrows 'for every input' (looked for: loops, veiled, ifaces, maps, wideKeys, modest, calm, conditions, laid).
  DERIVED. THE GIVEN ROWS OF THIS SEAT. 6 by the template 'for every input the law returns true; each argument reads behind the call as it read before'; 0 by the template 'total and deterministic' (their statements: YtmihhjchmnmaiaaTotals.lean).
  GIVEN WITH THE SEED: the statements are not yours to turn. If you find one false, say at which input.
  Laid BY PROGRAM, IN A SANDBOX (cutbox-rows.mjs): the forced cells as the released guide's own fill.sh prints them over the translation 636bb67a79b4e163… (all of the seat's roots in one cut). By AI agents, Wed Nov 11 2026. No macro, syntax, notation, axiom, sorry.
-/
import Derived.Test.YtmihhjchmnmaiaaChecked
import GoSem.Claim
import GoSem.ClaimJoined
import GoSem.ClaimMapViews
import Derived.JoinedTies
import Derived.KernelRfl
namespace Go.Proofs.Ytmihhjchmnmaiaa
/- THE CELL 'sum', in the pinned program and in every row, IS THE sha256 OF THE DUMP (.gsa) THAT YtmihhjchmnmaiaaProg.lean LOADS. Nothing in Lean hashes anything: it is a label: what it is worth is what the hold of that sum in a sandbox is worth. -/
noncomputable def Try.pinned : Pinned := { name := "ytmihhjchmnmaiaa", sum := "636bb67a79b4e163ad72f44ef2a0adc155f25f77e5b026605ae92cbfcb38021e", checked := Try.checked }
namespace Rows
def none {H : Type} : Left H := { results := [], args := [] }

/-- 'privatefetchlaw23.SchemeShapes': WHATEVER THE INPUT: true; the input reads as it did. -/
def schemeShapesSpec : ChangeSpec := { name := "schemeShapes", fn := fun _ => fun
  | [d1, d2, d3, d4, d5, d6] => { results := [.lit (.bool true)], args := [d1, d2, d3, d4, d5, d6] }
  | _ => none }
def schemeShapesRow : OpenClaim := { program := "ytmihhjchmnmaiaa", sum := "636bb67a79b4e163ad72f44ef2a0adc155f25f77e5b026605ae92cbfcb38021e", func := "privatefetch/privatefetchlaw23.SchemeShapes", spec := "schemeShapes", unfollowed := true, recurses := true, apart := false }
def SchemeShapesSaid : Prop := schemeShapesRow.holds Try.pinned (OpenSpec.ofChange schemeShapesSpec)

/-- ITS FALSE NEIGHBOUR: 'it returns false'. Refute it at one input. -/
def schemeShapesWrong : ChangeSpec := { name := "schemeShapes", fn := fun _ => fun
  | [d1, d2, d3, d4, d5, d6] => { results := [.lit (.bool false)], args := [d1, d2, d3, d4, d5, d6] }
  | _ => none }
def SchemeShapesWrongFalsely : Prop := schemeShapesRow.holds Try.pinned (OpenSpec.ofChange schemeShapesWrong)

/-- 'privatefetchlaw32.ReaderSends': WHATEVER THE INPUT: true; the input reads as it did. -/
def readerSendsSpec : ChangeSpec := { name := "readerSends", fn := fun _ => fun
  | [d] => { results := [.lit (.bool true)], args := [d] }
  | _ => none }
def readerSendsRow : OpenClaim := { program := "ytmihhjchmnmaiaa", sum := "636bb67a79b4e163ad72f44ef2a0adc155f25f77e5b026605ae92cbfcb38021e", func := "privatefetch/privatefetchlaw32.ReaderSends", spec := "readerSends", unfollowed := true, recurses := true, apart := false }
def ReaderSendsSaid : Prop := readerSendsRow.holds Try.pinned (OpenSpec.ofChange readerSendsSpec)

/-- ITS FALSE NEIGHBOUR: 'it returns false'. Refute it at one input. -/
def readerSendsWrong : ChangeSpec := { name := "readerSends", fn := fun _ => fun
  | [d] => { results := [.lit (.bool false)], args := [d] }
  | _ => none }
def ReaderSendsWrongFalsely : Prop := readerSendsRow.holds Try.pinned (OpenSpec.ofChange readerSendsWrong)

/-- 'privatefetchlaw24.WishEven': WHATEVER THE INPUT: true; the input reads as it did. -/
def wishEvenSpec : ChangeSpec := { name := "wishEven", fn := fun _ => fun
  | [d] => { results := [.lit (.bool true)], args := [d] }
  | _ => none }
def wishEvenRow : OpenClaim := { program := "ytmihhjchmnmaiaa", sum := "636bb67a79b4e163ad72f44ef2a0adc155f25f77e5b026605ae92cbfcb38021e", func := "privatefetch/privatefetchlaw24.WishEven", spec := "wishEven", unfollowed := true, recurses := true, apart := false }
def WishEvenSaid : Prop := wishEvenRow.holds Try.pinned (OpenSpec.ofChange wishEvenSpec)

/-- ITS FALSE NEIGHBOUR: 'it returns false'. Refute it at one input. -/
def wishEvenWrong : ChangeSpec := { name := "wishEven", fn := fun _ => fun
  | [d] => { results := [.lit (.bool false)], args := [d] }
  | _ => none }
def WishEvenWrongFalsely : Prop := wishEvenRow.holds Try.pinned (OpenSpec.ofChange wishEvenWrong)

/-- 'privatefetchlaw24.WishDummy': WHATEVER THE INPUT: true; the input reads as it did. -/
def wishDummySpec : ChangeSpec := { name := "wishDummy", fn := fun _ => fun
  | [d] => { results := [.lit (.bool true)], args := [d] }
  | _ => none }
def wishDummyRow : OpenClaim := { program := "ytmihhjchmnmaiaa", sum := "636bb67a79b4e163ad72f44ef2a0adc155f25f77e5b026605ae92cbfcb38021e", func := "privatefetch/privatefetchlaw24.WishDummy", spec := "wishDummy", unfollowed := true, recurses := true, apart := false }
def WishDummySaid : Prop := wishDummyRow.holds Try.pinned (OpenSpec.ofChange wishDummySpec)

/-- ITS FALSE NEIGHBOUR: 'it returns false'. Refute it at one input. -/
def wishDummyWrong : ChangeSpec := { name := "wishDummy", fn := fun _ => fun
  | [d] => { results := [.lit (.bool false)], args := [d] }
  | _ => none }
def WishDummyWrongFalsely : Prop := wishDummyRow.holds Try.pinned (OpenSpec.ofChange wishDummyWrong)

/-- 'privatefetchlaw24.WishOneByOne': WHATEVER THE INPUT: true; the input reads as it did. -/
def wishOneByOneSpec : ChangeSpec := { name := "wishOneByOne", fn := fun _ => fun
  | [d] => { results := [.lit (.bool true)], args := [d] }
  | _ => none }
def wishOneByOneRow : OpenClaim := { program := "ytmihhjchmnmaiaa", sum := "636bb67a79b4e163ad72f44ef2a0adc155f25f77e5b026605ae92cbfcb38021e", func := "privatefetch/privatefetchlaw24.WishOneByOne", spec := "wishOneByOne", unfollowed := true, recurses := true, apart := false }
def WishOneByOneSaid : Prop := wishOneByOneRow.holds Try.pinned (OpenSpec.ofChange wishOneByOneSpec)

/-- ITS FALSE NEIGHBOUR: 'it returns false'. Refute it at one input. -/
def wishOneByOneWrong : ChangeSpec := { name := "wishOneByOne", fn := fun _ => fun
  | [d] => { results := [.lit (.bool false)], args := [d] }
  | _ => none }
def WishOneByOneWrongFalsely : Prop := wishOneByOneRow.holds Try.pinned (OpenSpec.ofChange wishOneByOneWrong)

/-- 'privatefetchlaw23.SchemeEven': WHATEVER THE INPUT: true; the input reads as it did. -/
def schemeEvenSpec : ChangeSpec := { name := "schemeEven", fn := fun _ => fun
  | [d] => { results := [.lit (.bool true)], args := [d] }
  | _ => none }
def schemeEvenRow : OpenClaim := { program := "ytmihhjchmnmaiaa", sum := "636bb67a79b4e163ad72f44ef2a0adc155f25f77e5b026605ae92cbfcb38021e", func := "privatefetch/privatefetchlaw23.SchemeEven", spec := "schemeEven", unfollowed := true, recurses := true, apart := false }
def SchemeEvenSaid : Prop := schemeEvenRow.holds Try.pinned (OpenSpec.ofChange schemeEvenSpec)

/-- ITS FALSE NEIGHBOUR: 'it returns false'. Refute it at one input. -/
def schemeEvenWrong : ChangeSpec := { name := "schemeEven", fn := fun _ => fun
  | [d] => { results := [.lit (.bool false)], args := [d] }
  | _ => none }
def SchemeEvenWrongFalsely : Prop := schemeEvenRow.holds Try.pinned (OpenSpec.ofChange schemeEvenWrong)

/- THE SECOND FORM. 'bulk': how many values and letters a reading holds, each counted each time it is reached (what is shared counts as often as it is met; a slice's spare places count too). A statement '..UptoSaid' is the law's where the arguments, and the package variables that the reading takes, are together of bulk at most 1048576: NARROWER than '..Said'. Prove '..Said' where nothing that the law and all that it calls make is longer than what came in: it says more and counts as full. Else prove '..UptoSaid'. A law counts once. -/
mutual
def uptoBulk {H : Type} : DataW H → Nat
  | .lit (.string bytes) => bytes.length + 1
  | .lit _ => 1
  | .nil => 1
  | .ptr d => uptoBulk d + 1
  | .slice elems spare => uptoBulkAll elems + uptoBulkAll spare + 1
  | .agg parts => uptoBulkAll parts + 1
  | .iface _ d => uptoBulk d + 1
  | .map entries => uptoBulkEntries entries + 1
  | .held _ => 1
def uptoBulkAll {H : Type} : List (DataW H) → Nat
  | [] => 0
  | d :: r => uptoBulk d + uptoBulkAll r
def uptoBulkEntries {H : Type} : List (Lit × DataW H) → Nat
  | [] => 0
  | x :: r => uptoBulkEntry x + uptoBulkEntries r
def uptoBulkEntry {H : Type} : Lit × DataW H → Nat
  | (.string bytes, d) => bytes.length + uptoBulk d + 1
  | (_, d) => uptoBulk d + 1
 end
def uptoSmall : (H : Type) → List (DataW H) → Bool := fun _ ds => decide (uptoBulkAll ds ≤ 1048576)
def OpenSpec.upto (s : _root_.Go.ChangeSpec) : _root_.Go.OpenSpec := { _root_.Go.OpenSpec.ofChange s with cond := some uptoSmall }

/-- 'privatefetchlaw23.SchemeShapes', WHERE WHAT IT READS IS OF BULK AT MOST 1048576: true; the input reads as it did. -/
def schemeShapesUptoRow : OpenClaim := { program := "ytmihhjchmnmaiaa", sum := "636bb67a79b4e163ad72f44ef2a0adc155f25f77e5b026605ae92cbfcb38021e", func := "privatefetch/privatefetchlaw23.SchemeShapes", spec := "schemeShapes", unfollowed := true, recurses := true, apart := false, narrowed := true }
def SchemeShapesUptoSaid : Prop := schemeShapesUptoRow.holds Try.pinned (OpenSpec.upto schemeShapesSpec)

/-- 'privatefetchlaw32.ReaderSends', WHERE WHAT IT READS IS OF BULK AT MOST 1048576: true; the input reads as it did. -/
def readerSendsUptoRow : OpenClaim := { program := "ytmihhjchmnmaiaa", sum := "636bb67a79b4e163ad72f44ef2a0adc155f25f77e5b026605ae92cbfcb38021e", func := "privatefetch/privatefetchlaw32.ReaderSends", spec := "readerSends", unfollowed := true, recurses := true, apart := false, narrowed := true }
def ReaderSendsUptoSaid : Prop := readerSendsUptoRow.holds Try.pinned (OpenSpec.upto readerSendsSpec)

/-- 'privatefetchlaw24.WishEven', WHERE WHAT IT READS IS OF BULK AT MOST 1048576: true; the input reads as it did. -/
def wishEvenUptoRow : OpenClaim := { program := "ytmihhjchmnmaiaa", sum := "636bb67a79b4e163ad72f44ef2a0adc155f25f77e5b026605ae92cbfcb38021e", func := "privatefetch/privatefetchlaw24.WishEven", spec := "wishEven", unfollowed := true, recurses := true, apart := false, narrowed := true }
def WishEvenUptoSaid : Prop := wishEvenUptoRow.holds Try.pinned (OpenSpec.upto wishEvenSpec)

/-- 'privatefetchlaw24.WishDummy', WHERE WHAT IT READS IS OF BULK AT MOST 1048576: true; the input reads as it did. -/
def wishDummyUptoRow : OpenClaim := { program := "ytmihhjchmnmaiaa", sum := "636bb67a79b4e163ad72f44ef2a0adc155f25f77e5b026605ae92cbfcb38021e", func := "privatefetch/privatefetchlaw24.WishDummy", spec := "wishDummy", unfollowed := true, recurses := true, apart := false, narrowed := true }
def WishDummyUptoSaid : Prop := wishDummyUptoRow.holds Try.pinned (OpenSpec.upto wishDummySpec)

/-- 'privatefetchlaw24.WishOneByOne', WHERE WHAT IT READS IS OF BULK AT MOST 1048576: true; the input reads as it did. -/
def wishOneByOneUptoRow : OpenClaim := { program := "ytmihhjchmnmaiaa", sum := "636bb67a79b4e163ad72f44ef2a0adc155f25f77e5b026605ae92cbfcb38021e", func := "privatefetch/privatefetchlaw24.WishOneByOne", spec := "wishOneByOne", unfollowed := true, recurses := true, apart := false, narrowed := true }
def WishOneByOneUptoSaid : Prop := wishOneByOneUptoRow.holds Try.pinned (OpenSpec.upto wishOneByOneSpec)

/-- 'privatefetchlaw23.SchemeEven', WHERE WHAT IT READS IS OF BULK AT MOST 1048576: true; the input reads as it did. -/
def schemeEvenUptoRow : OpenClaim := { program := "ytmihhjchmnmaiaa", sum := "636bb67a79b4e163ad72f44ef2a0adc155f25f77e5b026605ae92cbfcb38021e", func := "privatefetch/privatefetchlaw23.SchemeEven", spec := "schemeEven", unfollowed := true, recurses := true, apart := false, narrowed := true }
def SchemeEvenUptoSaid : Prop := schemeEvenUptoRow.holds Try.pinned (OpenSpec.upto schemeEvenSpec)

end Rows
end Go.Proofs.Ytmihhjchmnmaiaa
