/- How the arguments of this seat's statements are told. -/
import Derived.Test.YtgaalfgmgmpnbaaGreatQPlainA
import Derived.Test.YtgaalfgmgmpnbaaGreatQBridge3
import Derived.Test.YtgaalfgmgmpnbaaGreatQPlainX2
set_option linter.unusedVariables false
set_option linter.unusedSimpArgs false
namespace Go.Q
open Go.Proofs
theorem argSchm : ArgOk Tryz.prog 27 (fun _ => True) cSchm :=
 (ArgOk.struct (l := [(0, 1, 3), (1, 1, 3), (2, 1, 3), (3, 1, 3)]) (by kernel_rfl) (.cons (ArgOk.int (k := .i64) (by kernel_rfl)) (.cons (ArgOk.int (k := .i64) (by kernel_rfl)) (.cons (ArgOk.int (k := .i64) (by kernel_rfl)) (.cons (ArgOk.int (k := .i64) (by kernel_rfl)) (.nil)))))).map (fun x => ⟨x.1, x.2.1, x.2.2.1, x.2.2.2.1⟩) (fun _ _ => trivial) (fun _ => rfl)
theorem argNte : ArgOk Tryz.prog 46 (fun _ => True) cNte :=
 (ArgOk.struct (l := [(0, 1, 3), (1, 1, 3), (2, 1, 3), (3, 1, 3), (4, 1, 3), (5, 1, 44), (6, 1, 44), (7, 1, 3)]) (by kernel_rfl) (.cons (ArgOk.int (k := .i64) (by kernel_rfl)) (.cons (ArgOk.int (k := .i64) (by kernel_rfl)) (.cons (ArgOk.int (k := .i64) (by kernel_rfl)) (.cons (ArgOk.int (k := .i64) (by kernel_rfl)) (.cons (ArgOk.int (k := .i64) (by kernel_rfl)) (.cons (ArgOk.slice (e := 3) (n := 1) (by kernel_rfl) (ArgOk.int (k := .i64) (by kernel_rfl)) (by kernel_rfl) (by omega) (by rw [show Tryz.prog.bytesOf 3 = 8 by kernel_rfl]; omega) (fun _ => rfl)) (.cons (ArgOk.slice (e := 3) (n := 1) (by kernel_rfl) (ArgOk.int (k := .i64) (by kernel_rfl)) (by kernel_rfl) (by omega) (by rw [show Tryz.prog.bytesOf 3 = 8 by kernel_rfl]; omega) (fun _ => rfl)) (.cons (ArgOk.int (k := .i64) (by kernel_rfl)) (.nil)))))))))).map (fun x => ⟨x.1, x.2.1, x.2.2.1, x.2.2.2.1, x.2.2.2.2.1, x.2.2.2.2.2.1, x.2.2.2.2.2.2.1, x.2.2.2.2.2.2.2.1⟩) (fun _ _ => trivial) (fun _ => rfl)
theorem argPsn : ArgOk Tryz.prog 51 (fun _ => True) cPsn :=
 (ArgOk.struct (l := [(0, 1, 3), (1, 1, 3)]) (by kernel_rfl) (.cons (ArgOk.int (k := .i64) (by kernel_rfl)) (.cons (ArgOk.int (k := .i64) (by kernel_rfl)) (.nil)))).map (fun x => ⟨x.1, x.2.1⟩) (fun _ _ => trivial) (fun _ => rfl)
end Go.Q
