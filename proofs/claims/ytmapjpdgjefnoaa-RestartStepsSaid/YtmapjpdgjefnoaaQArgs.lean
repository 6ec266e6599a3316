/- How the arguments of this seat's statements are told. -/
import Derived.Test.YtmapjpdgjefnoaaQTypes
import Derived.Test.YtmapjpdgjefnoaaQBridge3
set_option linter.unusedVariables false
set_option linter.unusedSimpArgs false
namespace Go.Q
open Go.Proofs

theorem argPn : ArgOk Try.prog 46 (fun _ => True) cPn :=
  (ArgOk.struct (l := [(0, 1, 3), (1, 1, 3)]) (by kernel_rfl) (.cons (ArgOk.int (k := .i64) (by kernel_rfl)) (.cons (ArgOk.int (k := .i64) (by kernel_rfl)) (.nil)))).map (fun x => ⟨x.1, x.2.1⟩) (fun _ _ => trivial) (fun _ => rfl)
theorem argPins : ArgOk Try.prog 26 (fun _ => True) cPins :=
  (ArgOk.struct (l := [(0, 1, 23), (1, 1, 24)]) (by kernel_rfl) (.cons (ArgOk.slice (e := 46) (n := 2) (by kernel_rfl) argPn (by kernel_rfl) (by omega) (by rw [show Try.prog.bytesOf 46 = 16 by kernel_rfl]; omega) (fun _ => rfl)) (.cons (ArgOk.slice (e := 3) (n := 1) (by kernel_rfl) (ArgOk.int (k := .i64) (by kernel_rfl)) (by kernel_rfl) (by omega) (by rw [show Try.prog.bytesOf 3 = 8 by kernel_rfl]; omega) (fun _ => rfl)) (.nil)))).map (fun x => ⟨x.1, x.2.1⟩) (fun _ _ => trivial) (fun _ => rfl)
theorem argStrt : ArgOk Try.prog 68 (fun _ => True) cStrt :=
  (ArgOk.struct (l := [(0, 1, 3), (1, 1, 3), (2, 1, 3), (3, 1, 3), (4, 1, 3)]) (by kernel_rfl) (.cons (ArgOk.int (k := .i64) (by kernel_rfl)) (.cons (ArgOk.int (k := .i64) (by kernel_rfl)) (.cons (ArgOk.int (k := .i64) (by kernel_rfl)) (.cons (ArgOk.int (k := .i64) (by kernel_rfl)) (.cons (ArgOk.int (k := .i64) (by kernel_rfl)) (.nil))))))).map (fun x => ⟨x.1, x.2.1, x.2.2.1, x.2.2.2.1, x.2.2.2.2.1⟩) (fun _ _ => trivial) (fun _ => rfl)
theorem argDisk : ArgOk Try.prog 49 (fun _ => True) cDisk :=
  (ArgOk.struct (l := [(0, 1, 3), (1, 1, 3), (2, 1, 47)]) (by kernel_rfl) (.cons (ArgOk.int (k := .i64) (by kernel_rfl)) (.cons (ArgOk.int (k := .i64) (by kernel_rfl)) (.cons (ArgOk.slice (e := 68) (n := 5) (by kernel_rfl) argStrt (by kernel_rfl) (by omega) (by rw [show Try.prog.bytesOf 68 = 40 by kernel_rfl]; omega) (fun _ => rfl)) (.nil))))).map (fun x => ⟨x.1, x.2.1, x.2.2.1⟩) (fun _ _ => trivial) (fun _ => rfl)

end Go.Q
