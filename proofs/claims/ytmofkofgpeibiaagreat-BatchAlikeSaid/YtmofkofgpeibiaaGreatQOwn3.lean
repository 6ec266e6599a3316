/- The types and functions of this seat, as the rules ask for them. -/
import Derived.Test.YtmofkofgpeibiaaGreatProg
import Derived.Test.YtmofkofgpeibiaaGreatQDraw2
import Derived.Laws.Externs
import Derived.Laws.Bits64
import Derived.Laws.Shifts
set_option linter.unusedVariables false
set_option linter.unusedSimpArgs false
namespace Go.Q
open Go.Proofs
instance : TyMix Tryz.prog := ⟨by kernel_rfl⟩
instance : TyV Tryz.prog 1 false 1 := ⟨by kernel_rfl, by kernel_rfl⟩
instance : TyZ Tryz.prog 1 8 .nilFunc := ⟨by kernel_rfl⟩
instance : TyV Tryz.prog 2 false 1 := ⟨by kernel_rfl, by kernel_rfl⟩
instance : TyInt Tryz.prog 2 .i64 := ⟨by kernel_rfl⟩
instance : TyZ Tryz.prog 2 8 (.int .i64 0) := ⟨by kernel_rfl⟩
instance : TyV Tryz.prog 3 false 1 := ⟨by kernel_rfl, by kernel_rfl⟩
instance : TyInt Tryz.prog 3 .i64 := ⟨by kernel_rfl⟩
instance : TyZ Tryz.prog 3 8 (.int .i64 0) := ⟨by kernel_rfl⟩
instance : TyV Tryz.prog 4 false 1 := ⟨by kernel_rfl, by kernel_rfl⟩
instance : TyBool Tryz.prog 4 := ⟨by kernel_rfl⟩
instance : TyZ Tryz.prog 4 1 (.bool false) := ⟨by kernel_rfl⟩
instance : TyV Tryz.prog 5 false 1 := ⟨by kernel_rfl, by kernel_rfl⟩
instance : TyInt Tryz.prog 5 .u8 := ⟨by kernel_rfl⟩
instance : TyZ Tryz.prog 5 1 (.int .u8 0) := ⟨by kernel_rfl⟩
instance : TyV Tryz.prog 6 false 1 := ⟨by kernel_rfl, by kernel_rfl⟩
instance : TyInt Tryz.prog 6 .u8 := ⟨by kernel_rfl⟩
instance : TyZ Tryz.prog 6 1 (.int .u8 0) := ⟨by kernel_rfl⟩
instance : TyV Tryz.prog 7 true 4 := ⟨by kernel_rfl, by kernel_rfl⟩
instance : TyPl Tryz.prog 7 [(0, 1), (1, 1), (2, 1), (3, 1)] := ⟨by kernel_rfl⟩
instance : TyFld Tryz.prog 7 0 0 0 false := ⟨by kernel_rfl⟩
instance : TyFld Tryz.prog 7 1 1 0 false := ⟨by kernel_rfl⟩
instance : TyFld Tryz.prog 7 2 2 0 false := ⟨by kernel_rfl⟩
instance : TyFld Tryz.prog 7 3 3 0 false := ⟨by kernel_rfl⟩
instance : TyZ Tryz.prog 7 24 (.agg #[(.int .i64 0), (.int .i64 0), (.bool false), (.int .u8 0)]) := ⟨by kernel_rfl⟩
instance : TyV Tryz.prog 8 true 4 := ⟨by kernel_rfl, by kernel_rfl⟩
instance : TyPl Tryz.prog 8 [(0, 1), (1, 1), (2, 1), (3, 1)] := ⟨by kernel_rfl⟩
instance : TyFld Tryz.prog 8 0 0 0 false := ⟨by kernel_rfl⟩
instance : TyFld Tryz.prog 8 1 1 0 false := ⟨by kernel_rfl⟩
instance : TyFld Tryz.prog 8 2 2 0 false := ⟨by kernel_rfl⟩
instance : TyFld Tryz.prog 8 3 3 0 false := ⟨by kernel_rfl⟩
instance : TyZ Tryz.prog 8 24 (.agg #[(.int .i64 0), (.int .i64 0), (.bool false), (.int .u8 0)]) := ⟨by kernel_rfl⟩
instance : TyV Tryz.prog 9 false 1 := ⟨by kernel_rfl, by kernel_rfl⟩
instance : TyStr Tryz.prog 9 := ⟨by kernel_rfl⟩
instance : TyV Tryz.prog 10 false 1 := ⟨by kernel_rfl, by kernel_rfl⟩
instance : TyStr Tryz.prog 10 := ⟨by kernel_rfl⟩
instance : TyV Tryz.prog 11 false 1 := ⟨by kernel_rfl, by kernel_rfl⟩
instance : TyStr Tryz.prog 11 := ⟨by kernel_rfl⟩
instance : TyV Tryz.prog 12 false 1 := ⟨by kernel_rfl, by kernel_rfl⟩
instance : TyInt Tryz.prog 12 .u64 := ⟨by kernel_rfl⟩
instance : TyZ Tryz.prog 12 8 (.int .u64 0) := ⟨by kernel_rfl⟩
instance : TyV Tryz.prog 13 true 2 := ⟨by kernel_rfl, by kernel_rfl⟩
instance : TyPl Tryz.prog 13 [(0, 1), (1, 1)] := ⟨by kernel_rfl⟩
instance : TyFld Tryz.prog 13 0 0 0 false := ⟨by kernel_rfl⟩
instance : TyFld Tryz.prog 13 1 1 0 false := ⟨by kernel_rfl⟩
instance : TyV Tryz.prog 14 true 2 := ⟨by kernel_rfl, by kernel_rfl⟩
instance : TyPl Tryz.prog 14 [(0, 1), (1, 1)] := ⟨by kernel_rfl⟩
instance : TyFld Tryz.prog 14 0 0 0 false := ⟨by kernel_rfl⟩
instance : TyFld Tryz.prog 14 1 1 0 false := ⟨by kernel_rfl⟩
instance : TyV Tryz.prog 15 false 1 := ⟨by kernel_rfl, by kernel_rfl⟩
instance : TyZ Tryz.prog 15 8 (.pointer none) := ⟨by kernel_rfl⟩
instance : TyV Tryz.prog 16 false 1 := ⟨by kernel_rfl, by kernel_rfl⟩
instance : TyZ Tryz.prog 16 8 (.pointer none) := ⟨by kernel_rfl⟩
instance : TyV Tryz.prog 17 false 1 := ⟨by kernel_rfl, by kernel_rfl⟩
instance : TyZ Tryz.prog 17 8 (.pointer none) := ⟨by kernel_rfl⟩
instance : TyV Tryz.prog 18 true 1 := ⟨by kernel_rfl, by kernel_rfl⟩
instance : TyPl Tryz.prog 18 [(0, 1)] := ⟨by kernel_rfl⟩
instance : TyFld Tryz.prog 18 0 0 0 false := ⟨by kernel_rfl⟩
instance : TyZ Tryz.prog 18 8 (.agg #[(.pointer none)]) := ⟨by kernel_rfl⟩
instance : TyV Tryz.prog 19 true 1 := ⟨by kernel_rfl, by kernel_rfl⟩
instance : TyPl Tryz.prog 19 [(0, 1)] := ⟨by kernel_rfl⟩
instance : TyFld Tryz.prog 19 0 0 0 false := ⟨by kernel_rfl⟩
instance : TyZ Tryz.prog 19 8 (.agg #[(.pointer none)]) := ⟨by kernel_rfl⟩
instance : TyV Tryz.prog 20 false 1 := ⟨by kernel_rfl, by kernel_rfl⟩
instance : TyZ Tryz.prog 20 16 .nilIface := ⟨by kernel_rfl⟩
instance : TyV Tryz.prog 21 false 1 := ⟨by kernel_rfl, by kernel_rfl⟩
instance : TyInt Tryz.prog 21 .i32 := ⟨by kernel_rfl⟩
instance : TyZ Tryz.prog 21 4 (.int .i32 0) := ⟨by kernel_rfl⟩
instance : TyV Tryz.prog 22 false 1 := ⟨by kernel_rfl, by kernel_rfl⟩
instance : TySl Tryz.prog 22 5 := ⟨by kernel_rfl⟩
instance : TyZ Tryz.prog 22 24 (.slice none 0 0) := ⟨by kernel_rfl⟩
instance : TyV Tryz.prog 23 false 1 := ⟨by kernel_rfl, by kernel_rfl⟩
instance : TyZ Tryz.prog 23 8 .nilFunc := ⟨by kernel_rfl⟩
instance : TyV Tryz.prog 24 false 1 := ⟨by kernel_rfl, by kernel_rfl⟩
instance : TyZ Tryz.prog 24 8 (.pointer none) := ⟨by kernel_rfl⟩
instance : TyV Tryz.prog 25 false 1 := ⟨by kernel_rfl, by kernel_rfl⟩
instance : TyZ Tryz.prog 25 8 .nilFunc := ⟨by kernel_rfl⟩
instance : TyV Tryz.prog 26 true 4 := ⟨by kernel_rfl, by kernel_rfl⟩
instance : TyPl Tryz.prog 26 [(0, 1), (1, 1), (2, 1), (3, 1)] := ⟨by kernel_rfl⟩
instance : TyEqI Tryz.prog 26 4 := ⟨by kernel_rfl, by kernel_rfl, by kernel_rfl⟩
instance : TyFld Tryz.prog 26 0 0 0 false := ⟨by kernel_rfl⟩
instance : TyFld Tryz.prog 26 1 1 0 false := ⟨by kernel_rfl⟩
instance : TyFld Tryz.prog 26 2 2 0 false := ⟨by kernel_rfl⟩
instance : TyFld Tryz.prog 26 3 3 0 false := ⟨by kernel_rfl⟩
instance : TyZ Tryz.prog 26 32 (.agg #[(.int .i64 0), (.int .i64 0), (.int .i64 0), (.int .i64 0)]) := ⟨by kernel_rfl⟩
instance : TyV Tryz.prog 27 true 4 := ⟨by kernel_rfl, by kernel_rfl⟩
instance : TyPl Tryz.prog 27 [(0, 1), (1, 1), (2, 1), (3, 1)] := ⟨by kernel_rfl⟩
instance : TyEqI Tryz.prog 27 4 := ⟨by kernel_rfl, by kernel_rfl, by kernel_rfl⟩
instance : TyFld Tryz.prog 27 0 0 0 false := ⟨by kernel_rfl⟩
instance : TyFld Tryz.prog 27 1 1 0 false := ⟨by kernel_rfl⟩
instance : TyFld Tryz.prog 27 2 2 0 false := ⟨by kernel_rfl⟩
instance : TyFld Tryz.prog 27 3 3 0 false := ⟨by kernel_rfl⟩
instance : TyZ Tryz.prog 27 32 (.agg #[(.int .i64 0), (.int .i64 0), (.int .i64 0), (.int .i64 0)]) := ⟨by kernel_rfl⟩
instance : TyV Tryz.prog 28 false 1 := ⟨by kernel_rfl, by kernel_rfl⟩
instance : TyZ Tryz.prog 28 8 .nilFunc := ⟨by kernel_rfl⟩
instance : TyV Tryz.prog 29 true 1 := ⟨by kernel_rfl, by kernel_rfl⟩
instance : TyPl Tryz.prog 29 [(0, 1)] := ⟨by kernel_rfl⟩
instance : TyEqI Tryz.prog 29 1 := ⟨by kernel_rfl, by kernel_rfl, by kernel_rfl⟩
instance : TyFld Tryz.prog 29 0 0 0 false := ⟨by kernel_rfl⟩
instance : TyZ Tryz.prog 29 8 (.agg #[(.int .i64 0)]) := ⟨by kernel_rfl⟩
instance : TyV Tryz.prog 30 true 1 := ⟨by kernel_rfl, by kernel_rfl⟩
instance : TyPl Tryz.prog 30 [(0, 1)] := ⟨by kernel_rfl⟩
instance : TyEqI Tryz.prog 30 1 := ⟨by kernel_rfl, by kernel_rfl, by kernel_rfl⟩
instance : TyFld Tryz.prog 30 0 0 0 false := ⟨by kernel_rfl⟩
instance : TyZ Tryz.prog 30 8 (.agg #[(.int .i64 0)]) := ⟨by kernel_rfl⟩
instance : TyV Tryz.prog 31 false 1 := ⟨by kernel_rfl, by kernel_rfl⟩
instance : TyZ Tryz.prog 31 8 .nilFunc := ⟨by kernel_rfl⟩
instance : TyV Tryz.prog 32 false 1 := ⟨by kernel_rfl, by kernel_rfl⟩
instance : TySl Tryz.prog 32 60 := ⟨by kernel_rfl⟩
instance : TyZ Tryz.prog 32 24 (.slice none 0 0) := ⟨by kernel_rfl⟩
instance : TyV Tryz.prog 33 true 2 := ⟨by kernel_rfl, by kernel_rfl⟩
instance : TyPl Tryz.prog 33 [(0, 1), (1, 1)] := ⟨by kernel_rfl⟩
instance : TyFld Tryz.prog 33 0 0 0 false := ⟨by kernel_rfl⟩
instance : TyFld Tryz.prog 33 1 1 0 false := ⟨by kernel_rfl⟩
instance : TyZ Tryz.prog 33 32 (.agg #[(.int .i64 0), (.slice none 0 0)]) := ⟨by kernel_rfl⟩
instance : TyV Tryz.prog 34 true 2 := ⟨by kernel_rfl, by kernel_rfl⟩
instance : TyPl Tryz.prog 34 [(0, 1), (1, 1)] := ⟨by kernel_rfl⟩
instance : TyFld Tryz.prog 34 0 0 0 false := ⟨by kernel_rfl⟩
instance : TyFld Tryz.prog 34 1 1 0 false := ⟨by kernel_rfl⟩
instance : TyZ Tryz.prog 34 32 (.agg #[(.int .i64 0), (.slice none 0 0)]) := ⟨by kernel_rfl⟩
instance : TyV Tryz.prog 35 false 1 := ⟨by kernel_rfl, by kernel_rfl⟩
instance : TyZ Tryz.prog 35 8 .nilFunc := ⟨by kernel_rfl⟩
instance : TyV Tryz.prog 36 false 1 := ⟨by kernel_rfl, by kernel_rfl⟩
instance : TyZ Tryz.prog 36 8 .nilFunc := ⟨by kernel_rfl⟩
instance : TyV Tryz.prog 37 false 1 := ⟨by kernel_rfl, by kernel_rfl⟩
instance : TySl Tryz.prog 37 38 := ⟨by kernel_rfl⟩
instance : TyZ Tryz.prog 37 24 (.slice none 0 0) := ⟨by kernel_rfl⟩
instance : TyV Tryz.prog 38 false 1 := ⟨by kernel_rfl, by kernel_rfl⟩
instance : TySl Tryz.prog 38 3 := ⟨by kernel_rfl⟩
instance : TyZ Tryz.prog 38 24 (.slice none 0 0) := ⟨by kernel_rfl⟩
instance : TyV Tryz.prog 39 true 3 := ⟨by kernel_rfl, by kernel_rfl⟩
instance : TyPl Tryz.prog 39 [(0, 1), (1, 1), (2, 1)] := ⟨by kernel_rfl⟩
instance : TyFld Tryz.prog 39 0 0 0 false := ⟨by kernel_rfl⟩
instance : TyFld Tryz.prog 39 1 1 0 false := ⟨by kernel_rfl⟩
instance : TyFld Tryz.prog 39 2 2 0 false := ⟨by kernel_rfl⟩
instance : TyZ Tryz.prog 39 72 (.agg #[(.slice none 0 0), (.slice none 0 0), (.slice none 0 0)]) := ⟨by kernel_rfl⟩
instance : TyV Tryz.prog 40 true 3 := ⟨by kernel_rfl, by kernel_rfl⟩
instance : TyPl Tryz.prog 40 [(0, 1), (1, 1), (2, 1)] := ⟨by kernel_rfl⟩
instance : TyFld Tryz.prog 40 0 0 0 false := ⟨by kernel_rfl⟩
instance : TyFld Tryz.prog 40 1 1 0 false := ⟨by kernel_rfl⟩
instance : TyFld Tryz.prog 40 2 2 0 false := ⟨by kernel_rfl⟩
instance : TyZ Tryz.prog 40 72 (.agg #[(.slice none 0 0), (.slice none 0 0), (.slice none 0 0)]) := ⟨by kernel_rfl⟩
instance : TyV Tryz.prog 41 false 1 := ⟨by kernel_rfl, by kernel_rfl⟩
instance : TyInt Tryz.prog 41 .i64 := ⟨by kernel_rfl⟩
instance : TyZ Tryz.prog 41 8 (.int .i64 0) := ⟨by kernel_rfl⟩
instance : TyV Tryz.prog 43 false 1 := ⟨by kernel_rfl, by kernel_rfl⟩
instance : TyZ Tryz.prog 43 8 .nilFunc := ⟨by kernel_rfl⟩
instance : TyV Tryz.prog 44 false 1 := ⟨by kernel_rfl, by kernel_rfl⟩
instance : TyZ Tryz.prog 44 8 .nilFunc := ⟨by kernel_rfl⟩
instance : TyV Tryz.prog 46 false 1 := ⟨by kernel_rfl, by kernel_rfl⟩
instance : TyZ Tryz.prog 46 8 .nilFunc := ⟨by kernel_rfl⟩
instance : TyV Tryz.prog 47 false 1 := ⟨by kernel_rfl, by kernel_rfl⟩
instance : TyZ Tryz.prog 47 8 .nilFunc := ⟨by kernel_rfl⟩
instance : TyV Tryz.prog 48 false 1 := ⟨by kernel_rfl, by kernel_rfl⟩
instance : TyZ Tryz.prog 48 8 .nilFunc := ⟨by kernel_rfl⟩
instance : TyV Tryz.prog 49 true 2 := ⟨by kernel_rfl, by kernel_rfl⟩
instance : TyPl Tryz.prog 49 [(0, 1), (1, 1)] := ⟨by kernel_rfl⟩
instance : TyFld Tryz.prog 49 0 0 0 false := ⟨by kernel_rfl⟩
instance : TyFld Tryz.prog 49 1 1 0 false := ⟨by kernel_rfl⟩
instance : TyZ Tryz.prog 49 32 (.agg #[(.slice none 0 0), (.int .i64 0)]) := ⟨by kernel_rfl⟩
instance : TyV Tryz.prog 50 true 2 := ⟨by kernel_rfl, by kernel_rfl⟩
instance : TyPl Tryz.prog 50 [(0, 1), (1, 1)] := ⟨by kernel_rfl⟩
instance : TyFld Tryz.prog 50 0 0 0 false := ⟨by kernel_rfl⟩
instance : TyFld Tryz.prog 50 1 1 0 false := ⟨by kernel_rfl⟩
instance : TyZ Tryz.prog 50 32 (.agg #[(.slice none 0 0), (.int .i64 0)]) := ⟨by kernel_rfl⟩
instance : TyV Tryz.prog 51 false 1 := ⟨by kernel_rfl, by kernel_rfl⟩
instance : TyZ Tryz.prog 51 8 .nilFunc := ⟨by kernel_rfl⟩
instance : TyV Tryz.prog 52 false 1 := ⟨by kernel_rfl, by kernel_rfl⟩
instance : TySl Tryz.prog 52 37 := ⟨by kernel_rfl⟩
instance : TyZ Tryz.prog 52 24 (.slice none 0 0) := ⟨by kernel_rfl⟩
instance : TyV Tryz.prog 54 false 1 := ⟨by kernel_rfl, by kernel_rfl⟩
instance : TyZ Tryz.prog 54 8 .nilFunc := ⟨by kernel_rfl⟩
instance : TyV Tryz.prog 55 false 1 := ⟨by kernel_rfl, by kernel_rfl⟩
instance : TyZ Tryz.prog 55 8 .nilFunc := ⟨by kernel_rfl⟩
instance : TyV Tryz.prog 56 false 1 := ⟨by kernel_rfl, by kernel_rfl⟩
instance : TyZ Tryz.prog 56 8 .nilFunc := ⟨by kernel_rfl⟩
instance : TyV Tryz.prog 57 true 2 := ⟨by kernel_rfl, by kernel_rfl⟩
instance : TyPl Tryz.prog 57 [(0, 1), (1, 1)] := ⟨by kernel_rfl⟩
instance : TyFld Tryz.prog 57 0 0 0 false := ⟨by kernel_rfl⟩
instance : TyFld Tryz.prog 57 1 1 0 false := ⟨by kernel_rfl⟩
instance : TyZ Tryz.prog 57 32 (.agg #[(.slice none 0 0), (.int .i64 0)]) := ⟨by kernel_rfl⟩
instance : TyV Tryz.prog 58 true 2 := ⟨by kernel_rfl, by kernel_rfl⟩
instance : TyPl Tryz.prog 58 [(0, 1), (1, 1)] := ⟨by kernel_rfl⟩
instance : TyFld Tryz.prog 58 0 0 0 false := ⟨by kernel_rfl⟩
instance : TyFld Tryz.prog 58 1 1 0 false := ⟨by kernel_rfl⟩
instance : TyZ Tryz.prog 58 32 (.agg #[(.slice none 0 0), (.int .i64 0)]) := ⟨by kernel_rfl⟩
instance : TyV Tryz.prog 59 true 2 := ⟨by kernel_rfl, by kernel_rfl⟩
instance : TyPl Tryz.prog 59 [(0, 1), (1, 1)] := ⟨by kernel_rfl⟩
instance : TyEqI Tryz.prog 59 2 := ⟨by kernel_rfl, by kernel_rfl, by kernel_rfl⟩
instance : TyFld Tryz.prog 59 0 0 0 false := ⟨by kernel_rfl⟩
instance : TyFld Tryz.prog 59 1 1 0 false := ⟨by kernel_rfl⟩
instance : TyZ Tryz.prog 59 16 (.agg #[(.int .i64 0), (.int .i64 0)]) := ⟨by kernel_rfl⟩
instance : TyV Tryz.prog 60 true 2 := ⟨by kernel_rfl, by kernel_rfl⟩
instance : TyPl Tryz.prog 60 [(0, 1), (1, 1)] := ⟨by kernel_rfl⟩
instance : TyEqI Tryz.prog 60 2 := ⟨by kernel_rfl, by kernel_rfl, by kernel_rfl⟩
instance : TyFld Tryz.prog 60 0 0 0 false := ⟨by kernel_rfl⟩
instance : TyFld Tryz.prog 60 1 1 0 false := ⟨by kernel_rfl⟩
instance : TyZ Tryz.prog 60 16 (.agg #[(.int .i64 0), (.int .i64 0)]) := ⟨by kernel_rfl⟩
instance : TyV Tryz.prog 61 false 1 := ⟨by kernel_rfl, by kernel_rfl⟩
instance : TyZ Tryz.prog 61 8 .nilFunc := ⟨by kernel_rfl⟩
instance : TyV Tryz.prog 62 false 1 := ⟨by kernel_rfl, by kernel_rfl⟩
instance : TyZ Tryz.prog 62 8 .nilFunc := ⟨by kernel_rfl⟩
instance : TyV Tryz.prog 63 false 1 := ⟨by kernel_rfl, by kernel_rfl⟩
instance : TyZ Tryz.prog 63 8 .nilFunc := ⟨by kernel_rfl⟩
instance : TyV Tryz.prog 65 false 1 := ⟨by kernel_rfl, by kernel_rfl⟩
instance : TyZ Tryz.prog 65 8 .nilFunc := ⟨by kernel_rfl⟩
instance : TyV Tryz.prog 66 true 1 := ⟨by kernel_rfl, by kernel_rfl⟩
instance : TyPl Tryz.prog 66 [(0, 1)] := ⟨by kernel_rfl⟩
instance : TyFld Tryz.prog 66 0 0 0 false := ⟨by kernel_rfl⟩
instance : TyZ Tryz.prog 66 24 (.agg #[(.slice none 0 0)]) := ⟨by kernel_rfl⟩
instance : TyV Tryz.prog 67 true 1 := ⟨by kernel_rfl, by kernel_rfl⟩
instance : TyPl Tryz.prog 67 [(0, 1)] := ⟨by kernel_rfl⟩
instance : TyFld Tryz.prog 67 0 0 0 false := ⟨by kernel_rfl⟩
instance : TyZ Tryz.prog 67 24 (.agg #[(.slice none 0 0)]) := ⟨by kernel_rfl⟩
instance : TyV Tryz.prog 69 false 1 := ⟨by kernel_rfl, by kernel_rfl⟩
instance : TyZ Tryz.prog 69 8 .nilFunc := ⟨by kernel_rfl⟩
instance : TyV Tryz.prog 70 false 1 := ⟨by kernel_rfl, by kernel_rfl⟩
instance : TyZ Tryz.prog 70 8 .nilFunc := ⟨by kernel_rfl⟩
instance : TyV Tryz.prog 71 false 1 := ⟨by kernel_rfl, by kernel_rfl⟩
instance : TyZ Tryz.prog 71 8 .nilFunc := ⟨by kernel_rfl⟩
instance : TyV Tryz.prog 72 false 1 := ⟨by kernel_rfl, by kernel_rfl⟩
instance : TyZ Tryz.prog 72 8 .nilFunc := ⟨by kernel_rfl⟩
instance : TyV Tryz.prog 73 false 1 := ⟨by kernel_rfl, by kernel_rfl⟩
instance : TyZ Tryz.prog 73 8 .nilFunc := ⟨by kernel_rfl⟩
instance : TyV Tryz.prog 74 false 1 := ⟨by kernel_rfl, by kernel_rfl⟩
instance : TyZ Tryz.prog 74 8 .nilFunc := ⟨by kernel_rfl⟩
instance : TyV Tryz.prog 75 false 1 := ⟨by kernel_rfl, by kernel_rfl⟩
instance : TyZ Tryz.prog 75 8 .nilFunc := ⟨by kernel_rfl⟩
instance : TyV Tryz.prog 76 false 1 := ⟨by kernel_rfl, by kernel_rfl⟩
instance : TyZ Tryz.prog 76 8 .nilFunc := ⟨by kernel_rfl⟩
instance : TyV Tryz.prog 78 false 1 := ⟨by kernel_rfl, by kernel_rfl⟩
instance : TyZ Tryz.prog 78 8 .nilFunc := ⟨by kernel_rfl⟩
instance : TyV Tryz.prog 79 false 1 := ⟨by kernel_rfl, by kernel_rfl⟩
instance : TyZ Tryz.prog 79 8 .nilFunc := ⟨by kernel_rfl⟩
instance : TyV Tryz.prog 80 false 1 := ⟨by kernel_rfl, by kernel_rfl⟩
instance : TyZ Tryz.prog 80 8 .nilFunc := ⟨by kernel_rfl⟩
instance : TyV Tryz.prog 81 false 1 := ⟨by kernel_rfl, by kernel_rfl⟩
instance : TyZ Tryz.prog 81 8 .nilFunc := ⟨by kernel_rfl⟩
instance : TyV Tryz.prog 82 false 1 := ⟨by kernel_rfl, by kernel_rfl⟩
instance : TyZ Tryz.prog 82 8 .nilFunc := ⟨by kernel_rfl⟩
instance : TyV Tryz.prog 83 false 1 := ⟨by kernel_rfl, by kernel_rfl⟩
instance : TyZ Tryz.prog 83 8 .nilFunc := ⟨by kernel_rfl⟩
instance : TyV Tryz.prog 84 false 1 := ⟨by kernel_rfl, by kernel_rfl⟩
instance : TyZ Tryz.prog 84 8 (.pointer none) := ⟨by kernel_rfl⟩
instance : TyV Tryz.prog 85 false 1 := ⟨by kernel_rfl, by kernel_rfl⟩
instance : TyZ Tryz.prog 85 8 .nilFunc := ⟨by kernel_rfl⟩
instance : TyV Tryz.prog 86 false 1 := ⟨by kernel_rfl, by kernel_rfl⟩
instance : TySl Tryz.prog 86 4 := ⟨by kernel_rfl⟩
instance : TyZ Tryz.prog 86 24 (.slice none 0 0) := ⟨by kernel_rfl⟩
instance : TyV Tryz.prog 87 true 3 := ⟨by kernel_rfl, by kernel_rfl⟩
instance : TyPl Tryz.prog 87 [(0, 1), (1, 1), (2, 1)] := ⟨by kernel_rfl⟩
instance : TyFld Tryz.prog 87 0 0 0 false := ⟨by kernel_rfl⟩
instance : TyFld Tryz.prog 87 1 1 0 false := ⟨by kernel_rfl⟩
instance : TyFld Tryz.prog 87 2 2 0 false := ⟨by kernel_rfl⟩
instance : TyZ Tryz.prog 87 72 (.agg #[(.slice none 0 0), (.slice none 0 0), (.slice none 0 0)]) := ⟨by kernel_rfl⟩
instance : TyV Tryz.prog 88 true 3 := ⟨by kernel_rfl, by kernel_rfl⟩
instance : TyPl Tryz.prog 88 [(0, 1), (1, 1), (2, 1)] := ⟨by kernel_rfl⟩
instance : TyFld Tryz.prog 88 0 0 0 false := ⟨by kernel_rfl⟩
instance : TyFld Tryz.prog 88 1 1 0 false := ⟨by kernel_rfl⟩
instance : TyFld Tryz.prog 88 2 2 0 false := ⟨by kernel_rfl⟩
instance : TyZ Tryz.prog 88 72 (.agg #[(.slice none 0 0), (.slice none 0 0), (.slice none 0 0)]) := ⟨by kernel_rfl⟩
instance : TyV Tryz.prog 89 false 1 := ⟨by kernel_rfl, by kernel_rfl⟩
instance : TyZ Tryz.prog 89 8 .nilFunc := ⟨by kernel_rfl⟩
instance : TyV Tryz.prog 90 false 1 := ⟨by kernel_rfl, by kernel_rfl⟩
instance : TyZ Tryz.prog 90 8 .nilFunc := ⟨by kernel_rfl⟩
instance : TyV Tryz.prog 91 false 1 := ⟨by kernel_rfl, by kernel_rfl⟩
instance : TyZ Tryz.prog 91 8 .nilFunc := ⟨by kernel_rfl⟩
instance : TyV Tryz.prog 92 false 1 := ⟨by kernel_rfl, by kernel_rfl⟩
instance : TyZ Tryz.prog 92 16 .nilIface := ⟨by kernel_rfl⟩
instance : TyV Tryz.prog 93 false 1 := ⟨by kernel_rfl, by kernel_rfl⟩
instance : TyZ Tryz.prog 93 16 .nilIface := ⟨by kernel_rfl⟩
instance : TyV Tryz.prog 94 false 1 := ⟨by kernel_rfl, by kernel_rfl⟩
instance : TyZ Tryz.prog 94 8 .nilFunc := ⟨by kernel_rfl⟩
instance : TyV Tryz.prog 95 false 1 := ⟨by kernel_rfl, by kernel_rfl⟩
instance : TyZ Tryz.prog 95 8 .nilFunc := ⟨by kernel_rfl⟩
instance : TyV Tryz.prog 96 false 1 := ⟨by kernel_rfl, by kernel_rfl⟩
instance : TyZ Tryz.prog 96 8 .nilFunc := ⟨by kernel_rfl⟩
instance : TyV Tryz.prog 97 false 1 := ⟨by kernel_rfl, by kernel_rfl⟩
instance : TyZ Tryz.prog 97 8 .nilFunc := ⟨by kernel_rfl⟩
instance : TyV Tryz.prog 98 false 1 := ⟨by kernel_rfl, by kernel_rfl⟩
instance : TyZ Tryz.prog 98 8 .nilFunc := ⟨by kernel_rfl⟩
instance : TyV Tryz.prog 99 false 1 := ⟨by kernel_rfl, by kernel_rfl⟩
instance : TyZ Tryz.prog 99 8 .nilFunc := ⟨by kernel_rfl⟩
instance : TyV Tryz.prog 100 false 1 := ⟨by kernel_rfl, by kernel_rfl⟩
instance : TyZ Tryz.prog 100 8 .nilFunc := ⟨by kernel_rfl⟩
instance : TyV Tryz.prog 101 true 1 := ⟨by kernel_rfl, by kernel_rfl⟩
instance : TyPl Tryz.prog 101 [(0, 1)] := ⟨by kernel_rfl⟩
instance : TyEqI Tryz.prog 101 1 := ⟨by kernel_rfl, by kernel_rfl, by kernel_rfl⟩
instance : TyFld Tryz.prog 101 0 0 0 false := ⟨by kernel_rfl⟩
instance : TyZ Tryz.prog 101 8 (.agg #[(.int .i64 0)]) := ⟨by kernel_rfl⟩
instance : TyV Tryz.prog 102 true 1 := ⟨by kernel_rfl, by kernel_rfl⟩
instance : TyPl Tryz.prog 102 [(0, 1)] := ⟨by kernel_rfl⟩
instance : TyEqI Tryz.prog 102 1 := ⟨by kernel_rfl, by kernel_rfl, by kernel_rfl⟩
instance : TyFld Tryz.prog 102 0 0 0 false := ⟨by kernel_rfl⟩
instance : TyZ Tryz.prog 102 8 (.agg #[(.int .i64 0)]) := ⟨by kernel_rfl⟩
instance : TyV Tryz.prog 103 true 2 := ⟨by kernel_rfl, by kernel_rfl⟩
instance : TyPl Tryz.prog 103 [(0, 1), (1, 1)] := ⟨by kernel_rfl⟩
instance : TyEqI Tryz.prog 103 2 := ⟨by kernel_rfl, by kernel_rfl, by kernel_rfl⟩
instance : TyFld Tryz.prog 103 0 0 0 false := ⟨by kernel_rfl⟩
instance : TyFld Tryz.prog 103 1 1 0 false := ⟨by kernel_rfl⟩
instance : TyZ Tryz.prog 103 16 (.agg #[(.int .i64 0), (.int .i64 0)]) := ⟨by kernel_rfl⟩
instance : TyV Tryz.prog 104 true 2 := ⟨by kernel_rfl, by kernel_rfl⟩
instance : TyPl Tryz.prog 104 [(0, 1), (1, 1)] := ⟨by kernel_rfl⟩
instance : TyEqI Tryz.prog 104 2 := ⟨by kernel_rfl, by kernel_rfl, by kernel_rfl⟩
instance : TyFld Tryz.prog 104 0 0 0 false := ⟨by kernel_rfl⟩
instance : TyFld Tryz.prog 104 1 1 0 false := ⟨by kernel_rfl⟩
instance : TyZ Tryz.prog 104 16 (.agg #[(.int .i64 0), (.int .i64 0)]) := ⟨by kernel_rfl⟩
instance : TyV Tryz.prog 105 true 3 := ⟨by kernel_rfl, by kernel_rfl⟩
instance : TyPl Tryz.prog 105 [(0, 1), (1, 1), (2, 1)] := ⟨by kernel_rfl⟩
instance : TyEqI Tryz.prog 105 3 := ⟨by kernel_rfl, by kernel_rfl, by kernel_rfl⟩
instance : TyFld Tryz.prog 105 0 0 0 false := ⟨by kernel_rfl⟩
instance : TyFld Tryz.prog 105 1 1 0 false := ⟨by kernel_rfl⟩
instance : TyFld Tryz.prog 105 2 2 0 false := ⟨by kernel_rfl⟩
instance : TyZ Tryz.prog 105 24 (.agg #[(.int .i64 0), (.int .i64 0), (.int .i64 0)]) := ⟨by kernel_rfl⟩
instance : TyV Tryz.prog 106 true 3 := ⟨by kernel_rfl, by kernel_rfl⟩
instance : TyPl Tryz.prog 106 [(0, 1), (1, 1), (2, 1)] := ⟨by kernel_rfl⟩
instance : TyEqI Tryz.prog 106 3 := ⟨by kernel_rfl, by kernel_rfl, by kernel_rfl⟩
instance : TyFld Tryz.prog 106 0 0 0 false := ⟨by kernel_rfl⟩
instance : TyFld Tryz.prog 106 1 1 0 false := ⟨by kernel_rfl⟩
instance : TyFld Tryz.prog 106 2 2 0 false := ⟨by kernel_rfl⟩
instance : TyZ Tryz.prog 106 24 (.agg #[(.int .i64 0), (.int .i64 0), (.int .i64 0)]) := ⟨by kernel_rfl⟩
instance : TyV Tryz.prog 107 true 3 := ⟨by kernel_rfl, by kernel_rfl⟩
instance : TyPl Tryz.prog 107 [(0, 1), (1, 1), (2, 1)] := ⟨by kernel_rfl⟩
instance : TyEqI Tryz.prog 107 3 := ⟨by kernel_rfl, by kernel_rfl, by kernel_rfl⟩
instance : TyFld Tryz.prog 107 0 0 0 false := ⟨by kernel_rfl⟩
instance : TyFld Tryz.prog 107 1 1 0 false := ⟨by kernel_rfl⟩
instance : TyFld Tryz.prog 107 2 2 0 false := ⟨by kernel_rfl⟩
instance : TyZ Tryz.prog 107 24 (.agg #[(.int .i64 0), (.int .i64 0), (.int .i64 0)]) := ⟨by kernel_rfl⟩
instance : TyV Tryz.prog 108 false 1 := ⟨by kernel_rfl, by kernel_rfl⟩
instance : TyZ Tryz.prog 108 8 .nilFunc := ⟨by kernel_rfl⟩
instance : TyV Tryz.prog 109 false 1 := ⟨by kernel_rfl, by kernel_rfl⟩
instance : TyZ Tryz.prog 109 8 .nilFunc := ⟨by kernel_rfl⟩
instance : TyV Tryz.prog 110 false 1 := ⟨by kernel_rfl, by kernel_rfl⟩
instance : TyZ Tryz.prog 110 8 .nilFunc := ⟨by kernel_rfl⟩
instance : TyV Tryz.prog 111 false 1 := ⟨by kernel_rfl, by kernel_rfl⟩
instance : TyInt Tryz.prog 111 .u64 := ⟨by kernel_rfl⟩
instance : TyZ Tryz.prog 111 8 (.int .u64 0) := ⟨by kernel_rfl⟩
instance : TyV Tryz.prog 112 false 1 := ⟨by kernel_rfl, by kernel_rfl⟩
instance : TyZ Tryz.prog 112 8 .nilFunc := ⟨by kernel_rfl⟩
instance : TyV Tryz.prog 113 false 1 := ⟨by kernel_rfl, by kernel_rfl⟩
instance : TyInt Tryz.prog 113 .i64 := ⟨by kernel_rfl⟩
instance : TyZ Tryz.prog 113 8 (.int .i64 0) := ⟨by kernel_rfl⟩
instance : TyV Tryz.prog 115 false 1 := ⟨by kernel_rfl, by kernel_rfl⟩
instance : TyZ Tryz.prog 115 8 .nilFunc := ⟨by kernel_rfl⟩
instance : TyV Tryz.prog 116 false 1 := ⟨by kernel_rfl, by kernel_rfl⟩
instance : TyZ Tryz.prog 116 8 .nilFunc := ⟨by kernel_rfl⟩
instance : TyV Tryz.prog 117 false 1 := ⟨by kernel_rfl, by kernel_rfl⟩
instance : TyInt Tryz.prog 117 .i64 := ⟨by kernel_rfl⟩
instance : TyZ Tryz.prog 117 8 (.int .i64 0) := ⟨by kernel_rfl⟩
instance : TyV Tryz.prog 119 false 1 := ⟨by kernel_rfl, by kernel_rfl⟩
instance : TyZ Tryz.prog 119 8 .nilFunc := ⟨by kernel_rfl⟩
instance : TyV Tryz.prog 120 false 1 := ⟨by kernel_rfl, by kernel_rfl⟩
instance : TyZ Tryz.prog 120 8 .nilFunc := ⟨by kernel_rfl⟩
instance : TyV Tryz.prog 121 false 1 := ⟨by kernel_rfl, by kernel_rfl⟩
instance : TyZ Tryz.prog 121 8 .nilFunc := ⟨by kernel_rfl⟩
instance : TyV Tryz.prog 123 false 1 := ⟨by kernel_rfl, by kernel_rfl⟩
instance : TyZ Tryz.prog 123 8 .nilFunc := ⟨by kernel_rfl⟩
instance : TyV Tryz.prog 124 false 1 := ⟨by kernel_rfl, by kernel_rfl⟩
instance : TyZ Tryz.prog 124 8 .nilFunc := ⟨by kernel_rfl⟩
instance : TyV Tryz.prog 125 false 1 := ⟨by kernel_rfl, by kernel_rfl⟩
instance : TyInt Tryz.prog 125 .u32 := ⟨by kernel_rfl⟩
instance : TyZ Tryz.prog 125 4 (.int .u32 0) := ⟨by kernel_rfl⟩
instance : TyV Tryz.prog 126 false 1 := ⟨by kernel_rfl, by kernel_rfl⟩
instance : TyZ Tryz.prog 126 8 .nilFunc := ⟨by kernel_rfl⟩
instance : TyV Tryz.prog 127 false 1 := ⟨by kernel_rfl, by kernel_rfl⟩
instance : TyInt Tryz.prog 127 .u64 := ⟨by kernel_rfl⟩
instance : TyZ Tryz.prog 127 8 (.int .u64 0) := ⟨by kernel_rfl⟩
instance : TyV Tryz.prog 128 false 1 := ⟨by kernel_rfl, by kernel_rfl⟩
instance : TyZ Tryz.prog 128 8 .nilFunc := ⟨by kernel_rfl⟩
instance : TyV Tryz.prog 129 false 1 := ⟨by kernel_rfl, by kernel_rfl⟩
instance : TyInt Tryz.prog 129 .u64 := ⟨by kernel_rfl⟩
instance : TyZ Tryz.prog 129 8 (.int .u64 0) := ⟨by kernel_rfl⟩
instance : TyV Tryz.prog 130 false 1 := ⟨by kernel_rfl, by kernel_rfl⟩
instance : TyZ Tryz.prog 130 8 .nilFunc := ⟨by kernel_rfl⟩
instance : TyV Tryz.prog 131 false 1 := ⟨by kernel_rfl, by kernel_rfl⟩
instance : TyZ Tryz.prog 131 8 .nilFunc := ⟨by kernel_rfl⟩
instance : TyV Tryz.prog 132 false 1 := ⟨by kernel_rfl, by kernel_rfl⟩
instance : TyZ Tryz.prog 132 8 .nilFunc := ⟨by kernel_rfl⟩
instance : TyV Tryz.prog 133 false 1 := ⟨by kernel_rfl, by kernel_rfl⟩
instance : TyZ Tryz.prog 133 8 (.pointer none) := ⟨by kernel_rfl⟩
instance : TyV Tryz.prog 134 false 1 := ⟨by kernel_rfl, by kernel_rfl⟩
instance : TyZ Tryz.prog 134 8 .nilFunc := ⟨by kernel_rfl⟩
instance : TyV Tryz.prog 135 false 1 := ⟨by kernel_rfl, by kernel_rfl⟩
instance : TyZ Tryz.prog 135 8 (.pointer none) := ⟨by kernel_rfl⟩
instance : TyV Tryz.prog 137 false 1 := ⟨by kernel_rfl, by kernel_rfl⟩
instance : TyZ Tryz.prog 137 8 .nilFunc := ⟨by kernel_rfl⟩
instance : TyV Tryz.prog 138 false 1 := ⟨by kernel_rfl, by kernel_rfl⟩
instance : TyZ Tryz.prog 138 8 .nilFunc := ⟨by kernel_rfl⟩
instance : TyV Tryz.prog 139 true 4 := ⟨by kernel_rfl, by kernel_rfl⟩
instance : TyPl Tryz.prog 139 [(0, 1), (1, 1), (2, 1), (3, 1)] := ⟨by kernel_rfl⟩
instance : TyFld Tryz.prog 139 0 0 0 false := ⟨by kernel_rfl⟩
instance : TyFld Tryz.prog 139 1 1 0 false := ⟨by kernel_rfl⟩
instance : TyFld Tryz.prog 139 2 2 0 false := ⟨by kernel_rfl⟩
instance : TyFld Tryz.prog 139 3 3 0 false := ⟨by kernel_rfl⟩
instance : TyV Tryz.prog 140 true 4 := ⟨by kernel_rfl, by kernel_rfl⟩
instance : TyPl Tryz.prog 140 [(0, 1), (1, 1), (2, 1), (3, 1)] := ⟨by kernel_rfl⟩
instance : TyFld Tryz.prog 140 0 0 0 false := ⟨by kernel_rfl⟩
instance : TyFld Tryz.prog 140 1 1 0 false := ⟨by kernel_rfl⟩
instance : TyFld Tryz.prog 140 2 2 0 false := ⟨by kernel_rfl⟩
instance : TyFld Tryz.prog 140 3 3 0 false := ⟨by kernel_rfl⟩
instance : TyV Tryz.prog 141 true 0 := ⟨by kernel_rfl, by kernel_rfl⟩
instance : TyZ Tryz.prog 141 0 (.agg #[]) := ⟨by kernel_rfl⟩
instance : TyV Tryz.prog 142 true 0 := ⟨by kernel_rfl, by kernel_rfl⟩
instance : TyPl Tryz.prog 142 [(0, 0)] := ⟨by kernel_rfl⟩
instance : TyZ Tryz.prog 142 0 (.agg #[]) := ⟨by kernel_rfl⟩
instance : TyV Tryz.prog 143 true 0 := ⟨by kernel_rfl, by kernel_rfl⟩
instance : TyPl Tryz.prog 143 [(0, 0)] := ⟨by kernel_rfl⟩
instance : TyZ Tryz.prog 143 0 (.agg #[]) := ⟨by kernel_rfl⟩
instance : TyV Tryz.prog 144 false 1 := ⟨by kernel_rfl, by kernel_rfl⟩
instance : TyZ Tryz.prog 144 8 .nilFunc := ⟨by kernel_rfl⟩
instance : TyV Tryz.prog 145 false 1 := ⟨by kernel_rfl, by kernel_rfl⟩
instance : TyInt Tryz.prog 145 .u8 := ⟨by kernel_rfl⟩
instance : TyZ Tryz.prog 145 1 (.int .u8 0) := ⟨by kernel_rfl⟩
instance : TyV Tryz.prog 146 false 1 := ⟨by kernel_rfl, by kernel_rfl⟩
instance : TyInt Tryz.prog 146 .u8 := ⟨by kernel_rfl⟩
instance : TyZ Tryz.prog 146 1 (.int .u8 0) := ⟨by kernel_rfl⟩
instance : TyV Tryz.prog 147 false 1 := ⟨by kernel_rfl, by kernel_rfl⟩
instance : TyZ Tryz.prog 147 8 .nilFunc := ⟨by kernel_rfl⟩
instance : TyV Tryz.prog 148 false 1 := ⟨by kernel_rfl, by kernel_rfl⟩
instance : TyZ Tryz.prog 148 8 (.pointer none) := ⟨by kernel_rfl⟩
instance : TyV Tryz.prog 149 false 1 := ⟨by kernel_rfl, by kernel_rfl⟩
instance : TyInt Tryz.prog 149 .i32 := ⟨by kernel_rfl⟩
instance : TyZ Tryz.prog 149 4 (.int .i32 0) := ⟨by kernel_rfl⟩
instance : TyV Tryz.prog 150 false 1 := ⟨by kernel_rfl, by kernel_rfl⟩
instance : TyInt Tryz.prog 150 .i32 := ⟨by kernel_rfl⟩
instance : TyZ Tryz.prog 150 4 (.int .i32 0) := ⟨by kernel_rfl⟩
instance : TyV Tryz.prog 151 true 11 := ⟨by kernel_rfl, by kernel_rfl⟩
instance : TyPl Tryz.prog 151 [(0, 1), (1, 1), (2, 1), (3, 1), (4, 1), (5, 1), (6, 1), (7, 1), (8, 1), (9, 1), (10, 1)] := ⟨by kernel_rfl⟩
instance : TyFld Tryz.prog 151 0 0 0 false := ⟨by kernel_rfl⟩
instance : TyFld Tryz.prog 151 1 1 0 false := ⟨by kernel_rfl⟩
instance : TyFld Tryz.prog 151 2 2 0 false := ⟨by kernel_rfl⟩
instance : TyFld Tryz.prog 151 3 3 0 false := ⟨by kernel_rfl⟩
instance : TyFld Tryz.prog 151 4 4 0 false := ⟨by kernel_rfl⟩
instance : TyFld Tryz.prog 151 5 5 0 false := ⟨by kernel_rfl⟩
instance : TyFld Tryz.prog 151 6 6 0 false := ⟨by kernel_rfl⟩
instance : TyFld Tryz.prog 151 7 7 0 false := ⟨by kernel_rfl⟩
instance : TyFld Tryz.prog 151 8 8 0 false := ⟨by kernel_rfl⟩
instance : TyFld Tryz.prog 151 9 9 0 false := ⟨by kernel_rfl⟩
instance : TyFld Tryz.prog 151 10 10 0 false := ⟨by kernel_rfl⟩
instance : TyZ Tryz.prog 151 48 (.agg #[(.int .u64 0), (.int .u64 0), (.int .u32 0), (.int .u8 0), (.int .u8 0), (.int .u8 0), (.int .u8 0), .nilFunc, (.pointer none), (.int .i32 0), (.int .i32 0)]) := ⟨by kernel_rfl⟩
instance : TyV Tryz.prog 152 true 11 := ⟨by kernel_rfl, by kernel_rfl⟩
instance : TyPl Tryz.prog 152 [(0, 1), (1, 1), (2, 1), (3, 1), (4, 1), (5, 1), (6, 1), (7, 1), (8, 1), (9, 1), (10, 1)] := ⟨by kernel_rfl⟩
instance : TyFld Tryz.prog 152 0 0 0 false := ⟨by kernel_rfl⟩
instance : TyFld Tryz.prog 152 1 1 0 false := ⟨by kernel_rfl⟩
instance : TyFld Tryz.prog 152 2 2 0 false := ⟨by kernel_rfl⟩
instance : TyFld Tryz.prog 152 3 3 0 false := ⟨by kernel_rfl⟩
instance : TyFld Tryz.prog 152 4 4 0 false := ⟨by kernel_rfl⟩
instance : TyFld Tryz.prog 152 5 5 0 false := ⟨by kernel_rfl⟩
instance : TyFld Tryz.prog 152 6 6 0 false := ⟨by kernel_rfl⟩
instance : TyFld Tryz.prog 152 7 7 0 false := ⟨by kernel_rfl⟩
instance : TyFld Tryz.prog 152 8 8 0 false := ⟨by kernel_rfl⟩
instance : TyFld Tryz.prog 152 9 9 0 false := ⟨by kernel_rfl⟩
instance : TyFld Tryz.prog 152 10 10 0 false := ⟨by kernel_rfl⟩
instance : TyZ Tryz.prog 152 48 (.agg #[(.int .u64 0), (.int .u64 0), (.int .u32 0), (.int .u8 0), (.int .u8 0), (.int .u8 0), (.int .u8 0), .nilFunc, (.pointer none), (.int .i32 0), (.int .i32 0)]) := ⟨by kernel_rfl⟩
instance : TyV Tryz.prog 153 false 1 := ⟨by kernel_rfl, by kernel_rfl⟩
instance : TyZ Tryz.prog 153 8 .nilFunc := ⟨by kernel_rfl⟩
instance : TyV Tryz.prog 154 false 1 := ⟨by kernel_rfl, by kernel_rfl⟩
instance : TyZ Tryz.prog 154 8 .nilFunc := ⟨by kernel_rfl⟩
instance : TyV Tryz.prog 155 false 1 := ⟨by kernel_rfl, by kernel_rfl⟩
instance : TyZ Tryz.prog 155 8 .nilFunc := ⟨by kernel_rfl⟩
instance : TyV Tryz.prog 156 false 1 := ⟨by kernel_rfl, by kernel_rfl⟩
instance : TyZ Tryz.prog 156 8 .nilFunc := ⟨by kernel_rfl⟩
instance : TyV Tryz.prog 158 false 1 := ⟨by kernel_rfl, by kernel_rfl⟩
instance : TyZ Tryz.prog 158 8 .nilFunc := ⟨by kernel_rfl⟩
instance : TyV Tryz.prog 159 false 1 := ⟨by kernel_rfl, by kernel_rfl⟩
instance : TyZ Tryz.prog 159 8 .nilFunc := ⟨by kernel_rfl⟩
instance : TyV Tryz.prog 160 false 1 := ⟨by kernel_rfl, by kernel_rfl⟩
instance : TyZ Tryz.prog 160 8 .nilFunc := ⟨by kernel_rfl⟩
instance : TyV Tryz.prog 161 false 1 := ⟨by kernel_rfl, by kernel_rfl⟩
instance : TyZ Tryz.prog 161 8 .nilFunc := ⟨by kernel_rfl⟩
instance : TyV Tryz.prog 162 false 1 := ⟨by kernel_rfl, by kernel_rfl⟩
instance : TyZ Tryz.prog 162 8 .nilFunc := ⟨by kernel_rfl⟩
instance : TyV Tryz.prog 163 false 1 := ⟨by kernel_rfl, by kernel_rfl⟩
instance : TyZ Tryz.prog 163 8 .nilFunc := ⟨by kernel_rfl⟩
instance : TyV Tryz.prog 164 false 1 := ⟨by kernel_rfl, by kernel_rfl⟩
instance : TyZ Tryz.prog 164 8 .nilFunc := ⟨by kernel_rfl⟩
instance : TyV Tryz.prog 165 false 1 := ⟨by kernel_rfl, by kernel_rfl⟩
instance : TyZ Tryz.prog 165 8 (.pointer none) := ⟨by kernel_rfl⟩
instance : TyV Tryz.prog 166 true 2 := ⟨by kernel_rfl, by kernel_rfl⟩
instance : TyPl Tryz.prog 166 [(0, 1), (1, 1)] := ⟨by kernel_rfl⟩
instance : TyFld Tryz.prog 166 0 0 0 false := ⟨by kernel_rfl⟩
instance : TyFld Tryz.prog 166 1 1 0 false := ⟨by kernel_rfl⟩
instance : TyZ Tryz.prog 166 32 (.agg #[(.slice none 0 0), (.int .i64 0)]) := ⟨by kernel_rfl⟩
instance : TyV Tryz.prog 167 true 2 := ⟨by kernel_rfl, by kernel_rfl⟩
instance : TyPl Tryz.prog 167 [(0, 1), (1, 1)] := ⟨by kernel_rfl⟩
instance : TyFld Tryz.prog 167 0 0 0 false := ⟨by kernel_rfl⟩
instance : TyFld Tryz.prog 167 1 1 0 false := ⟨by kernel_rfl⟩
instance : TyZ Tryz.prog 167 32 (.agg #[(.slice none 0 0), (.int .i64 0)]) := ⟨by kernel_rfl⟩
instance : TyV Tryz.prog 168 true 3 := ⟨by kernel_rfl, by kernel_rfl⟩
instance : TyPl Tryz.prog 168 [(0, 2), (2, 1)] := ⟨by kernel_rfl⟩
instance : TyFld Tryz.prog 168 0 0 1 true := ⟨by kernel_rfl⟩
instance : TyFld Tryz.prog 168 1 2 0 false := ⟨by kernel_rfl⟩
instance : TyZ Tryz.prog 168 56 (.agg #[(.slice none 0 0), (.int .i64 0), (.slice none 0 0)]) := ⟨by kernel_rfl⟩
instance : TyV Tryz.prog 169 true 3 := ⟨by kernel_rfl, by kernel_rfl⟩
instance : TyPl Tryz.prog 169 [(0, 2), (2, 1)] := ⟨by kernel_rfl⟩
instance : TyFld Tryz.prog 169 0 0 1 true := ⟨by kernel_rfl⟩
instance : TyFld Tryz.prog 169 1 2 0 false := ⟨by kernel_rfl⟩
instance : TyZ Tryz.prog 169 56 (.agg #[(.slice none 0 0), (.int .i64 0), (.slice none 0 0)]) := ⟨by kernel_rfl⟩
instance : TyV Tryz.prog 170 false 1 := ⟨by kernel_rfl, by kernel_rfl⟩
instance : TyZ Tryz.prog 170 8 .nilFunc := ⟨by kernel_rfl⟩
instance : TyV Tryz.prog 171 false 1 := ⟨by kernel_rfl, by kernel_rfl⟩
instance : TyZ Tryz.prog 171 8 .nilFunc := ⟨by kernel_rfl⟩
instance : TyV Tryz.prog 173 false 1 := ⟨by kernel_rfl, by kernel_rfl⟩
instance : TyZ Tryz.prog 173 8 .nilFunc := ⟨by kernel_rfl⟩
instance : TyV Tryz.prog 174 false 1 := ⟨by kernel_rfl, by kernel_rfl⟩
instance : TyZ Tryz.prog 174 8 (.pointer none) := ⟨by kernel_rfl⟩
instance : TyV Tryz.prog 175 false 1 := ⟨by kernel_rfl, by kernel_rfl⟩
instance : TyZ Tryz.prog 175 8 .nilFunc := ⟨by kernel_rfl⟩
instance : TyV Tryz.prog 176 true 2 := ⟨by kernel_rfl, by kernel_rfl⟩
instance : TyPl Tryz.prog 176 [(0, 1), (1, 1)] := ⟨by kernel_rfl⟩
instance : TyEqI Tryz.prog 176 2 := ⟨by kernel_rfl, by kernel_rfl, by kernel_rfl⟩
instance : TyFld Tryz.prog 176 0 0 0 false := ⟨by kernel_rfl⟩
instance : TyFld Tryz.prog 176 1 1 0 false := ⟨by kernel_rfl⟩
instance : TyZ Tryz.prog 176 16 (.agg #[(.int .i64 0), (.int .i64 0)]) := ⟨by kernel_rfl⟩
instance : TyV Tryz.prog 177 false 1 := ⟨by kernel_rfl, by kernel_rfl⟩
instance : TyZ Tryz.prog 177 8 .nilFunc := ⟨by kernel_rfl⟩
instance : TyV Tryz.prog 178 false 1 := ⟨by kernel_rfl, by kernel_rfl⟩
instance : TyZ Tryz.prog 178 8 .nilFunc := ⟨by kernel_rfl⟩
instance : TyV Tryz.prog 180 false 1 := ⟨by kernel_rfl, by kernel_rfl⟩
instance : TyZ Tryz.prog 180 8 .nilFunc := ⟨by kernel_rfl⟩
instance : TyV Tryz.prog 181 false 1 := ⟨by kernel_rfl, by kernel_rfl⟩
instance : TyZ Tryz.prog 181 8 .nilFunc := ⟨by kernel_rfl⟩
instance : TyV Tryz.prog 182 false 1 := ⟨by kernel_rfl, by kernel_rfl⟩
instance : TyZ Tryz.prog 182 8 .nilFunc := ⟨by kernel_rfl⟩
instance : TyV Tryz.prog 183 false 1 := ⟨by kernel_rfl, by kernel_rfl⟩
instance : TyZ Tryz.prog 183 8 .nilFunc := ⟨by kernel_rfl⟩
instance : TyV Tryz.prog 184 false 1 := ⟨by kernel_rfl, by kernel_rfl⟩
instance : TyZ Tryz.prog 184 8 .nilFunc := ⟨by kernel_rfl⟩
instance : TyV Tryz.prog 185 false 1 := ⟨by kernel_rfl, by kernel_rfl⟩
instance : TyZ Tryz.prog 185 8 .nilFunc := ⟨by kernel_rfl⟩
instance : TyV Tryz.prog 186 false 1 := ⟨by kernel_rfl, by kernel_rfl⟩
instance : TyZ Tryz.prog 186 8 .nilFunc := ⟨by kernel_rfl⟩
instance : TyV Tryz.prog 187 false 1 := ⟨by kernel_rfl, by kernel_rfl⟩
instance : TyZ Tryz.prog 187 8 .nilFunc := ⟨by kernel_rfl⟩
instance : TyV Tryz.prog 188 false 1 := ⟨by kernel_rfl, by kernel_rfl⟩
instance : TyZ Tryz.prog 188 8 .nilFunc := ⟨by kernel_rfl⟩
instance : TyV Tryz.prog 189 false 1 := ⟨by kernel_rfl, by kernel_rfl⟩
instance : TyZ Tryz.prog 189 8 (.pointer none) := ⟨by kernel_rfl⟩
instance : TyV Tryz.prog 190 false 1 := ⟨by kernel_rfl, by kernel_rfl⟩
instance : TySl Tryz.prog 190 194 := ⟨by kernel_rfl⟩
instance : TyZ Tryz.prog 190 24 (.slice none 0 0) := ⟨by kernel_rfl⟩
instance : TyV Tryz.prog 191 true 2 := ⟨by kernel_rfl, by kernel_rfl⟩
instance : TyPl Tryz.prog 191 [(0, 1), (1, 1)] := ⟨by kernel_rfl⟩
instance : TyFld Tryz.prog 191 0 0 0 false := ⟨by kernel_rfl⟩
instance : TyFld Tryz.prog 191 1 1 0 false := ⟨by kernel_rfl⟩
instance : TyZ Tryz.prog 191 48 (.agg #[(.slice none 0 0), (.slice none 0 0)]) := ⟨by kernel_rfl⟩
instance : TyV Tryz.prog 192 true 2 := ⟨by kernel_rfl, by kernel_rfl⟩
instance : TyPl Tryz.prog 192 [(0, 1), (1, 1)] := ⟨by kernel_rfl⟩
instance : TyFld Tryz.prog 192 0 0 0 false := ⟨by kernel_rfl⟩
instance : TyFld Tryz.prog 192 1 1 0 false := ⟨by kernel_rfl⟩
instance : TyZ Tryz.prog 192 48 (.agg #[(.slice none 0 0), (.slice none 0 0)]) := ⟨by kernel_rfl⟩
instance : TyV Tryz.prog 193 true 2 := ⟨by kernel_rfl, by kernel_rfl⟩
instance : TyPl Tryz.prog 193 [(0, 1), (1, 1)] := ⟨by kernel_rfl⟩
instance : TyFld Tryz.prog 193 0 0 0 false := ⟨by kernel_rfl⟩
instance : TyFld Tryz.prog 193 1 1 0 false := ⟨by kernel_rfl⟩
instance : TyZ Tryz.prog 193 32 (.agg #[(.bool false), (.slice none 0 0)]) := ⟨by kernel_rfl⟩
instance : TyV Tryz.prog 194 true 2 := ⟨by kernel_rfl, by kernel_rfl⟩
instance : TyPl Tryz.prog 194 [(0, 1), (1, 1)] := ⟨by kernel_rfl⟩
instance : TyFld Tryz.prog 194 0 0 0 false := ⟨by kernel_rfl⟩
instance : TyFld Tryz.prog 194 1 1 0 false := ⟨by kernel_rfl⟩
instance : TyZ Tryz.prog 194 32 (.agg #[(.bool false), (.slice none 0 0)]) := ⟨by kernel_rfl⟩
instance : TyFn Tryz.prog 3 := ⟨by kernel_rfl⟩ -- privatefetch/privatefetchlaw34.BatchAlike
instance : TyFn Tryz.prog 4 := ⟨by kernel_rfl⟩ -- privatefetch/privatefetchlaw34.sane
instance : TyFn Tryz.prog 5 := ⟨by kernel_rfl⟩ -- privatefetch/privatefetchplay.New
instance : TyFn Tryz.prog 6 := ⟨by kernel_rfl⟩ -- (*privatefetch/privatefetchplay.Dice).Scheme
instance : TyFn Tryz.prog 7 := ⟨by kernel_rfl⟩ -- (*privatefetch/privatefetchplay.Dice).Field
instance : TyFn Tryz.prog 8 := ⟨by kernel_rfl⟩ -- (*privatefetch/privatefetchplay.Dice).Hashing
instance : TyFn Tryz.prog 9 := ⟨by kernel_rfl⟩ -- (*privatefetch/privatefetchplay.Dice).Pick
instance : TyFn Tryz.prog 10 := ⟨by kernel_rfl⟩ -- privatefetch/batch.Plan
instance : TyFn Tryz.prog 11 := ⟨by kernel_rfl⟩ -- privatefetch/privatefetchlaw34.rows
instance : TyFn Tryz.prog 12 := ⟨by kernel_rfl⟩ -- privatefetch/batch.Limits
instance : TyFn Tryz.prog 13 := ⟨by kernel_rfl⟩ -- privatefetch/privatefetchref31.Ints
instance : TyFn Tryz.prog 14 := ⟨by kernel_rfl⟩ -- privatefetch/batch.Alike
instance : TyFn Tryz.prog 15 := ⟨by kernel_rfl⟩ -- (*privatefetch/privatefetchplay.Dice).Tape
instance : TyFn Tryz.prog 16 := ⟨by kernel_rfl⟩ -- privatefetch/batch.Queries
instance : TyFn Tryz.prog 17 := ⟨by kernel_rfl⟩ -- privatefetch/privatefetchlaw34.hashing
instance : TyFn Tryz.prog 18 := ⟨by kernel_rfl⟩ -- privatefetch/batch.Valid
instance : TyFn Tryz.prog 19 := ⟨by kernel_rfl⟩ -- privatefetch/batch.within
instance : TyFn Tryz.prog 20 := ⟨by kernel_rfl⟩ -- slices.ContainsFunc[[]int,int]
instance : TyFn Tryz.prog 21 := ⟨by kernel_rfl⟩ -- privatefetch/batch.Plan$1
instance : TyFn Tryz.prog 22 := ⟨by kernel_rfl⟩ -- privatefetch/cuckoo.Layout
instance : TyFn Tryz.prog 23 := ⟨by kernel_rfl⟩ -- privatefetch/cuckoo.Assign
instance : TyFn Tryz.prog 24 := ⟨by kernel_rfl⟩ -- slices.Index[[]int,int]
instance : TyFn Tryz.prog 25 := ⟨by kernel_rfl⟩ -- privatefetch/batch.look
instance : TyFn Tryz.prog 26 := ⟨by kernel_rfl⟩ -- privatefetch/batch.asked
instance : TyFn Tryz.prog 27 := ⟨by kernel_rfl⟩ -- privatefetch/scheme.Limits
instance : TyFn Tryz.prog 28 := ⟨by kernel_rfl⟩ -- privatefetch/batch.sameRows
instance : TyFn Tryz.prog 29 := ⟨by kernel_rfl⟩ -- privatefetch/scheme.Queries
instance : TyFn Tryz.prog 30 := ⟨by kernel_rfl⟩ -- privatefetch/batch.ascends
instance : TyFn Tryz.prog 31 := ⟨by kernel_rfl⟩ -- privatefetch/batch.numbered
instance : TyFn Tryz.prog 32 := ⟨by kernel_rfl⟩ -- slices.IndexFunc[[]int,int]
instance : TyFn Tryz.prog 33 := ⟨by kernel_rfl⟩ -- privatefetch/cuckoo.Check
instance : TyFn Tryz.prog 34 := ⟨by kernel_rfl⟩ -- privatefetch/cuckoo.homes
instance : TyFn Tryz.prog 35 := ⟨by kernel_rfl⟩ -- privatefetch/cuckoo.asked
instance : TyFn Tryz.prog 36 := ⟨by kernel_rfl⟩ -- privatefetch/cuckoo.start
instance : TyFn Tryz.prog 37 := ⟨by kernel_rfl⟩ -- (*privatefetch/cuckoo.placing).first
instance : TyFn Tryz.prog 38 := ⟨by kernel_rfl⟩ -- privatefetch/scheme.Valid
instance : TyFn Tryz.prog 39 := ⟨by kernel_rfl⟩ -- privatefetch/batch.asked$1
instance : TyFn Tryz.prog 40 := ⟨by kernel_rfl⟩ -- privatefetch/scheme.look
instance : TyFn Tryz.prog 41 := ⟨by kernel_rfl⟩ -- privatefetch/scheme.kindOf
instance : TyFn Tryz.prog 42 := ⟨by kernel_rfl⟩ -- slices.EqualFunc[[][]int,[][]int,[]int,[]int]
instance : TyFn Tryz.prog 43 := ⟨by kernel_rfl⟩ -- slices.Equal[[]int,int]
instance : TyFn Tryz.prog 44 := ⟨by kernel_rfl⟩ -- privatefetch/scheme.within
instance : TyFn Tryz.prog 45 := ⟨by kernel_rfl⟩ -- slices.Sort[[]int,int]
instance : TyFn Tryz.prog 46 := ⟨by kernel_rfl⟩ -- privatefetch/cuckoo.asked$1
instance : TyFn Tryz.prog 47 := ⟨by kernel_rfl⟩ -- privatefetch/cuckoo.item
instance : TyFn Tryz.prog 48 := ⟨by kernel_rfl⟩ -- (*privatefetch/cuckoo.placing).rest
instance : TyFn Tryz.prog 49 := ⟨by kernel_rfl⟩ -- privatefetch/scheme.Shape
instance : TyFn Tryz.prog 50 := ⟨by kernel_rfl⟩ -- privatefetch/field.Check
instance : TyFn Tryz.prog 51 := ⟨by kernel_rfl⟩ -- privatefetch/scheme.storage
instance : TyFn Tryz.prog 52 := ⟨by kernel_rfl⟩ -- slices.pdqsortOrdered[int]
instance : TyFn Tryz.prog 53 := ⟨by kernel_rfl⟩ -- math/bits.Len
instance : TyFn Tryz.prog 54 := ⟨by kernel_rfl⟩ -- slices.Clone[[]int,int]
instance : TyFn Tryz.prog 55 := ⟨by kernel_rfl⟩ -- (*privatefetch/cuckoo.placing).all
instance : TyFn Tryz.prog 56 := ⟨by kernel_rfl⟩ -- privatefetch/residue.Of
instance : TyFn Tryz.prog 57 := ⟨by kernel_rfl⟩ -- slices.insertionSortOrdered[int]
instance : TyFn Tryz.prog 58 := ⟨by kernel_rfl⟩ -- slices.heapSortOrdered[int]
instance : TyFn Tryz.prog 59 := ⟨by kernel_rfl⟩ -- slices.breakPatternsOrdered[int]
instance : TyFn Tryz.prog 60 := ⟨by kernel_rfl⟩ -- slices.choosePivotOrdered[int]
instance : TyFn Tryz.prog 61 := ⟨by kernel_rfl⟩ -- slices.reverseRangeOrdered[int]
instance : TyFn Tryz.prog 62 := ⟨by kernel_rfl⟩ -- slices.partialInsertionSortOrdered[int]
instance : TyFn Tryz.prog 63 := ⟨by kernel_rfl⟩ -- cmp.Less[int]
instance : TyFn Tryz.prog 64 := ⟨by kernel_rfl⟩ -- slices.partitionEqualOrdered[int]
instance : TyFn Tryz.prog 65 := ⟨by kernel_rfl⟩ -- slices.partitionOrdered[int]
instance : TyFn Tryz.prog 66 := ⟨by kernel_rfl⟩ -- math/bits.Len32
instance : TyFn Tryz.prog 67 := ⟨by kernel_rfl⟩ -- math/bits.Len64
instance : TyFn Tryz.prog 68 := ⟨by kernel_rfl⟩ -- (*privatefetch/cuckoo.placing).place
instance : TyFn Tryz.prog 69 := ⟨by kernel_rfl⟩ -- slices.siftDownOrdered[int]
instance : TyFn Tryz.prog 70 := ⟨by kernel_rfl⟩ -- slices.nextPowerOfTwo
instance : TyFn Tryz.prog 72 := ⟨by kernel_rfl⟩ -- slices.medianAdjacentOrdered[int]
instance : TyFn Tryz.prog 73 := ⟨by kernel_rfl⟩ -- slices.medianOrdered[int]
instance : TyFn Tryz.prog 74 := ⟨by kernel_rfl⟩ -- cmp.isNaN[int]
instance : TyFn Tryz.prog 75 := ⟨by kernel_rfl⟩ -- slices.order2Ordered[int]
instance : TyFn Tryz.prog 92 := ⟨by kernel_rfl⟩ -- (privatefetch/scheme.sums).limits
instance : TyFn Tryz.prog 93 := ⟨by kernel_rfl⟩ -- (privatefetch/scheme.sums).queries
instance : TyFn Tryz.prog 94 := ⟨by kernel_rfl⟩ -- privatefetch/parity.Limits
instance : TyFn Tryz.prog 95 := ⟨by kernel_rfl⟩ -- privatefetch/parity.Queries
instance : TyFn Tryz.prog 96 := ⟨by kernel_rfl⟩ -- privatefetch/parity.check
instance : TyFn Tryz.prog 97 := ⟨by kernel_rfl⟩ -- privatefetch/tape.Draws
instance : TyFn Tryz.prog 98 := ⟨by kernel_rfl⟩ -- privatefetch/vector.Unit
instance : TyFn Tryz.prog 99 := ⟨by kernel_rfl⟩ -- (privatefetch/residue.Field).AddTimes
instance : TyFn Tryz.prog 100 := ⟨by kernel_rfl⟩ -- privatefetch/parity.sum
instance : TyFn Tryz.prog 101 := ⟨by kernel_rfl⟩ -- privatefetch/parity.each
instance : TyFn Tryz.prog 102 := ⟨by kernel_rfl⟩ -- privatefetch/tape.valid
instance : TyFn Tryz.prog 103 := ⟨by kernel_rfl⟩ -- privatefetch/tape.limit
instance : TyFn Tryz.prog 104 := ⟨by kernel_rfl⟩ -- (*privatefetch/tape.drawing).draw
instance : TyFn Tryz.prog 105 := ⟨by kernel_rfl⟩ -- (privatefetch/residue.Field).Add
instance : TyFn Tryz.prog 106 := ⟨by kernel_rfl⟩ -- (privatefetch/residue.Field).Mul
instance : TyFn Tryz.prog 107 := ⟨by kernel_rfl⟩ -- privatefetch/parity.each$1
instance : TyFn Tryz.prog 108 := ⟨by kernel_rfl⟩ -- (*privatefetch/tape.position).next
instance : TyFn Tryz.prog 110 := ⟨by kernel_rfl⟩ -- (privatefetch/scheme.curves).limits
instance : TyFn Tryz.prog 111 := ⟨by kernel_rfl⟩ -- (privatefetch/scheme.curves).queries
instance : TyFn Tryz.prog 112 := ⟨by kernel_rfl⟩ -- privatefetch/curve.Limits
instance : TyFn Tryz.prog 113 := ⟨by kernel_rfl⟩ -- privatefetch/curve.Queries
instance : TyFn Tryz.prog 114 := ⟨by kernel_rfl⟩ -- privatefetch/curve.check
instance : TyFn Tryz.prog 115 := ⟨by kernel_rfl⟩ -- privatefetch/share.Split
instance : TyFn Tryz.prog 116 := ⟨by kernel_rfl⟩ -- privatefetch/curve.Check
instance : TyFn Tryz.prog 117 := ⟨by kernel_rfl⟩ -- (privatefetch/residue.Field).Has
instance : TyFn Tryz.prog 118 := ⟨by kernel_rfl⟩ -- privatefetch/share.threshold
instance : TyFn Tryz.prog 119 := ⟨by kernel_rfl⟩ -- privatefetch/share.shares
instance : TyFn Tryz.prog 120 := ⟨by kernel_rfl⟩ -- privatefetch/curve.valid
instance : TyFn Tryz.prog 121 := ⟨by kernel_rfl⟩ -- (privatefetch/residue.Field).Value
instance : TyFn Tryz.prog 122 := ⟨by kernel_rfl⟩ -- slices.Backward[[]int,int]
instance : TyFn Tryz.prog 123 := ⟨by kernel_rfl⟩ -- slices.Backward[[]int,int]$1
instance : TyFn Tryz.prog 125 := ⟨by kernel_rfl⟩ -- (privatefetch/scheme.groups).limits
instance : TyFn Tryz.prog 126 := ⟨by kernel_rfl⟩ -- (privatefetch/scheme.groups).queries
instance : TyFn Tryz.prog 127 := ⟨by kernel_rfl⟩ -- (privatefetch/scheme.groups).units
instance : TyFn Tryz.prog 128 := ⟨by kernel_rfl⟩ -- privatefetch/coded.Limits
instance : TyFn Tryz.prog 129 := ⟨by kernel_rfl⟩ -- privatefetch/coded.Queries
instance : TyFn Tryz.prog 130 := ⟨by kernel_rfl⟩ -- privatefetch/coded.check
instance : TyFn Tryz.prog 131 := ⟨by kernel_rfl⟩ -- (privatefetch/residue.Field).Power
instance : TyFn Tryz.prog 132 := ⟨by kernel_rfl⟩ -- privatefetch/coded.Check
end Go.Q

namespace Go.Q
open Classical
def okP (p : Int) : Prop := 2 ≤ p ∧ p ≤ 65521 ∧ ∀ d : Int, 2 ≤ d → d * d ≤ p → p % d ≠ 0
noncomputable def ofP (p : Int) : Int := if okP p then p else 0
def hasP (p x : Int) : Prop := 0 ≤ x ∧ x < p
end Go.Q
namespace Go.Q
open Classical

theorem foldl_take {α β : Type} [Inhabited β] (f : α → β → α) (a : α) (xs : List β) (k : Nat) (h : k < xs.length) : (xs.take (k + 1)).foldl f a = f ((xs.take k).foldl f a) (xs[k]?.getD default) := by
 have h1 : xs[k]? = some xs[k] := by simp [h]
 rw [List.take_add_one, h1]
 simp only [Option.toList_some, List.foldl_append, List.foldl_cons, List.foldl_nil, Option.getD_some]

end Go.Q
namespace Go.Q
open Classical

structure Tab where
 number : Int
 p : Int
 width : Int
 rows : List (List Int)
structure Hd where
 number : Int
 p : Int
 count : Int
 width : Int
 root : Int
instance : Inhabited Tab := ⟨⟨0, 0, 0, []⟩⟩
instance : Inhabited Hd := ⟨⟨0, 0, 0, 0, 0⟩⟩
noncomputable def errP (p : Int) : Int := if okP p then 0 else 9
end Go.Q
namespace Go.Q
theorem getD_mem {α : Type} [Inhabited α] {xs : List α} {k : Nat} (h : k < xs.length) : xs[k]?.getD default ∈ xs := by
 simp [h]
end Go.Q

namespace Go.Q
variable {P : Program} {f : FuncId} {N : Nat} {I0 : Imm} {R : Goal} {g : G} {M : List Res} {k : List Item}
abbrev fI : Int → List D := fun x => [dInt .i64 x]
abbrev fR : List Int → List D := fun x => [dInts x]

theorem spec_freeze {Ds : List D} {T n : Nat} {α : Type} {f' : α → List D} {xs : List α} (h : Spec P f Ds [] (fun _ : Value => True) (fun v => dVal v) (fun v => [rRow v T n f' xs])) : SpecP P f Ds (dSl n f' xs) := by
 intro I M w vs hv hi
 refine (h I M w vs hv hi).mono ?_
 rintro e w' ⟨v, rfl, s, _, J, h1, h2, h3⟩
 obtain ⟨J', h4, h5, h6⟩ := row_freeze h3
 have hvs : v = s := h2
 subst hvs
 exact ⟨v, rfl, J', h1.trans h4, h5, h6⟩
end Go.Q

namespace Go.Q
variable {P : Program} {f : FuncId} {N : Nat} {I0 : Imm} {R : Goal} {g : G} {M : List Res} {k : List Item}
theorem slots_cast {I J : Imm} {a : Act} {s : Nat} {d d' : D} (hsl : Slots g N I a) (hle : I.le J) (hs : look g s = some d) (hd : ∀ v, d.rel I v → d'.rel J v) : Slots ((s, d') :: g) N J a := by
 refine ⟨hsl.size, hsl.defers, fun j e hj => ?_⟩
 rw [look_cons] at hj
 split at hj
 ·rename_i e1
  subst e1
  injection hj with hj
  subst hj
  exact hd _ (hsl.slot _ _ hs)
 ·exact e.mono hle (hsl.slot _ _ hj)
theorem relL_upgrade {I : Imm} {d' : D} {v : Value} (hd : d'.rel I v) : ∀ {ds : List D} {cs : List Value} (i : Nat), relL ds I cs → ds[i]? = some (dVal v) → relL (ds.set i d') I cs
 | d :: ds, c :: cs, 0, ⟨h1, h2⟩, h => by simp at h; subst h; rw [show c = v from h1]; exact ⟨hd, h2⟩
 | d :: ds, c :: cs, i + 1, ⟨h1, h2⟩, h => ⟨h1, relL_upgrade hd i h2 (by simpa using h)⟩
 | [], [], i, _, h => by simp at h
theorem run_freezeRowCell {b kk : Nat} {T' : TypeId} {ds : List D} {C C' : Res → List Res} {F F' : List Res} {α : Type} {T n : Nat} {f' : α → List D} {xs : List α} {v : Value} (hm : Sel (rRow v T n f' xs) M C F) (hc : Sel (rCells b T' ds) F C' F') (hk : ds[kk]? = some (dVal v))
  (h : Run P f N I0 R g (C' (rCells b T' (ds.set kk (dSl n f' xs)))) k) : Run P f N I0 R g M k := by
 refine run_turn (fun I a w hsl hi => ?_) h
 obtain ⟨J, hle, hd, hi'⟩ := row_freeze (hi.perm hm.perm.1)
 refine ⟨J, hle, hsl.mono hle, ?_⟩
 have h2 := hi'.perm hc.perm.1
 refine Inv.perm ?_ (hc.perm.2 _)
 refine ⟨h2.os, h2.tape, h2.output, h2.imm, fun r hr => ?_, h2.apart⟩
 rcases List.mem_cons.1 hr with rfl | hr
 ·obtain ⟨h3, o, h4, cs, h5, h6⟩ := h2.own _ (List.mem_cons_self ..)
  exact ⟨h3, o, h4, cs, h5, relL_upgrade hd kk h6 hk⟩
 ·exact h2.own r (List.mem_cons_of_mem _ hr)
end Go.Q

namespace Go.Q
variable {P : Program} {f : FuncId} {N : Nat} {I0 : Imm} {R : Goal} {g : G} {M : List Res} {k : List Item}
theorem relL_same {J : Imm} {kk : Nat} {ds : List D} {cs : List Value} {d d' : D} (h6 : relL ds J cs) (hk : ds[kk]? = some d) (hup : ∀ u, d.rel J u → d'.rel J u) : relL (ds.set kk d') J cs := by
 obtain ⟨u, hu, hdu⟩ := relL_get h6 kk d hk
 have h7 := relL_set (d := d') (hup u hdu) kk h6
 have h8 : cs.set kk u = cs := by
  apply List.ext_getElem?
  intro i
  rw [List.getElem?_set]
  split
  ·rename_i e; subst e
   split
   ·exact hu.symm
   ·rename_i e; rw [List.getElem?_eq_none (by omega)]
  ·rfl
 rwa [h8] at h7
theorem run_freezeUp {b kk : Nat} {T' : TypeId} {ds : List D} {C C' : Res → List Res} {F F' : List Res} {α : Type} {T n : Nat} {f' : α → List D} {xs : List α} {v : Value} (d d' : D) (hm : Sel (rRow v T n f' xs) M C F) (hc : Sel (rCells b T' ds) F C' F') (hk : ds[kk]? = some d)
  (hup : ∀ J u, d.rel J u → (dSl n f' xs).rel J v → d'.rel J u)
  (h : Run P f N I0 R g (C' (rCells b T' (ds.set kk d'))) k) : Run P f N I0 R g M k := by
 refine run_turn (fun I a w hsl hi => ?_) h
 obtain ⟨J, hle, hd, hi'⟩ := row_freeze (hi.perm hm.perm.1)
 refine ⟨J, hle, hsl.mono hle, ?_⟩
 have h2 := hi'.perm hc.perm.1
 refine Inv.perm ?_ (hc.perm.2 _)
 refine ⟨h2.os, h2.tape, h2.output, h2.imm, fun r hr => ?_, h2.apart⟩
 rcases List.mem_cons.1 hr with rfl | hr
 ·obtain ⟨h3, o, h4, cs, h5, h6⟩ := h2.own _ (List.mem_cons_self ..)
  exact ⟨h3, o, h4, cs, h5, relL_same h6 hk (fun u hu => hup J u hu hd)⟩
 ·exact h2.own r (List.mem_cons_of_mem _ hr)
theorem run_cellsUp {b kk : Nat} {T' : TypeId} {ds : List D} {C' : Res → List Res} {F' : List Res} (d d' : D) (hc : Sel (rCells b T' ds) M C' F') (hk : ds[kk]? = some d) (hup : ∀ J u, d.rel J u → d'.rel J u)
  (h : Run P f N I0 R g (C' (rCells b T' (ds.set kk d'))) k) : Run P f N I0 R g M k := by
 refine run_turn (fun I a w hsl hi => ?_) h
 refine ⟨I, I.le_refl, hsl, ?_⟩
 have h2 := hi.perm hc.perm.1
 refine Inv.perm ?_ (hc.perm.2 _)
 refine ⟨h2.os, h2.tape, h2.output, h2.imm, fun r hr => ?_, h2.apart⟩
 rcases List.mem_cons.1 hr with rfl | hr
 ·obtain ⟨h3, o, h4, cs, h5, h6⟩ := h2.own _ (List.mem_cons_self ..)
  exact ⟨h3, o, h4, cs, h5, relL_same h6 hk (fun u hu => hup I u hu)⟩
 ·exact h2.own r (List.mem_cons_of_mem _ hr)
def dSlV (v : Value) : D := ⟨fun _ u => u = v ∧ ∃ a n c, u = .slice a n c, fun _ h => h⟩
instance (v : Value) : One (dSlV v) := ⟨fun ⟨_, _, _, _, h⟩ => by rw [h]; exact ⟨rfl, rfl⟩⟩
theorem runL_rowV {ops : Array Oper} {l : List Oper} {s : Nat} {C : Res → List Res} {F : List Res} {α : Type} {T n : Nat} {f' : α → List D} {xs : List α} {v : Value} (hs : look g s = some (dVal v)) (hm : Sel (rRow v T n f' xs) M C F)
  (h : RunL P f N I0 R ((s, dSlV v) :: g) M ops l k) : RunL P f N I0 R g M ops l k := by
 constructor
 intro I a w b cs hb hk hl hsl hi
 refine h.go I a w b cs hb hk hl (slots_cast hsl I.le_refl hs (fun u hu => ⟨hu, ?_⟩)) hi
 rw [show u = v from hu]
 rcases row_cases (hi.perm hm.perm.1) with ⟨e, _⟩ | ⟨b, cap, cs, e, _⟩
 ·exact ⟨_, _, _, e⟩
 ·exact ⟨_, _, _, e⟩
theorem row_slice {α : Type} {v : Value} {T n : Nat} {f' : α → List D} {xs : List α} {I : Imm} {F : List Res} {w : World} (h : Inv I (rRow v T n f' xs :: F) w) : ∃ a n c, v = .slice a n c := by
 rcases row_cases h with ⟨e, _⟩ | ⟨b, cap, cs, e, _⟩
 ·exact ⟨_, _, _, e⟩
 ·exact ⟨_, _, _, e⟩
theorem loc_append1V {t e : TypeId} {bytes : Nat} {z : Value} {agg : Bool} {n : Nat} {α : Type} {f' : α → List D} {xs : List α} {v : Value} {x y : Operand} {dst : Option Tmp} {ty : TypeId} {pos : String} {after : Array Edge} {gd : Option (Nat × Bool)} {ds : List D} (e0 : α) [ht : TySl P t e] [hz : TyZ P e bytes z] [hv : TyV P e agg n] [h1 : ∀ x, OneAll (f' x)] (hx : opd g x = some (dSlV v)) (hy : opd g y = some (dSl n (fun l : List D => l) [ds])) (he : f' e0 = ds) (hzn : z.cells.size = n)
  (hb : (xs.length + 1) * bytes ≤ 140737488355328) (hl : xs.length + 1 ≤ lenMax) :
  LocM P ⟨dst, .call ⟨.builtin .append, #[x, y], #[t, t]⟩, ty, pos, after, gd⟩ g N [rRow v e n f' xs] (fun _ : Value => True) (fun v' => dSlV v') (fun v' => [rRow v' e n f' (xs ++ [e0])]) := by
 constructor
 intro F I a w K Q hs hi hK
 subst he
 have hxv : a.eval x = v := (opd_sound hs hx).1
 obtain ⟨ad, cap, hyv, hcap, _, _, hel⟩ := dSl_lit (opd_sound hs hy)
 have hnil : ad = none → [e0] = [] := by
  intro h
  obtain ⟨_, p, hp, _⟩ := hel 0 e0 rfl; rw [h] at hp; cases hp
 obtain ⟨v', w', hr, hi'⟩ := row_append (P := P) (t := t) (ht := ht) (hz := hz) (hv := hv) rfl hzn hi rfl hcap hel hnil (by simpa using hb) (by simpa using hl) ty
 unfold Oper.wp
 have hrun : (execOp a.eval ⟨dst, .call ⟨.builtin .append, #[x, y], #[t, t]⟩, ty, pos, after, gd⟩).run P w = .ok (.value v') w' := by
  simp only [execOp, resolve, invoke, builtin, Sem.run_bind, Sem.run_pure, Result.andThen_ok, List.map_toArray, List.map_cons, List.map_nil, hxv, hyv]
  simp only [List.length_cons, List.length_nil] at hr ⊢
  rw [hr]
  rfl
 rw [hrun]
 exact hK v' v' w' I trivial I.le_refl ⟨rfl, row_slice hi'⟩ hi'

def rOf {α : Type} (T n : Nat) (f' : α → List D) (p : Value × List α) : Res := rRow p.1 T n f' p.2
theorem rows_freeze {α : Type} {T n : Nat} {f' : α → List D} : ∀ (l : List (Value × List α)) {I : Imm} {F : List Res} {w : World}, Inv I (l.map (rOf T n f') ++ F) w →
  ∃ J, I.le J ∧ (∀ p ∈ l, (dSl n f' p.2).rel J p.1) ∧ Inv J F w
 | [], I, F, w, h => ⟨I, I.le_refl, fun p hp => (by cases hp), h⟩
 | p :: l, I, F, w, h => by
  obtain ⟨J, h1, h2, h3⟩ := row_freeze (show Inv I (rRow p.1 T n f' p.2 :: (l.map (rOf T n f') ++ F)) w from h)
  obtain ⟨K, h4, h5, h6⟩ := rows_freeze l h3
  refine ⟨K, h1.trans h4, fun q hq => ?_, h6⟩
  rcases List.mem_cons.1 hq with rfl | hq
  ·exact (dSl n f' q.2).mono h4 h2
  ·exact h5 q hq
theorem sl_up {α β : Type} {n : Nat} {f : α → List D} {h : β → List D} {I : Imm} {v : Value} {xs : List α} {ys : List β} (hl : xs.length = ys.length)
  (hup : ∀ (i : Nat) (x : α) (y : β), xs[i]? = some x → ys[i]? = some y → (f x).length = (h y).length ∧ ∀ cs, relL (f x) I cs → relL (h y) I cs) (hr : (dSl n f xs).rel I v) : (dSl n h ys).rel I v := by
 obtain ⟨a, cap, h1, h2, h3, h4, h5⟩ := hr
 rw [hl] at h1 h2 h4
 refine ⟨a, cap, h1, h2, h3, h4, fun i y hy => ?_⟩
 have hi : i < ys.length := (List.getElem?_eq_some_iff.1 hy).1
 have hx : xs[i]? = some (xs[i]'(by omega)) := by simp [hl, hi]
 obtain ⟨e1, e2⟩ := hup i _ y hx hy
 obtain ⟨h6, p, h7, h8, h9, cs, T, fz, h10, h11⟩ := h5 i _ hx
 exact ⟨by omega, p, h7, h8, h9, cs, T, fz, h10, by rw [← e1]; exact e2 _ h11⟩
end Go.Q

namespace Go.Q
open Classical
structure Dk where
 xs : List Int
 k : Nat
def Dk.val (d : Dk) (n : Int) : Int := if n < 1 ∨ d.xs.length ≤ d.k then 0 else (d.xs[d.k]?.getD default) % n
def Dk.next (d : Dk) (n : Int) : Dk := if n < 1 ∨ d.xs.length ≤ d.k then d else ⟨d.xs, d.k + 1⟩
theorem Dk.val_nonneg (d : Dk) (n : Int) : 0 ≤ d.val n := by
 unfold Dk.val
 split
 ·omega
 ·exact Int.emod_nonneg _ (by omega)
theorem Dk.val_lt (d : Dk) (n : Int) (h : 1 ≤ n) : d.val n < n := by
 unfold Dk.val
 split
 ·omega
 ·exact Int.emod_lt_of_pos _ (by omega)
def Dk.it (d : Dk) (p : Int) : Nat → Dk
 | 0 => d
 | k + 1 => (d.it p k).next p
def Dk.elems (d : Dk) (p : Int) : Nat → List Int
 | 0 => []
 | k + 1 => d.elems p k ++ [(d.it p k).val p]
end Go.Q

namespace Go.Q
variable {P : Program} {f : FuncId}
end Go.Q

namespace Go.Q
open Classical
end Go.Q

namespace Go.Q
variable {P : Program} {f : FuncId} {N : Nat} {g : G} {M : List Res} {dst : Option Tmp} {ty : TypeId} {pos : String} {after : Array Edge} {gd : Option (Nat × Bool)}
theorem specP_pre {Ds Ds' : List D} {d : D} (h : SpecP P f Ds d) (hd : ∀ I vs, relL Ds' I vs → relL Ds I vs) : SpecP P f Ds' d :=
 fun I M w vs hv hi => h I M w vs (hd I vs hv) hi
theorem relL_last {a a' : D} {ds : List D} (h : ∀ I v, a'.rel I v → a.rel I v) : ∀ I vs, relL (ds ++ [a']) I vs → relL (ds ++ [a]) I vs := by
 induction ds with
 | nil => intro I vs hr; match vs, hr with | [v], hr => exact ⟨h _ _ hr.1, trivial⟩
 | cons e ds ih => intro I vs hr; match vs, hr with | v :: vs, hr => exact ⟨hr.1, ih I vs hr.2⟩
theorem opd_sub {c p : Prop} (hg : c) {d : D} : dIf (c ∧ p) d = dIf p d := by
 have : (c ∧ p) = p := propext ⟨fun h => h.2, fun h => ⟨hg, h⟩⟩
 rw [this]
theorem loc_orG {c0 : Prop} (hg : c0) {c b : Operand} {p q : Prop} (hc : opd g c = some (dB p)) (hb : opd g b = some (dIf (c0 ∧ ¬ p) (dB q))) : LocP P ⟨dst, .pick c (.const (.bool true)) b, ty, pos, after, gd⟩ g N M (dB (p ∨ q)) :=
 loc_or hc (hb.trans (congrArg some (opd_sub hg)))
end Go.Q

namespace Go.Q
open Classical
variable {P : Program} {f : FuncId} {N : Nat} {I0 : Imm} {R : Goal} {g : G} {M : List Res} {k : List Item}
theorem run_gopM {α : Type} (mk : α → Res) {x0 x1 : α} {C : Res → List Res} {F : List Res} {l : List Oper} {rest : List Oper} {dst gs : Tmp} {j : Nat} {want : Bool} {op : Op} {ty : TypeId} {pos : String} {after : Array Edge} {d dg : D} {c : Prop} {gt : G}
  (hj : (l[j]?).bind (·.dst) = some gs) (hg : look g gs = some dg) (hgd : guardD want dg c)
  (hd : c → LocM P ⟨some dst, op, ty, pos, after, some (j, want)⟩ gt N [mk x0] (fun _ : Unit => True) (fun _ => d) (fun _ => [mk x1])) (hN : Nat.blt dst N = true) (hsel : Sel (mk x0) M C F)
  (h : RunLG P f N I0 R c ((dst, d) :: gt) ((dst, dIf c d) :: g) (C (mk (if c then x1 else x0))) l.toArray rest k) :
  RunLG P f N I0 R c gt g M l.toArray (⟨some dst, op, ty, pos, after, some (j, want)⟩ :: rest) k := by
 constructor
 intro I a w b cs hb hk hl hs hst hi
 have hgs := hs.slot gs _ hg
 have hN' : dst < N := by simpa [Nat.blt_eq] using hN
 have hy : yielded l.toArray a.tmps j = (match a.tmps.getD gs undef with | .bool b => some b | _ => none) := by
  simp only [yielded, List.getElem?_toArray, hj, Option.bind_some, Array.getD_eq_getD_getElem?]
  cases hx : a.tmps[gs]? with
  | none => rfl
  | some u => cases u <;> rfl
 have hans := hgd I _ hgs
 by_cases hc : c
 ·rw [if_pos hc] at h
  refine wpl_want hs.defers ?_ fun K hK => ?_
  ·simp only [Region.wanted, hy]
   exact beq_iff_eq.2 (hans.2 hc)
  ·refine (hd hc).go F I a w K _ (hst hc) (hi.perm hsel.perm.1) fun s v w' J _ hle hv hi' => hK _ _ ?_
   exact h.go J _ w' b cs hb hk (hl.trans hle) ((hs.mono hle).put (d := dIf _ d) ⟨fun _ => hv, fun hn => absurd hc hn⟩ hN') (fun _ => ((hst hc).mono hle).put hv hN') (hi'.perm (hsel.perm.2 _))
 ·rw [if_neg hc] at h
  refine wpl_skip ?_ ?_
  ·simp only [Region.wanted, hy]
   have : ¬ ((match a.tmps.getD gs undef with | .bool b => some b | _ => none) = some want) := fun e => hc (hans.1 e)
   simpa using this
  ·exact h.go I _ w b cs hb hk hl (hs.put (d := dIf _ d) ⟨fun hcc => absurd hcc hc, fun _ => rfl⟩ hN') (fun hcc => absurd hcc hc) ((hi.perm hsel.perm.1).perm (hsel.perm.2 _))
end Go.Q

namespace Go.Q
variable {P : Program} {f : FuncId} {N : Nat} {I0 : Imm} {R : Goal} {g : G} {M : List Res} {k : List Item} {dst : Option Tmp} {ty : TypeId} {pos : String} {after : Array Edge} {gd : Option (Nat × Bool)}
class Flat (d : D) : Prop where
 flat : ∀ {I J v}, d.rel I v → d.rel J v
instance (k : IntKind) (n : Int) : Flat (dInt k n) := ⟨fun h => h⟩
instance (p : Prop) : Flat (dB p) := ⟨fun h => h⟩
def whole (w : World) : Imm := ⟨fun b => w.heap[b]?, w.os, w.tape, w.output⟩
theorem le_whole {I : Imm} {w : World} (h : Inv I M w) : I.le (whole w) := ⟨h.imm, h.os, h.tape, h.output⟩
theorem row_view {I : Imm} {w : World} {α : Type} {v : Value} {T n : Nat} {f' : α → List D} {xs : List α} (h : Inv I M w) (hm : rRow v T n f' xs ∈ M) : (dSl n f' xs).rel (whole w) v := by
 obtain ⟨s, t, rfl⟩ := List.append_of_mem hm
 obtain ⟨J, _, h2, h3⟩ := row_freeze (h.perm List.perm_middle)
 exact (dSl n f' xs).mono (le_whole h3) h2
theorem run_rowForm {α : Type} {v : Value} {T n : Nat} {f' : α → List D} {xs : List α} (hm : In (rRow v T n f' xs) M) (hx : 0 < xs.length) (h : ∀ b cap, v = .slice (some ⟨b, 0, none⟩) xs.length cap → Run P f N I0 R g M k) : Run P f N I0 R g M k := by
 constructor
 intro I a w b cs hb hk hl hs hi
 obtain ⟨s, t, e⟩ := List.append_of_mem hm.mem
 have hi' := hi
 rw [e] at hi'
 rcases row_cases (hi'.perm List.perm_middle) with ⟨_, h2⟩ | ⟨b', cap, cs', h2, _⟩
 ·rw [h2] at hx; cases hx
 ·exact (h b' cap h2).go I a w b cs hb hk hl hs hi
inductive Bor (M : List Res) : List D → List D → Prop where
 | nil : Bor M [] []
 | same {d : D} {ds es : List D} : Bor M ds es → Bor M (d :: ds) (d :: es)
 | row {v : Value} {T n : Nat} {α : Type} {f' : α → List D} {xs : List α} {ds es : List D} : In (rRow v T n f' xs) M → Bor M ds es → Bor M (dVal v :: ds) (dSl n f' xs :: es)
theorem Bor.rel {I : Imm} {w : World} (h : Inv I M w) : ∀ {ds es : List D} {vs : List Value}, Bor M ds es → relL ds I vs → relL es (whole w) vs := by
 intro ds es vs hb
 induction hb generalizing vs with
 | nil => intro hr; cases vs with | nil => trivial | cons => cases hr
 | same _ ih => intro hr; cases vs with | nil => cases hr | cons => exact ⟨D.mono _ (le_whole h) hr.1, ih hr.2⟩
 | row hm _ ih =>
  intro hr
  cases vs with
  | nil => cases hr
  | cons =>
   refine ⟨?_, ih hr.2⟩
   rw [show _ = _ from hr.1]
   exact row_view h hm.mem
end Go.Q

namespace Go.Q
instance : Inhabited D := ⟨dTop⟩
end Go.Q

namespace Go.Q
variable {P : Program} {f : FuncId} {N : Nat} {I0 : Imm} {R : Goal} {g : G} {M : List Res} {k : List Item} {dst : Option Tmp} {ty : TypeId} {pos : String} {after : Array Edge} {gd : Option (Nat × Bool)}
end Go.Q

namespace Go.Q
variable {P : Program} {f : FuncId} {N : Nat} {I0 : Imm} {R : Goal} {g : G} {M : List Res} {k : List Item}
variable {dst : Option Tmp} {ty : TypeId} {pos : String} {after : Array Edge} {gd : Option (Nat × Bool)}
def sl (b n k len cap : Nat) : Value := .slice (some ⟨b, k * n, none⟩) len cap
def put (els : List (List D)) (kk : Nat) (new : List (List D)) : List (List D) := els.take kk ++ new ++ els.drop (kk + new.length)

section
variable {x y z lo hi mx : Operand} {t e : TypeId} {agg : Bool} {n : Nat} {b kk len cap : Nat} {kd kd' kd2 : IntKind} {i j m : Int}
theorem loc_lenOwn [ht : TySl P t e] (hx : opd g x = some (dVal (sl b n kk len cap))) : LocP P ⟨dst, .call ⟨.builtin .len, #[x], #[t]⟩, ty, pos, after, gd⟩ g N M (dInt .i64 (len : Nat)) :=
 locP_of_run fun I a w hs hi => by
  have hp : a.eval x = .slice (some ⟨b, kk * n, none⟩) len cap := opd_sound hs hx
  exact ⟨.int .i64 len, by simp [execOp, resolve, invoke, builtin, Builtin.len_, hp, run_underlying ht.eq, goInt], rfl⟩

end

section
variable {x y : Operand} {t t' e : TypeId} {agg : Bool} {n : Nat} {b b' kk kk' len len' cap cap' : Nat} {T : TypeId} {els els' : List (List D)}
end

section
variable {x y : Operand} {t t' e : TypeId} {agg : Bool} {n : Nat} {b kk len cap : Nat} {T : TypeId} {els : List (List D)}
class TyOver (P : Program) (f : FuncId) (t : outParam TypeId) : Prop where
  is : ∃ fn tR, P.funcs[f]? = some fn ∧ (fn.name == "runtime.NumGoroutine") = false ∧ fn.body.isNone = true ∧ Extern.findNext fn = none ∧ Extern.find fn = some (Extern.SlicesOverlaps.overlaps #[t, t] #[tR])
end
end Go.Q

namespace Go.Q
variable {P : Program} {f : FuncId} {N : Nat} {I0 : Imm} {R : Goal} {g : G} {M : List Res} {k : List Item}
variable {dst : Option Tmp} {ty : TypeId} {pos : String} {after : Array Edge} {gd : Option (Nat × Bool)}
section
variable {x y z lo hi mx : Operand} {t e : TypeId} {agg : Bool} {n : Nat} {b kk len cap : Nat} {kd kd' kd2 : IntKind} {i j m : Int}
end


section
variable {R : Goal} {ops : Array Oper} {rest : List Oper} {op : Op} {r : Res} {C : Res → List Res} {F : List Res} {dst : Tmp}
theorem runL_fact {l : List Oper} {s : Nat} {d : D} {p : Prop} (hs : look g s = some d) (hp : ∀ I v, d.rel I v → p) (h : p → RunL P f N I0 R g M ops l k) : RunL P f N I0 R g M ops l k := by
 constructor
 intro I a w b cs hb hk hl hsl hi
 exact (h (hp _ _ (hsl.slot s d hs))).go I a w b cs hb hk hl hsl hi
end
end Go.Q

namespace Go.Q
structure Pn where
 session : Int
 version : Int
deriving Inhabited
structure Pins where
 rows : List Pn
 kept : List Int
deriving Inhabited
structure Strt where
 read : Int
 version : Int
 p : Int
 from' : Int
 draws : Int
deriving Inhabited
structure Disk where
 seed : Int
 drawn : Int
 begun : List Strt
deriving Inhabited
structure Tape where
 numbers : List Int
 at' : Int
deriving Inhabited
structure Schm where
 kind : Int
 servers : Int
 degree : Int
 group : Int
deriving Inhabited
abbrev cPn (x : Pn) : List D := [dInt .i64 x.session, dInt .i64 x.version]
abbrev cStrt (x : Strt) : List D := [dInt .i64 x.read, dInt .i64 x.version, dInt .i64 x.p, dInt .i64 x.from', dInt .i64 x.draws]
abbrev cTape (x : Tape) : List D := [dInts x.numbers, dInt .i64 x.at']
abbrev cSchm (x : Schm) : List D := [dInt .i64 x.kind, dInt .i64 x.servers, dInt .i64 x.degree, dInt .i64 x.group]
abbrev dTape (x : Tape) : D := dAgg (cTape x)
abbrev dSchm (x : Schm) : D := dAgg (cSchm x)
example (x : Pn) : OneAll (cPn x) := inferInstance
example (x : Strt) : OneAll (cStrt x) := inferInstance
end Go.Q

namespace Go.Q
variable {P : Program} {f : FuncId} {N : Nat} {I0 : Imm} {R : Goal} {g : G} {M : List Res} {k : List Item}
inductive Restr (g : G) : List Nat → G → Prop where
 | nil : Restr g [] []
 | cons {s : Nat} {d : D} {ks : List Nat} {g0 : G} : look g s = some d → Restr g ks g0 → Restr g (s :: ks) ((s, d) :: g0)
@[reducible] def app : G → G → G
 | [], h => h
 | x :: e, h => x :: app e h
theorem Restr.keep {g g0 : G} {ks : List Nat} (h : Restr g ks g0) : Keep g g0 := by
 induction h with
 | nil => exact .nil
 | cons h1 _ ih => exact .cons h1 (fun _ _ x => x) ih
theorem Keep.app {g e g0 : G} (h1 : Keep g e) (h2 : Keep g g0) : Keep g (app e g0) := by
 induction h1 with
 | nil => exact h2
 | cons a b _ ih => exact .cons a b ih
theorem run_loopE {c : Code} {σ : Type} {ks : List Nat} {g0 : G} (hr : Restr g ks g0) (E : σ → G) (Mo : σ → List Res) (φ : σ → Prop) (μ : σ → Nat) (s0 : σ) (h0 : φ s0) (hg : Keep g (E s0)) (hM : M = Mo s0)
  (round : ∀ s, φ s → (∀ s', φ s' → μ s' < μ s → Run P f N I0 R (app (E s') g0) (Mo s') (.inLoop c :: k)) → Run P f N I0 R (app (E s) g0) (Mo s) (.code c :: .inLoop c :: k)) :
  Run P f N I0 R g M (.code (.loop c) :: k) :=
 run_loop' (fun s => app (E s) g0) Mo φ μ s0 h0 (hg.app hr.keep) hM round
theorem run_loopC {c : Code} {σ : Type} {ks : List Nat} {g0 : G} (hr : Restr g ks g0) (E : σ → G) (φ : σ → Prop) (μ : σ → Nat) (s0 : σ) (h0 : φ s0) (hg : Keep g (E s0))
  (round : ∀ s, φ s → (∀ s', φ s' → μ s' < μ s → Run P f N I0 R (app (E s') g0) M (.inLoop c :: k)) → Run P f N I0 R (app (E s) g0) M (.code c :: .inLoop c :: k)) :
  Run P f N I0 R g M (.code (.loop c) :: k) :=
 run_loop' (fun s => app (E s) g0) (fun _ => M) φ μ s0 h0 (hg.app hr.keep) rfl round
theorem run_againE {c : Code} {σ : Type} {E : σ → G} {g0 : G} {Mo : σ → List Res} {φ : σ → Prop} {μ : σ → Nat} {m : Nat}
  (ih : ∀ s', φ s' → μ s' < m → Run P f N I0 R (app (E s') g0) (Mo s') (.inLoop c :: k)) (s' : σ) (hφ : φ s') (hμ : μ s' < m) (hg : Keep g (E s')) (h0 : Keep g g0) (hM : M = Mo s') : Run P f N I0 R g M (.inLoop c :: k) :=
 run_keep (hg.app h0) (hM ▸ ih s' hφ hμ)
theorem run_againC {c : Code} {σ : Type} {E : σ → G} {g0 : G} {φ : σ → Prop} {μ : σ → Nat} {m : Nat}
  (ih : ∀ s', φ s' → μ s' < m → Run P f N I0 R (app (E s') g0) M (.inLoop c :: k)) (s' : σ) (hφ : φ s') (hμ : μ s' < m) (hg : Keep g (E s')) (h0 : Keep g g0) : Run P f N I0 R g M (.inLoop c :: k) :=
 run_keep (hg.app h0) (ih s' hφ hμ)
theorem run_joinC {c : Code} {σ : Type} {ks : List Nat} {g0 : G} (hr : Restr g ks g0) (E : σ → G) (φ : σ → Prop)
  (h2 : (∀ s, φ s → Run P f N I0 R (app (E s) g0) M k) → Run P f N I0 R g M (.code c :: k)) (h1 : ∀ s, φ s → Run P f N I0 R (app (E s) g0) M k) : Run P f N I0 R g M (.code c :: k) := h2 h1
theorem run_atC {σ : Type} {E : σ → G} {g0 : G} {φ : σ → Prop} (j : ∀ s, φ s → Run P f N I0 R (app (E s) g0) M k) (s : σ) (hφ : φ s) (hg : Keep g (E s)) (h0 : Keep g g0) : Run P f N I0 R g M k :=
 run_keep (hg.app h0) (j s hφ)
@[reducible] def appR : List Res → List Res → List Res
 | [], F => F
 | r :: A, F => r :: appR A F
theorem run_front {r : Res} {C : Res → List Res} {F : List Res} (hm : Sel r M C F) (h : Run P f N I0 R g (r :: F) k) : Run P f N I0 R g M k :=
 run_weaken (fun _ _ _ hs hi => ⟨hs, hi.perm hm.perm.1⟩) h
theorem runL_front {ops : Array Oper} {l : List Oper} {r : Res} {C : Res → List Res} {F : List Res} (hm : Sel r M C F) (h : RunL P f N I0 R g (r :: F) ops l k) : RunL P f N I0 R g M ops l k :=
 ⟨fun I a w b cs hb hk hl hs hi => h.go I a w b cs hb hk hl hs (hi.perm hm.perm.1)⟩
theorem run_loopF {c : Code} {σ : Type} {ks : List Nat} {g0 : G} {F : List Res} (hr : Restr g ks g0) (E : σ → G) (A : σ → List Res) (φ : σ → Prop) (μ : σ → Nat) (s0 : σ) (h0 : φ s0) (hg : Keep g (E s0)) (hM : M = appR (A s0) F)
  (round : ∀ s, φ s → (∀ s', φ s' → μ s' < μ s → Run P f N I0 R (app (E s') g0) (appR (A s') F) (.inLoop c :: k)) → Run P f N I0 R (app (E s) g0) (appR (A s) F) (.code c :: .inLoop c :: k)) :
  Run P f N I0 R g M (.code (.loop c) :: k) :=
 run_loop' (fun s => app (E s) g0) (fun s => appR (A s) F) φ μ s0 h0 (hg.app hr.keep) hM round
theorem run_againF {c : Code} {σ : Type} {E : σ → G} {g0 : G} {A : σ → List Res} {F : List Res} {φ : σ → Prop} {μ : σ → Nat} {m : Nat}
  (ih : ∀ s', φ s' → μ s' < m → Run P f N I0 R (app (E s') g0) (appR (A s') F) (.inLoop c :: k)) (s' : σ) (hφ : φ s') (hμ : μ s' < m) (hg : Keep g (E s')) (h0 : Keep g g0) (hM : M = appR (A s') F) : Run P f N I0 R g M (.inLoop c :: k) :=
 run_keep (hg.app h0) (hM ▸ ih s' hφ hμ)
inductive Ups : List D → List D → Prop where
 | nil : Ups [] []
 | cons {d e : D} {ds es : List D} : (∀ I v, d.rel I v → e.rel I v) → Ups ds es → Ups (d :: ds) (e :: es)
theorem Ups.rel {ds es : List D} (h : Ups ds es) : ∀ {I : Imm} {vs : List Value}, relL ds I vs → relL es I vs := by
 induction h with
 | nil => intro I vs h; exact h
 | cons h1 _ ih =>
  intro I vs h
  cases vs with
  | nil => cases h
  | cons v vs => exact ⟨h1 _ _ h.1, ih h.2⟩
theorem d_aggU {ds es : List D} (h : Ups ds es) : ∀ I v, (dAgg ds).rel I v → (dAgg es).rel I v := fun _ _ ⟨cs, e, r⟩ => ⟨cs, e, h.rel r⟩
end Go.Q

namespace Go.Q
open Classical
noncomputable def idxP {α : Type} (q : α → Prop) : List α → Int
 | [] => -1
 | x :: xs => if q x then 0 else (if idxP q xs < 0 then -1 else idxP q xs + 1)
theorem idxP_none {α : Type} {q : α → Prop} : ∀ {xs : List α}, (∀ x ∈ xs, ¬ q x) → idxP q xs = -1
 | [], _ => rfl
 | x :: xs, h => by
  have h1 := h x (List.mem_cons_self ..)
  have h2 := idxP_none (xs := xs) fun y hy => h y (List.mem_cons_of_mem _ hy)
  simp [idxP, h1, h2]
theorem idxP_at {α : Type} [Inhabited α] {q : α → Prop} : ∀ {xs : List α} {i : Nat}, i < xs.length → (∀ j, j < i → ¬ q (xs[j]?.getD default)) → q (xs[i]?.getD default) → idxP q xs = i
 | x :: xs, 0, _, _, h => by
  have : q x := by simpa using h
  simp [idxP, this]
 | x :: xs, i + 1, hi, hb, h => by
  have h1 : ¬ q x := by simpa using hb 0 (by omega)
  have h2 := idxP_at (xs := xs) (i := i) (by simpa using hi) (fun j hj => by simpa using hb (j + 1) (by omega)) (by simpa using h)
  simp only [idxP, if_neg h1, h2]
  rw [if_neg (by omega)]
  omega
theorem idxP_nonneg {α : Type} {q : α → Prop} : ∀ {xs : List α}, 0 ≤ idxP q xs ↔ ∃ x ∈ xs, q x
 | [] => by simp [idxP]
 | x :: xs => by
  have ih := idxP_nonneg (q := q) (xs := xs)
  by_cases h : q x
  ·simp [idxP, h]
  ·by_cases h2 : idxP q xs < 0
   ·have : ¬ ∃ x ∈ xs, q x := fun e => by have := ih.2 e; omega
    simp only [idxP, if_neg h, if_pos h2]
    simp only [List.mem_cons, exists_eq_or_imp, h, false_or]
    exact ⟨fun h => by omega, fun h => absurd h this⟩
   ·have : ∃ x ∈ xs, q x := ih.1 (by omega)
    simp only [idxP, if_neg h, if_neg h2]
    simp only [List.mem_cons, exists_eq_or_imp, h, false_or]
    exact ⟨fun _ => this, fun _ => by omega⟩
theorem forall_getD {α : Type} [Inhabited α] {p : α → Prop} {xs : List α} (h : ∀ j, j < xs.length → p (xs[j]?.getD default)) : ∀ x ∈ xs, p x := by
 intro x hx
 obtain ⟨i, hi⟩ := List.getElem?_of_mem hx
 have h1 := (List.getElem?_eq_some_iff.1 hi).1
 have h2 := h i h1
 rw [hi] at h2
 exact h2
theorem list_extD {α : Type} [Inhabited α] {xs ys : List α} (h : xs.length = ys.length) (he : ∀ j, j < xs.length → xs[j]?.getD default = ys[j]?.getD default) : xs = ys := by
 apply List.ext_getElem h
 intro i h1 h2
 have := he i h1
 simpa [h1, h2] using this
end Go.Q

namespace Go.Q
variable {P : Program} {g : G} {N : Nat} {M : List Res} {dst : Option Tmp} {ty : TypeId} {pos : String} {after : Array Edge} {gd : Option (Nat × Bool)} {t t' : TypeId} {x y : Operand} {k kd : IntKind} {m n : Int}
theorem u64_in {m : Int} (h : 0 ≤ m ∧ m < 18446744073709551616) : IntKind.u64.wrap m = m := by rw [IntKind.wrap_u64]; omega
theorem loc_convU {s : TypeId} {k0 : IntKind} [h1 : TyInt P s k0] [h2 : TyInt P t .u64] (hx : opd g x = some (dInt kd m)) (h : 0 ≤ m ∧ m < 18446744073709551616) : LocP P ⟨dst, .convert s t x, ty, pos, after, gd⟩ g N M (dInt .u64 m) :=
 (loc_convW hx).conv (by rw [u64_in h])
theorem loc_addU (hx : opd g x = some (dInt .u64 m)) (hy : opd g y = some (dInt .u64 n)) (h : 0 ≤ m + n ∧ m + n < 18446744073709551616) : LocP P ⟨dst, .binOp .add t x y t', ty, pos, after, gd⟩ g N M (dInt .u64 (m + n)) :=
 (loc_addW hx hy).conv (by rw [u64_in h])
theorem loc_subU (hx : opd g x = some (dInt .u64 m)) (hy : opd g y = some (dInt .u64 n)) (h : 0 ≤ m - n ∧ m - n < 18446744073709551616) : LocP P ⟨dst, .binOp .sub t x y t', ty, pos, after, gd⟩ g N M (dInt .u64 (m - n)) :=
 (loc_subW hx hy).conv (by rw [u64_in h])
theorem loc_mulU (hx : opd g x = some (dInt .u64 m)) (hy : opd g y = some (dInt .u64 n)) (h : 0 ≤ m * n ∧ m * n < 18446744073709551616) : LocP P ⟨dst, .binOp .mul t x y t', ty, pos, after, gd⟩ g N M (dInt .u64 (m * n)) :=
 (loc_mulW hx hy).conv (by rw [u64_in h])
theorem loc_shr {c : Nat} (hx : opd g x = some (dInt k m)) (hy : opd g y = some (dInt kd (c : Nat))) (hc : (Nat.blt c 64 && Nat.blt c k.bits) = true) : LocP P ⟨dst, .binOp .shr t x y t', ty, pos, after, gd⟩ g N M (dInt k (m.fdiv (2 ^ c))) :=
 locP_of_run fun I a w hs _ => by
  have h1 : a.eval x = .int k m := opd_sound hs hx
  have h2 : a.eval y = .int kd c := opd_sound hs hy
  have e : eqGuard .shr t x y (.int k m) (.int kd c) = pure () := by unfold eqGuard; rfl
  simp only [Bool.and_eq_true, Nat.blt_eq] at hc
  have hn : ¬ ((c : Int) < 0) := by omega
  refine ⟨.int k (m.fdiv (2 ^ c)), ?_, rfl⟩
  have h3 : Int.toNat (c : Int) = c := by omega
  have h4 : (binOp .shr t (.int k m) (.int kd c)).run P w = .ok (.int k (m.fdiv (2 ^ c))) w := by
   simp only [binOp, Op.shift]
   rw [if_neg hn]
   simp [Nat.min_eq_left (Nat.le_of_lt hc.2)]
  simp [execOp, h1, h2, e, h4]
theorem loc_shrN {c : Nat} {q : Int} (hx : opd g x = some (dInt k m)) (hy : opd g y = some (dInt kd (c : Nat))) (hc : (Nat.blt c 64 && Nat.blt c k.bits) = true) (hq : (2 : Int) ^ c = q) (h : 0 ≤ m) (hq0 : 0 ≤ q) : LocP P ⟨dst, .binOp .shr t x y t', ty, pos, after, gd⟩ g N M (dInt k (m / q)) :=
 (loc_shr hx hy hc).conv (by rw [hq, Int.fdiv_eq_ediv_of_nonneg _ hq0])
end Go.Q

namespace Go.Q
open Classical
variable {P : Program} {f : FuncId} {N : Nat} {I0 : Imm} {g : G} {M : List Res} {k : List Item} {R : Goal}
variable {dst : Option Tmp} {ty : TypeId} {pos : String} {after : Array Edge} {gd : Option (Nat × Bool)}
noncomputable def flt {α : Type} (q : α → Prop) : List α → List α
 | [] => []
 | x :: xs => if q x then x :: flt q xs else flt q xs
theorem flt_app {α : Type} (q : α → Prop) : ∀ xs ys : List α, flt q (xs ++ ys) = flt q xs ++ flt q ys
 | [], ys => rfl
 | x :: xs, ys => by simp only [List.cons_append, flt, flt_app q xs ys]; split <;> simp
theorem flt_len {α : Type} (q : α → Prop) : ∀ xs : List α, (flt q xs).length ≤ xs.length
 | [] => Nat.le_refl _
 | x :: xs => by have := flt_len q xs; simp only [flt]; split <;> simp <;> omega
theorem mem_flt {α : Type} {q : α → Prop} : ∀ {xs : List α} {x : α}, x ∈ flt q xs ↔ x ∈ xs ∧ q x
 | [], x => by simp [flt]
 | y :: ys, x => by
  simp only [flt]
  split
  ·rename_i h
   rw [List.mem_cons, mem_flt, List.mem_cons]
   constructor
   ·rintro (rfl | ⟨h1, h2⟩)
    ·exact ⟨.inl rfl, h⟩
    ·exact ⟨.inr h1, h2⟩
   ·rintro ⟨rfl | h1, h2⟩
    ·exact .inl rfl
    ·exact .inr ⟨h1, h2⟩
  ·rename_i h
   rw [mem_flt, List.mem_cons]
   constructor
   ·rintro ⟨h1, h2⟩
    exact ⟨.inr h1, h2⟩
   ·rintro ⟨rfl | h1, h2⟩
    ·exact absurd h2 h
    ·exact ⟨h1, h2⟩
theorem flt_take {α : Type} [Inhabited α] (q : α → Prop) {xs : List α} {k : Nat} (h : k < xs.length) : flt q (xs.take (k + 1)) = flt q (xs.take k) ++ if q (xs[k]?.getD default) then [xs[k]?.getD default] else [] := by
 rw [List.take_add_one, List.getElem?_eq_getElem h, flt_app]
 simp [flt]
theorem idxP_get {α : Type} [Inhabited α] {q : α → Prop} : ∀ {xs : List α} (i : Nat), idxP q xs = i → i < xs.length ∧ (∀ j, j < i → ¬ q (xs[j]?.getD default)) ∧ q (xs[i]?.getD default)
 | [], i, h => by simp [idxP] at h
 | x :: xs, i, h => by
  by_cases hx : q x
  ·simp only [idxP, if_pos hx] at h
   have : i = 0 := by omega
   subst this
   exact ⟨by simp, fun j hj => by omega, by simpa using hx⟩
  ·by_cases hn : idxP q xs < 0
   ·simp only [idxP, if_neg hx, if_pos hn] at h; omega
   ·simp only [idxP, if_neg hx, if_neg hn] at h
    match i, h with
    | 0, h => omega
    | i + 1, h =>
     obtain ⟨h1, h2, h3⟩ := idxP_get (q := q) (xs := xs) i (by omega)
     refine ⟨by simpa using h1, fun j hj => ?_, by simpa using h3⟩
     cases j with
     | zero => simpa using hx
     | succ j => simpa using h2 j (by omega)
def reps {α : Type} : Nat → List α → List α
 | 0, _ => []
 | c + 1, xs => xs ++ reps c xs
structure RepI {α : Type} (c : Nat) (xs : List α) (T : Nat) (s : Nat × List α) : Prop where
 len : s.2.length = T
 le : s.1 ≤ T
 eq : s.2.take s.1 = (reps c xs).take s.1
 mul : s.1 < T → 0 < s.1 ∧ ∃ a, s.1 = a * xs.length ∧ a ≤ c

theorem LocP.up {o : Oper} {d d' : D} (h : LocP P o g N M d) (hd : ∀ I v, d.rel I v → d'.rel I v) : LocP P o g N M d' :=
 ⟨fun I a w K Q hs hi hK => h.go I a w K Q hs hi fun v w' J h1 h2 h3 => hK v w' J h1 (hd _ _ h2) h3⟩
theorem LocP.upV {o : Oper} {v : Value} (h : LocP P o g N M (dSlV v)) : LocP P o g N M (dVal v) := h.up fun _ _ h => h.1
theorem specV {Ds : List D} {Min : List Res} {T n : Nat} {α σ : Type} {φ : σ → Prop} {f' : α → List D} {v : σ → Value} {xs : σ → List α} {Rs : σ → List Res}
  (h : Spec P f Ds Min φ (fun s => dVal (v s)) (fun s => rRow (v s) T n f' (xs s) :: Rs s)) : Spec P f Ds Min φ (fun s => dSlV (v s)) (fun s => rRow (v s) T n f' (xs s) :: Rs s) := by
 intro I F w vs hv hi
 refine (h I F w vs hv hi).mono ?_
 rintro e w' ⟨u, rfl, s, h0, J, h1, h2, h3⟩
 refine ⟨u, rfl, s, h0, J, h1, ⟨h2, ?_⟩, h3⟩
 rw [show u = v s from h2]
 exact row_slice h3
theorem run_freezeRowCellV {b kk : Nat} {T' : TypeId} {ds : List D} {C C' : Res → List Res} {F F' : List Res} {α : Type} {T n : Nat} {f' : α → List D} {xs : List α} {v : Value} (hm : Sel (rRow v T n f' xs) M C F) (hc : Sel (rCells b T' ds) F C' F') (hk : ds[kk]? = some (dSlV v))
  (h : Run P f N I0 R g (C' (rCells b T' (ds.set kk (dSl n f' xs)))) k) : Run P f N I0 R g M k :=
 run_freezeUp (dSlV v) (dSl n f' xs) hm hc hk (fun J u h1 h2 => by rw [show u = v from h1.1]; exact h2) h

theorem LocM.frz {o : Oper} {Min : List Res} {T n : Nat} {α : Type} {f' : α → List D} {xs : List α} (h : LocM P o g N Min (fun _ : Value => True) (fun v => dVal v) (fun v => [rRow v T n f' xs])) {r : Res} (hr : Min = [r]) :
  LocM P o g N [r] (fun _ : Unit => True) (fun _ => dSl n f' xs) (fun _ => [rNone]) := by
 subst hr
 constructor
 intro F I a w K Q hs hi hK
 refine h.go F I a w K Q hs hi fun v u w' J _ h1 h2 h3 => ?_
 obtain ⟨J', h4, h5, h6⟩ := row_freeze h3
 refine hK () u w' J' trivial (h1.trans h4) ?_ (none_ok h6)
 rw [show u = v from h2]
 exact h5
theorem LocM.frz0 {o : Oper} {T n : Nat} {α : Type} {f' : α → List D} {xs : List α} (h : LocM P o g N [] (fun _ : Value => True) (fun v => dVal v) (fun v => [rRow v T n f' xs])) : LocP P o g N M (dSl n f' xs) := by
 constructor
 intro I a w K Q hs hi hK
 refine h.go M I a w K Q hs hi fun v u w' J _ h1 h2 h3 => ?_
 obtain ⟨J', h4, h5, h6⟩ := row_freeze h3
 refine hK u w' J' (h1.trans h4) ?_ h6
 rw [show u = v from h2]
 exact h5
end Go.Q
