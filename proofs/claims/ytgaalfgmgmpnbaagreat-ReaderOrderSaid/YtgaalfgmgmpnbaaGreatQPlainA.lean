/- The types and functions of this seat, as the rules ask for them. -/
import Derived.Test.YtgaalfgmgmpnbaaGreatProg
import Derived.Test.YtgaalfgmgmpnbaaGreatQDraw2
set_option linter.unusedVariables false
set_option linter.unusedSimpArgs false
namespace Go.Q
open Go.Proofs
instance : TyMix Tryz.prog := ⟨by kernel_rfl⟩
instance : TyV Tryz.prog 1 false 1 := ⟨by kernel_rfl, by kernel_rfl⟩
instance : TyZ Tryz.prog 1 8 .nilFunc := ⟨by kernel_rfl⟩
instance : TyV Tryz.prog 2 false 1 := ⟨by kernel_rfl, by kernel_rfl⟩
instance : TyInt Tryz.prog 2 .i64 := ⟨by kernel_rfl⟩
instance : TyZ Tryz.prog 2 8 (.int .i64 0) := ⟨by kernel_rfl⟩
instance : TyV Tryz.prog 3 false 1 := ⟨by kernel_rfl, by kernel_rfl⟩
instance : TyInt Tryz.prog 3 .i64 := ⟨by kernel_rfl⟩
instance : TyZ Tryz.prog 3 8 (.int .i64 0) := ⟨by kernel_rfl⟩
instance : TyV Tryz.prog 4 false 1 := ⟨by kernel_rfl, by kernel_rfl⟩
instance : TyBool Tryz.prog 4 := ⟨by kernel_rfl⟩
instance : TyZ Tryz.prog 4 1 (.bool false) := ⟨by kernel_rfl⟩
instance : TyV Tryz.prog 5 false 1 := ⟨by kernel_rfl, by kernel_rfl⟩
instance : TyInt Tryz.prog 5 .u8 := ⟨by kernel_rfl⟩
instance : TyZ Tryz.prog 5 1 (.int .u8 0) := ⟨by kernel_rfl⟩
instance : TyV Tryz.prog 6 false 1 := ⟨by kernel_rfl, by kernel_rfl⟩
instance : TyInt Tryz.prog 6 .u8 := ⟨by kernel_rfl⟩
instance : TyZ Tryz.prog 6 1 (.int .u8 0) := ⟨by kernel_rfl⟩
instance : TyV Tryz.prog 7 true 4 := ⟨by kernel_rfl, by kernel_rfl⟩
instance : TyPl Tryz.prog 7 [(0, 1), (1, 1), (2, 1), (3, 1)] := ⟨by kernel_rfl⟩
instance : TyFld Tryz.prog 7 0 0 0 false := ⟨by kernel_rfl⟩
instance : TyFld Tryz.prog 7 1 1 0 false := ⟨by kernel_rfl⟩
instance : TyFld Tryz.prog 7 2 2 0 false := ⟨by kernel_rfl⟩
instance : TyFld Tryz.prog 7 3 3 0 false := ⟨by kernel_rfl⟩
instance : TyZ Tryz.prog 7 24 (.agg #[(.int .i64 0), (.int .i64 0), (.bool false), (.int .u8 0)]) := ⟨by kernel_rfl⟩
instance : TyV Tryz.prog 8 true 4 := ⟨by kernel_rfl, by kernel_rfl⟩
instance : TyPl Tryz.prog 8 [(0, 1), (1, 1), (2, 1), (3, 1)] := ⟨by kernel_rfl⟩
instance : TyFld Tryz.prog 8 0 0 0 false := ⟨by kernel_rfl⟩
instance : TyFld Tryz.prog 8 1 1 0 false := ⟨by kernel_rfl⟩
instance : TyFld Tryz.prog 8 2 2 0 false := ⟨by kernel_rfl⟩
instance : TyFld Tryz.prog 8 3 3 0 false := ⟨by kernel_rfl⟩
instance : TyZ Tryz.prog 8 24 (.agg #[(.int .i64 0), (.int .i64 0), (.bool false), (.int .u8 0)]) := ⟨by kernel_rfl⟩
instance : TyV Tryz.prog 9 false 1 := ⟨by kernel_rfl, by kernel_rfl⟩
instance : TyStr Tryz.prog 9 := ⟨by kernel_rfl⟩
instance : TyV Tryz.prog 10 false 1 := ⟨by kernel_rfl, by kernel_rfl⟩
instance : TyStr Tryz.prog 10 := ⟨by kernel_rfl⟩
instance : TyV Tryz.prog 11 false 1 := ⟨by kernel_rfl, by kernel_rfl⟩
instance : TyStr Tryz.prog 11 := ⟨by kernel_rfl⟩
instance : TyV Tryz.prog 12 false 1 := ⟨by kernel_rfl, by kernel_rfl⟩
instance : TyInt Tryz.prog 12 .u64 := ⟨by kernel_rfl⟩
instance : TyZ Tryz.prog 12 8 (.int .u64 0) := ⟨by kernel_rfl⟩
instance : TyV Tryz.prog 13 true 2 := ⟨by kernel_rfl, by kernel_rfl⟩
instance : TyPl Tryz.prog 13 [(0, 1), (1, 1)] := ⟨by kernel_rfl⟩
instance : TyFld Tryz.prog 13 0 0 0 false := ⟨by kernel_rfl⟩
instance : TyFld Tryz.prog 13 1 1 0 false := ⟨by kernel_rfl⟩
instance : TyV Tryz.prog 14 true 2 := ⟨by kernel_rfl, by kernel_rfl⟩
instance : TyPl Tryz.prog 14 [(0, 1), (1, 1)] := ⟨by kernel_rfl⟩
instance : TyFld Tryz.prog 14 0 0 0 false := ⟨by kernel_rfl⟩
instance : TyFld Tryz.prog 14 1 1 0 false := ⟨by kernel_rfl⟩
instance : TyV Tryz.prog 15 false 1 := ⟨by kernel_rfl, by kernel_rfl⟩
instance : TyZ Tryz.prog 15 8 (.pointer none) := ⟨by kernel_rfl⟩
instance : TyV Tryz.prog 16 false 1 := ⟨by kernel_rfl, by kernel_rfl⟩
instance : TyZ Tryz.prog 16 8 (.pointer none) := ⟨by kernel_rfl⟩
instance : TyV Tryz.prog 17 false 1 := ⟨by kernel_rfl, by kernel_rfl⟩
instance : TyZ Tryz.prog 17 8 (.pointer none) := ⟨by kernel_rfl⟩
instance : TyV Tryz.prog 18 true 1 := ⟨by kernel_rfl, by kernel_rfl⟩
instance : TyPl Tryz.prog 18 [(0, 1)] := ⟨by kernel_rfl⟩
instance : TyFld Tryz.prog 18 0 0 0 false := ⟨by kernel_rfl⟩
instance : TyZ Tryz.prog 18 8 (.agg #[(.pointer none)]) := ⟨by kernel_rfl⟩
instance : TyV Tryz.prog 19 true 1 := ⟨by kernel_rfl, by kernel_rfl⟩
instance : TyPl Tryz.prog 19 [(0, 1)] := ⟨by kernel_rfl⟩
instance : TyFld Tryz.prog 19 0 0 0 false := ⟨by kernel_rfl⟩
instance : TyZ Tryz.prog 19 8 (.agg #[(.pointer none)]) := ⟨by kernel_rfl⟩
instance : TyV Tryz.prog 20 false 1 := ⟨by kernel_rfl, by kernel_rfl⟩
instance : TyZ Tryz.prog 20 16 .nilIface := ⟨by kernel_rfl⟩
instance : TyV Tryz.prog 21 false 1 := ⟨by kernel_rfl, by kernel_rfl⟩
instance : TyInt Tryz.prog 21 .i32 := ⟨by kernel_rfl⟩
instance : TyZ Tryz.prog 21 4 (.int .i32 0) := ⟨by kernel_rfl⟩
instance : TyV Tryz.prog 22 false 1 := ⟨by kernel_rfl, by kernel_rfl⟩
instance : TySl Tryz.prog 22 5 := ⟨by kernel_rfl⟩
instance : TyZ Tryz.prog 22 24 (.slice none 0 0) := ⟨by kernel_rfl⟩
instance : TyV Tryz.prog 23 false 1 := ⟨by kernel_rfl, by kernel_rfl⟩
instance : TyZ Tryz.prog 23 8 .nilFunc := ⟨by kernel_rfl⟩
instance : TyV Tryz.prog 24 false 1 := ⟨by kernel_rfl, by kernel_rfl⟩
instance : TyZ Tryz.prog 24 8 (.pointer none) := ⟨by kernel_rfl⟩
instance : TyV Tryz.prog 25 false 1 := ⟨by kernel_rfl, by kernel_rfl⟩
instance : TyZ Tryz.prog 25 8 .nilFunc := ⟨by kernel_rfl⟩
instance : TyV Tryz.prog 26 true 4 := ⟨by kernel_rfl, by kernel_rfl⟩
instance : TyPl Tryz.prog 26 [(0, 1), (1, 1), (2, 1), (3, 1)] := ⟨by kernel_rfl⟩
instance : TyEqI Tryz.prog 26 4 := ⟨by kernel_rfl, by kernel_rfl, by kernel_rfl⟩
instance : TyFld Tryz.prog 26 0 0 0 false := ⟨by kernel_rfl⟩
instance : TyFld Tryz.prog 26 1 1 0 false := ⟨by kernel_rfl⟩
instance : TyFld Tryz.prog 26 2 2 0 false := ⟨by kernel_rfl⟩
instance : TyFld Tryz.prog 26 3 3 0 false := ⟨by kernel_rfl⟩
instance : TyZ Tryz.prog 26 32 (.agg #[(.int .i64 0), (.int .i64 0), (.int .i64 0), (.int .i64 0)]) := ⟨by kernel_rfl⟩
instance : TyV Tryz.prog 27 true 4 := ⟨by kernel_rfl, by kernel_rfl⟩
instance : TyPl Tryz.prog 27 [(0, 1), (1, 1), (2, 1), (3, 1)] := ⟨by kernel_rfl⟩
instance : TyEqI Tryz.prog 27 4 := ⟨by kernel_rfl, by kernel_rfl, by kernel_rfl⟩
instance : TyFld Tryz.prog 27 0 0 0 false := ⟨by kernel_rfl⟩
instance : TyFld Tryz.prog 27 1 1 0 false := ⟨by kernel_rfl⟩
instance : TyFld Tryz.prog 27 2 2 0 false := ⟨by kernel_rfl⟩
instance : TyFld Tryz.prog 27 3 3 0 false := ⟨by kernel_rfl⟩
instance : TyZ Tryz.prog 27 32 (.agg #[(.int .i64 0), (.int .i64 0), (.int .i64 0), (.int .i64 0)]) := ⟨by kernel_rfl⟩
instance : TyV Tryz.prog 28 true 1 := ⟨by kernel_rfl, by kernel_rfl⟩
instance : TyPl Tryz.prog 28 [(0, 1)] := ⟨by kernel_rfl⟩
instance : TyEqI Tryz.prog 28 1 := ⟨by kernel_rfl, by kernel_rfl, by kernel_rfl⟩
instance : TyFld Tryz.prog 28 0 0 0 false := ⟨by kernel_rfl⟩
instance : TyZ Tryz.prog 28 8 (.agg #[(.int .i64 0)]) := ⟨by kernel_rfl⟩
instance : TyV Tryz.prog 29 true 1 := ⟨by kernel_rfl, by kernel_rfl⟩
instance : TyPl Tryz.prog 29 [(0, 1)] := ⟨by kernel_rfl⟩
instance : TyEqI Tryz.prog 29 1 := ⟨by kernel_rfl, by kernel_rfl, by kernel_rfl⟩
instance : TyFld Tryz.prog 29 0 0 0 false := ⟨by kernel_rfl⟩
instance : TyZ Tryz.prog 29 8 (.agg #[(.int .i64 0)]) := ⟨by kernel_rfl⟩
instance : TyV Tryz.prog 30 false 1 := ⟨by kernel_rfl, by kernel_rfl⟩
instance : TySl Tryz.prog 30 44 := ⟨by kernel_rfl⟩
instance : TyZ Tryz.prog 30 24 (.slice none 0 0) := ⟨by kernel_rfl⟩
instance : TyV Tryz.prog 31 true 4 := ⟨by kernel_rfl, by kernel_rfl⟩
instance : TyPl Tryz.prog 31 [(0, 1), (1, 1), (2, 1), (3, 1)] := ⟨by kernel_rfl⟩
instance : TyFld Tryz.prog 31 0 0 0 false := ⟨by kernel_rfl⟩
instance : TyFld Tryz.prog 31 1 1 0 true := ⟨by kernel_rfl⟩
instance : TyFld Tryz.prog 31 2 2 0 false := ⟨by kernel_rfl⟩
instance : TyFld Tryz.prog 31 3 3 0 false := ⟨by kernel_rfl⟩
instance : TyZ Tryz.prog 31 48 (.agg #[(.int .i64 0), (.int .i64 0), (.int .i64 0), (.slice none 0 0)]) := ⟨by kernel_rfl⟩
instance : TyV Tryz.prog 32 true 4 := ⟨by kernel_rfl, by kernel_rfl⟩
instance : TyPl Tryz.prog 32 [(0, 1), (1, 1), (2, 1), (3, 1)] := ⟨by kernel_rfl⟩
instance : TyFld Tryz.prog 32 0 0 0 false := ⟨by kernel_rfl⟩
instance : TyFld Tryz.prog 32 1 1 0 true := ⟨by kernel_rfl⟩
instance : TyFld Tryz.prog 32 2 2 0 false := ⟨by kernel_rfl⟩
instance : TyFld Tryz.prog 32 3 3 0 false := ⟨by kernel_rfl⟩
instance : TyZ Tryz.prog 32 48 (.agg #[(.int .i64 0), (.int .i64 0), (.int .i64 0), (.slice none 0 0)]) := ⟨by kernel_rfl⟩
instance : TyV Tryz.prog 33 false 1 := ⟨by kernel_rfl, by kernel_rfl⟩
instance : TySl Tryz.prog 33 89 := ⟨by kernel_rfl⟩
instance : TyZ Tryz.prog 33 24 (.slice none 0 0) := ⟨by kernel_rfl⟩
instance : TyV Tryz.prog 34 false 1 := ⟨by kernel_rfl, by kernel_rfl⟩
instance : TySl Tryz.prog 34 93 := ⟨by kernel_rfl⟩
instance : TyZ Tryz.prog 34 24 (.slice none 0 0) := ⟨by kernel_rfl⟩
instance : TyV Tryz.prog 35 true 8 := ⟨by kernel_rfl, by kernel_rfl⟩
instance : TyPl Tryz.prog 35 [(0, 1), (1, 4), (5, 1), (6, 1), (7, 1)] := ⟨by kernel_rfl⟩
instance : TyFld Tryz.prog 35 0 0 0 false := ⟨by kernel_rfl⟩
instance : TyFld Tryz.prog 35 1 1 3 true := ⟨by kernel_rfl⟩
instance : TyFld Tryz.prog 35 2 5 0 false := ⟨by kernel_rfl⟩
instance : TyFld Tryz.prog 35 3 6 0 false := ⟨by kernel_rfl⟩
instance : TyFld Tryz.prog 35 4 7 0 false := ⟨by kernel_rfl⟩
instance : TyZ Tryz.prog 35 96 (.agg #[(.int .i64 0), (.int .i64 0), (.int .i64 0), (.int .i64 0), (.int .i64 0), (.bool false), (.slice none 0 0), (.slice none 0 0)]) := ⟨by kernel_rfl⟩
instance : TyV Tryz.prog 36 true 8 := ⟨by kernel_rfl, by kernel_rfl⟩
instance : TyPl Tryz.prog 36 [(0, 1), (1, 4), (5, 1), (6, 1), (7, 1)] := ⟨by kernel_rfl⟩
instance : TyFld Tryz.prog 36 0 0 0 false := ⟨by kernel_rfl⟩
instance : TyFld Tryz.prog 36 1 1 3 true := ⟨by kernel_rfl⟩
instance : TyFld Tryz.prog 36 2 5 0 false := ⟨by kernel_rfl⟩
instance : TyFld Tryz.prog 36 3 6 0 false := ⟨by kernel_rfl⟩
instance : TyFld Tryz.prog 36 4 7 0 false := ⟨by kernel_rfl⟩
instance : TyZ Tryz.prog 36 96 (.agg #[(.int .i64 0), (.int .i64 0), (.int .i64 0), (.int .i64 0), (.int .i64 0), (.bool false), (.slice none 0 0), (.slice none 0 0)]) := ⟨by kernel_rfl⟩
instance : TyV Tryz.prog 38 false 1 := ⟨by kernel_rfl, by kernel_rfl⟩
instance : TyZ Tryz.prog 38 8 .nilFunc := ⟨by kernel_rfl⟩
instance : TyV Tryz.prog 39 false 1 := ⟨by kernel_rfl, by kernel_rfl⟩
instance : TyInt Tryz.prog 39 .i64 := ⟨by kernel_rfl⟩
instance : TyZ Tryz.prog 39 8 (.int .i64 0) := ⟨by kernel_rfl⟩
instance : TyV Tryz.prog 41 false 1 := ⟨by kernel_rfl, by kernel_rfl⟩
instance : TyZ Tryz.prog 41 8 .nilFunc := ⟨by kernel_rfl⟩
instance : TyV Tryz.prog 42 false 1 := ⟨by kernel_rfl, by kernel_rfl⟩
instance : TyZ Tryz.prog 42 8 .nilFunc := ⟨by kernel_rfl⟩
instance : TyV Tryz.prog 43 false 1 := ⟨by kernel_rfl, by kernel_rfl⟩
instance : TyZ Tryz.prog 43 8 .nilFunc := ⟨by kernel_rfl⟩
instance : TyV Tryz.prog 44 false 1 := ⟨by kernel_rfl, by kernel_rfl⟩
instance : TySl Tryz.prog 44 3 := ⟨by kernel_rfl⟩
instance : TyZ Tryz.prog 44 24 (.slice none 0 0) := ⟨by kernel_rfl⟩
instance : TyV Tryz.prog 45 true 8 := ⟨by kernel_rfl, by kernel_rfl⟩
instance : TyPl Tryz.prog 45 [(0, 1), (1, 1), (2, 1), (3, 1), (4, 1), (5, 1), (6, 1), (7, 1)] := ⟨by kernel_rfl⟩
instance : TyFld Tryz.prog 45 0 0 0 false := ⟨by kernel_rfl⟩
instance : TyFld Tryz.prog 45 1 1 0 false := ⟨by kernel_rfl⟩
instance : TyFld Tryz.prog 45 2 2 0 false := ⟨by kernel_rfl⟩
instance : TyFld Tryz.prog 45 3 3 0 false := ⟨by kernel_rfl⟩
instance : TyFld Tryz.prog 45 4 4 0 false := ⟨by kernel_rfl⟩
instance : TyFld Tryz.prog 45 5 5 0 false := ⟨by kernel_rfl⟩
instance : TyFld Tryz.prog 45 6 6 0 false := ⟨by kernel_rfl⟩
instance : TyFld Tryz.prog 45 7 7 0 false := ⟨by kernel_rfl⟩
instance : TyZ Tryz.prog 45 96 (.agg #[(.int .i64 0), (.int .i64 0), (.int .i64 0), (.int .i64 0), (.int .i64 0), (.slice none 0 0), (.slice none 0 0), (.int .i64 0)]) := ⟨by kernel_rfl⟩
instance : TyV Tryz.prog 46 true 8 := ⟨by kernel_rfl, by kernel_rfl⟩
instance : TyPl Tryz.prog 46 [(0, 1), (1, 1), (2, 1), (3, 1), (4, 1), (5, 1), (6, 1), (7, 1)] := ⟨by kernel_rfl⟩
instance : TyFld Tryz.prog 46 0 0 0 false := ⟨by kernel_rfl⟩
instance : TyFld Tryz.prog 46 1 1 0 false := ⟨by kernel_rfl⟩
instance : TyFld Tryz.prog 46 2 2 0 false := ⟨by kernel_rfl⟩
instance : TyFld Tryz.prog 46 3 3 0 false := ⟨by kernel_rfl⟩
instance : TyFld Tryz.prog 46 4 4 0 false := ⟨by kernel_rfl⟩
instance : TyFld Tryz.prog 46 5 5 0 false := ⟨by kernel_rfl⟩
instance : TyFld Tryz.prog 46 6 6 0 false := ⟨by kernel_rfl⟩
instance : TyFld Tryz.prog 46 7 7 0 false := ⟨by kernel_rfl⟩
instance : TyZ Tryz.prog 46 96 (.agg #[(.int .i64 0), (.int .i64 0), (.int .i64 0), (.int .i64 0), (.int .i64 0), (.slice none 0 0), (.slice none 0 0), (.int .i64 0)]) := ⟨by kernel_rfl⟩
instance : TyV Tryz.prog 47 false 1 := ⟨by kernel_rfl, by kernel_rfl⟩
instance : TyZ Tryz.prog 47 8 .nilFunc := ⟨by kernel_rfl⟩
instance : TyV Tryz.prog 49 false 1 := ⟨by kernel_rfl, by kernel_rfl⟩
instance : TyZ Tryz.prog 49 8 .nilFunc := ⟨by kernel_rfl⟩
instance : TyV Tryz.prog 50 true 2 := ⟨by kernel_rfl, by kernel_rfl⟩
instance : TyPl Tryz.prog 50 [(0, 1), (1, 1)] := ⟨by kernel_rfl⟩
instance : TyEqI Tryz.prog 50 2 := ⟨by kernel_rfl, by kernel_rfl, by kernel_rfl⟩
instance : TyFld Tryz.prog 50 0 0 0 false := ⟨by kernel_rfl⟩
instance : TyFld Tryz.prog 50 1 1 0 false := ⟨by kernel_rfl⟩
instance : TyZ Tryz.prog 50 16 (.agg #[(.int .i64 0), (.int .i64 0)]) := ⟨by kernel_rfl⟩
instance : TyV Tryz.prog 51 true 2 := ⟨by kernel_rfl, by kernel_rfl⟩
instance : TyPl Tryz.prog 51 [(0, 1), (1, 1)] := ⟨by kernel_rfl⟩
instance : TyEqI Tryz.prog 51 2 := ⟨by kernel_rfl, by kernel_rfl, by kernel_rfl⟩
instance : TyFld Tryz.prog 51 0 0 0 false := ⟨by kernel_rfl⟩
instance : TyFld Tryz.prog 51 1 1 0 false := ⟨by kernel_rfl⟩
instance : TyZ Tryz.prog 51 16 (.agg #[(.int .i64 0), (.int .i64 0)]) := ⟨by kernel_rfl⟩
instance : TyV Tryz.prog 52 false 1 := ⟨by kernel_rfl, by kernel_rfl⟩
instance : TySl Tryz.prog 52 51 := ⟨by kernel_rfl⟩
instance : TyZ Tryz.prog 52 24 (.slice none 0 0) := ⟨by kernel_rfl⟩
instance : TyV Tryz.prog 53 false 1 := ⟨by kernel_rfl, by kernel_rfl⟩
instance : TyZ Tryz.prog 53 8 .nilFunc := ⟨by kernel_rfl⟩
instance : TyV Tryz.prog 54 false 1 := ⟨by kernel_rfl, by kernel_rfl⟩
instance : TyZ Tryz.prog 54 8 .nilFunc := ⟨by kernel_rfl⟩
instance : TyV Tryz.prog 55 false 1 := ⟨by kernel_rfl, by kernel_rfl⟩
instance : TyZ Tryz.prog 55 8 .nilFunc := ⟨by kernel_rfl⟩
instance : TyV Tryz.prog 56 false 1 := ⟨by kernel_rfl, by kernel_rfl⟩
instance : TyZ Tryz.prog 56 8 .nilFunc := ⟨by kernel_rfl⟩
instance : TyV Tryz.prog 57 false 1 := ⟨by kernel_rfl, by kernel_rfl⟩
instance : TyZ Tryz.prog 57 8 .nilFunc := ⟨by kernel_rfl⟩
instance : TyV Tryz.prog 58 false 1 := ⟨by kernel_rfl, by kernel_rfl⟩
instance : TySl Tryz.prog 58 27 := ⟨by kernel_rfl⟩
instance : TyZ Tryz.prog 58 24 (.slice none 0 0) := ⟨by kernel_rfl⟩
instance : TyV Tryz.prog 59 false 1 := ⟨by kernel_rfl, by kernel_rfl⟩
instance : TyZ Tryz.prog 59 8 .nilFunc := ⟨by kernel_rfl⟩
instance : TyV Tryz.prog 60 false 1 := ⟨by kernel_rfl, by kernel_rfl⟩
instance : TyZ Tryz.prog 60 8 .nilFunc := ⟨by kernel_rfl⟩
instance : TyV Tryz.prog 61 false 1 := ⟨by kernel_rfl, by kernel_rfl⟩
instance : TyZ Tryz.prog 61 8 .nilFunc := ⟨by kernel_rfl⟩
instance : TyV Tryz.prog 62 false 1 := ⟨by kernel_rfl, by kernel_rfl⟩
instance : TySl Tryz.prog 62 32 := ⟨by kernel_rfl⟩
instance : TyZ Tryz.prog 62 24 (.slice none 0 0) := ⟨by kernel_rfl⟩
instance : TyV Tryz.prog 63 false 1 := ⟨by kernel_rfl, by kernel_rfl⟩
instance : TySl Tryz.prog 63 46 := ⟨by kernel_rfl⟩
instance : TyZ Tryz.prog 63 24 (.slice none 0 0) := ⟨by kernel_rfl⟩
instance : TyV Tryz.prog 64 false 1 := ⟨by kernel_rfl, by kernel_rfl⟩
instance : TyZ Tryz.prog 64 8 .nilFunc := ⟨by kernel_rfl⟩
instance : TyV Tryz.prog 65 false 1 := ⟨by kernel_rfl, by kernel_rfl⟩
instance : TyZ Tryz.prog 65 8 .nilFunc := ⟨by kernel_rfl⟩
instance : TyV Tryz.prog 66 false 1 := ⟨by kernel_rfl, by kernel_rfl⟩
instance : TySl Tryz.prog 66 36 := ⟨by kernel_rfl⟩
instance : TyZ Tryz.prog 66 24 (.slice none 0 0) := ⟨by kernel_rfl⟩
instance : TyV Tryz.prog 67 false 1 := ⟨by kernel_rfl, by kernel_rfl⟩
instance : TyZ Tryz.prog 67 8 .nilFunc := ⟨by kernel_rfl⟩
instance : TyV Tryz.prog 68 false 1 := ⟨by kernel_rfl, by kernel_rfl⟩
instance : TyZ Tryz.prog 68 8 .nilFunc := ⟨by kernel_rfl⟩
instance : TyV Tryz.prog 69 false 1 := ⟨by kernel_rfl, by kernel_rfl⟩
instance : TyZ Tryz.prog 69 8 .nilFunc := ⟨by kernel_rfl⟩
instance : TyV Tryz.prog 70 false 1 := ⟨by kernel_rfl, by kernel_rfl⟩
instance : TyZ Tryz.prog 70 8 .nilFunc := ⟨by kernel_rfl⟩
instance : TyV Tryz.prog 71 true 5 := ⟨by kernel_rfl, by kernel_rfl⟩
instance : TyPl Tryz.prog 71 [(0, 1), (1, 1), (2, 1), (3, 1), (4, 1)] := ⟨by kernel_rfl⟩
instance : TyEqI Tryz.prog 71 5 := ⟨by kernel_rfl, by kernel_rfl, by kernel_rfl⟩
instance : TyFld Tryz.prog 71 0 0 0 false := ⟨by kernel_rfl⟩
instance : TyFld Tryz.prog 71 1 1 0 false := ⟨by kernel_rfl⟩
instance : TyFld Tryz.prog 71 2 2 0 false := ⟨by kernel_rfl⟩
instance : TyFld Tryz.prog 71 3 3 0 false := ⟨by kernel_rfl⟩
instance : TyFld Tryz.prog 71 4 4 0 false := ⟨by kernel_rfl⟩
instance : TyZ Tryz.prog 71 40 (.agg #[(.int .i64 0), (.int .i64 0), (.int .i64 0), (.int .i64 0), (.int .i64 0)]) := ⟨by kernel_rfl⟩
instance : TyV Tryz.prog 72 true 5 := ⟨by kernel_rfl, by kernel_rfl⟩
instance : TyPl Tryz.prog 72 [(0, 1), (1, 1), (2, 1), (3, 1), (4, 1)] := ⟨by kernel_rfl⟩
instance : TyEqI Tryz.prog 72 5 := ⟨by kernel_rfl, by kernel_rfl, by kernel_rfl⟩
instance : TyFld Tryz.prog 72 0 0 0 false := ⟨by kernel_rfl⟩
instance : TyFld Tryz.prog 72 1 1 0 false := ⟨by kernel_rfl⟩
instance : TyFld Tryz.prog 72 2 2 0 false := ⟨by kernel_rfl⟩
instance : TyFld Tryz.prog 72 3 3 0 false := ⟨by kernel_rfl⟩
instance : TyFld Tryz.prog 72 4 4 0 false := ⟨by kernel_rfl⟩
instance : TyZ Tryz.prog 72 40 (.agg #[(.int .i64 0), (.int .i64 0), (.int .i64 0), (.int .i64 0), (.int .i64 0)]) := ⟨by kernel_rfl⟩
instance : TyV Tryz.prog 73 false 1 := ⟨by kernel_rfl, by kernel_rfl⟩
instance : TySl Tryz.prog 73 30 := ⟨by kernel_rfl⟩
instance : TyZ Tryz.prog 73 24 (.slice none 0 0) := ⟨by kernel_rfl⟩
instance : TyV Tryz.prog 74 false 1 := ⟨by kernel_rfl, by kernel_rfl⟩
instance : TySl Tryz.prog 74 137 := ⟨by kernel_rfl⟩
instance : TyZ Tryz.prog 74 24 (.slice none 0 0) := ⟨by kernel_rfl⟩
instance : TyV Tryz.prog 75 true 15 := ⟨by kernel_rfl, by kernel_rfl⟩
instance : TyPl Tryz.prog 75 [(0, 1), (1, 4), (5, 5), (10, 1), (11, 1), (12, 1), (13, 1), (14, 1)] := ⟨by kernel_rfl⟩
instance : TyFld Tryz.prog 75 0 0 0 false := ⟨by kernel_rfl⟩
instance : TyFld Tryz.prog 75 1 1 3 true := ⟨by kernel_rfl⟩
instance : TyFld Tryz.prog 75 2 5 4 true := ⟨by kernel_rfl⟩
instance : TyFld Tryz.prog 75 3 10 0 false := ⟨by kernel_rfl⟩
instance : TyFld Tryz.prog 75 4 11 0 false := ⟨by kernel_rfl⟩
instance : TyFld Tryz.prog 75 5 12 0 false := ⟨by kernel_rfl⟩
instance : TyFld Tryz.prog 75 6 13 0 false := ⟨by kernel_rfl⟩
instance : TyFld Tryz.prog 75 7 14 0 false := ⟨by kernel_rfl⟩
instance : TyZ Tryz.prog 75 184 (.agg #[(.int .i64 0), (.int .i64 0), (.int .i64 0), (.int .i64 0), (.int .i64 0), (.int .i64 0), (.int .i64 0), (.int .i64 0), (.int .i64 0), (.int .i64 0), (.slice none 0 0), (.slice none 0 0), (.slice none 0 0), (.slice none 0 0), (.bool false)]) := ⟨by kernel_rfl⟩
instance : TyV Tryz.prog 76 true 15 := ⟨by kernel_rfl, by kernel_rfl⟩
instance : TyPl Tryz.prog 76 [(0, 1), (1, 4), (5, 5), (10, 1), (11, 1), (12, 1), (13, 1), (14, 1)] := ⟨by kernel_rfl⟩
instance : TyFld Tryz.prog 76 0 0 0 false := ⟨by kernel_rfl⟩
instance : TyFld Tryz.prog 76 1 1 3 true := ⟨by kernel_rfl⟩
instance : TyFld Tryz.prog 76 2 5 4 true := ⟨by kernel_rfl⟩
instance : TyFld Tryz.prog 76 3 10 0 false := ⟨by kernel_rfl⟩
instance : TyFld Tryz.prog 76 4 11 0 false := ⟨by kernel_rfl⟩
instance : TyFld Tryz.prog 76 5 12 0 false := ⟨by kernel_rfl⟩
instance : TyFld Tryz.prog 76 6 13 0 false := ⟨by kernel_rfl⟩
instance : TyFld Tryz.prog 76 7 14 0 false := ⟨by kernel_rfl⟩
instance : TyZ Tryz.prog 76 184 (.agg #[(.int .i64 0), (.int .i64 0), (.int .i64 0), (.int .i64 0), (.int .i64 0), (.int .i64 0), (.int .i64 0), (.int .i64 0), (.int .i64 0), (.int .i64 0), (.slice none 0 0), (.slice none 0 0), (.slice none 0 0), (.slice none 0 0), (.bool false)]) := ⟨by kernel_rfl⟩
instance : TyV Tryz.prog 78 false 1 := ⟨by kernel_rfl, by kernel_rfl⟩
instance : TyZ Tryz.prog 78 8 .nilFunc := ⟨by kernel_rfl⟩
instance : TyV Tryz.prog 80 false 1 := ⟨by kernel_rfl, by kernel_rfl⟩
instance : TyZ Tryz.prog 80 8 .nilFunc := ⟨by kernel_rfl⟩
instance : TyV Tryz.prog 81 false 1 := ⟨by kernel_rfl, by kernel_rfl⟩
instance : TyZ Tryz.prog 81 8 .nilFunc := ⟨by kernel_rfl⟩
instance : TyV Tryz.prog 82 false 1 := ⟨by kernel_rfl, by kernel_rfl⟩
instance : TyZ Tryz.prog 82 8 .nilFunc := ⟨by kernel_rfl⟩
instance : TyV Tryz.prog 83 true 2 := ⟨by kernel_rfl, by kernel_rfl⟩
instance : TyPl Tryz.prog 83 [(0, 1), (1, 1)] := ⟨by kernel_rfl⟩
instance : TyFld Tryz.prog 83 0 0 0 false := ⟨by kernel_rfl⟩
instance : TyFld Tryz.prog 83 1 1 0 false := ⟨by kernel_rfl⟩
instance : TyZ Tryz.prog 83 32 (.agg #[(.slice none 0 0), (.int .i64 0)]) := ⟨by kernel_rfl⟩
instance : TyV Tryz.prog 84 true 2 := ⟨by kernel_rfl, by kernel_rfl⟩
instance : TyPl Tryz.prog 84 [(0, 1), (1, 1)] := ⟨by kernel_rfl⟩
instance : TyFld Tryz.prog 84 0 0 0 false := ⟨by kernel_rfl⟩
instance : TyFld Tryz.prog 84 1 1 0 false := ⟨by kernel_rfl⟩
instance : TyZ Tryz.prog 84 32 (.agg #[(.slice none 0 0), (.int .i64 0)]) := ⟨by kernel_rfl⟩
instance : TyV Tryz.prog 85 false 1 := ⟨by kernel_rfl, by kernel_rfl⟩
instance : TyZ Tryz.prog 85 8 .nilFunc := ⟨by kernel_rfl⟩
instance : TyV Tryz.prog 87 false 1 := ⟨by kernel_rfl, by kernel_rfl⟩
instance : TyZ Tryz.prog 87 8 .nilFunc := ⟨by kernel_rfl⟩
instance : TyV Tryz.prog 88 true 6 := ⟨by kernel_rfl, by kernel_rfl⟩
instance : TyPl Tryz.prog 88 [(0, 5), (5, 1)] := ⟨by kernel_rfl⟩
instance : TyFld Tryz.prog 88 0 0 4 true := ⟨by kernel_rfl⟩
instance : TyFld Tryz.prog 88 1 5 0 false := ⟨by kernel_rfl⟩
instance : TyZ Tryz.prog 88 64 (.agg #[(.int .i64 0), (.int .i64 0), (.int .i64 0), (.int .i64 0), (.int .i64 0), (.slice none 0 0)]) := ⟨by kernel_rfl⟩
instance : TyV Tryz.prog 89 true 6 := ⟨by kernel_rfl, by kernel_rfl⟩
instance : TyPl Tryz.prog 89 [(0, 5), (5, 1)] := ⟨by kernel_rfl⟩
instance : TyFld Tryz.prog 89 0 0 4 true := ⟨by kernel_rfl⟩
instance : TyFld Tryz.prog 89 1 5 0 false := ⟨by kernel_rfl⟩
instance : TyZ Tryz.prog 89 64 (.agg #[(.int .i64 0), (.int .i64 0), (.int .i64 0), (.int .i64 0), (.int .i64 0), (.slice none 0 0)]) := ⟨by kernel_rfl⟩
instance : TyV Tryz.prog 90 false 1 := ⟨by kernel_rfl, by kernel_rfl⟩
instance : TyZ Tryz.prog 90 8 .nilFunc := ⟨by kernel_rfl⟩
instance : TyV Tryz.prog 91 false 1 := ⟨by kernel_rfl, by kernel_rfl⟩
instance : TyZ Tryz.prog 91 8 .nilFunc := ⟨by kernel_rfl⟩
instance : TyV Tryz.prog 92 true 5 := ⟨by kernel_rfl, by kernel_rfl⟩
instance : TyPl Tryz.prog 92 [(0, 1), (1, 1), (2, 1), (3, 1), (4, 1)] := ⟨by kernel_rfl⟩
instance : TyFld Tryz.prog 92 0 0 0 false := ⟨by kernel_rfl⟩
instance : TyFld Tryz.prog 92 1 1 0 false := ⟨by kernel_rfl⟩
instance : TyFld Tryz.prog 92 2 2 0 false := ⟨by kernel_rfl⟩
instance : TyFld Tryz.prog 92 3 3 0 false := ⟨by kernel_rfl⟩
instance : TyFld Tryz.prog 92 4 4 0 false := ⟨by kernel_rfl⟩
instance : TyZ Tryz.prog 92 72 (.agg #[(.int .i64 0), (.int .i64 0), (.int .i64 0), (.slice none 0 0), (.slice none 0 0)]) := ⟨by kernel_rfl⟩
instance : TyV Tryz.prog 93 true 5 := ⟨by kernel_rfl, by kernel_rfl⟩
instance : TyPl Tryz.prog 93 [(0, 1), (1, 1), (2, 1), (3, 1), (4, 1)] := ⟨by kernel_rfl⟩
instance : TyFld Tryz.prog 93 0 0 0 false := ⟨by kernel_rfl⟩
instance : TyFld Tryz.prog 93 1 1 0 false := ⟨by kernel_rfl⟩
instance : TyFld Tryz.prog 93 2 2 0 false := ⟨by kernel_rfl⟩
instance : TyFld Tryz.prog 93 3 3 0 false := ⟨by kernel_rfl⟩
instance : TyFld Tryz.prog 93 4 4 0 false := ⟨by kernel_rfl⟩
instance : TyZ Tryz.prog 93 72 (.agg #[(.int .i64 0), (.int .i64 0), (.int .i64 0), (.slice none 0 0), (.slice none 0 0)]) := ⟨by kernel_rfl⟩
instance : TyV Tryz.prog 94 false 1 := ⟨by kernel_rfl, by kernel_rfl⟩
instance : TyZ Tryz.prog 94 8 .nilFunc := ⟨by kernel_rfl⟩
instance : TyV Tryz.prog 95 false 1 := ⟨by kernel_rfl, by kernel_rfl⟩
instance : TyZ Tryz.prog 95 8 .nilFunc := ⟨by kernel_rfl⟩
instance : TyV Tryz.prog 96 false 1 := ⟨by kernel_rfl, by kernel_rfl⟩
instance : TyZ Tryz.prog 96 8 .nilFunc := ⟨by kernel_rfl⟩
instance : TyV Tryz.prog 97 false 1 := ⟨by kernel_rfl, by kernel_rfl⟩
instance : TyZ Tryz.prog 97 8 .nilFunc := ⟨by kernel_rfl⟩
instance : TyV Tryz.prog 98 false 1 := ⟨by kernel_rfl, by kernel_rfl⟩
instance : TyZ Tryz.prog 98 8 (.pointer none) := ⟨by kernel_rfl⟩
instance : TyV Tryz.prog 99 false 1 := ⟨by kernel_rfl, by kernel_rfl⟩
instance : TyZ Tryz.prog 99 8 .nilFunc := ⟨by kernel_rfl⟩
instance : TyV Tryz.prog 101 false 1 := ⟨by kernel_rfl, by kernel_rfl⟩
instance : TyZ Tryz.prog 101 8 .nilFunc := ⟨by kernel_rfl⟩
instance : TyV Tryz.prog 102 false 1 := ⟨by kernel_rfl, by kernel_rfl⟩
instance : TyZ Tryz.prog 102 8 .nilFunc := ⟨by kernel_rfl⟩
instance : TyV Tryz.prog 104 false 1 := ⟨by kernel_rfl, by kernel_rfl⟩
instance : TyZ Tryz.prog 104 8 .nilFunc := ⟨by kernel_rfl⟩
instance : TyV Tryz.prog 105 false 1 := ⟨by kernel_rfl, by kernel_rfl⟩
instance : TyZ Tryz.prog 105 8 .nilFunc := ⟨by kernel_rfl⟩
instance : TyV Tryz.prog 107 false 1 := ⟨by kernel_rfl, by kernel_rfl⟩
instance : TyZ Tryz.prog 107 8 .nilFunc := ⟨by kernel_rfl⟩
instance : TyV Tryz.prog 108 false 1 := ⟨by kernel_rfl, by kernel_rfl⟩
instance : TyZ Tryz.prog 108 8 .nilFunc := ⟨by kernel_rfl⟩
instance : TyV Tryz.prog 109 false 1 := ⟨by kernel_rfl, by kernel_rfl⟩
instance : TyZ Tryz.prog 109 8 .nilFunc := ⟨by kernel_rfl⟩
instance : TyV Tryz.prog 110 false 1 := ⟨by kernel_rfl, by kernel_rfl⟩
instance : TyZ Tryz.prog 110 8 .nilFunc := ⟨by kernel_rfl⟩
instance : TyV Tryz.prog 111 false 1 := ⟨by kernel_rfl, by kernel_rfl⟩
instance : TyZ Tryz.prog 111 8 .nilFunc := ⟨by kernel_rfl⟩
instance : TyV Tryz.prog 112 false 1 := ⟨by kernel_rfl, by kernel_rfl⟩
instance : TyZ Tryz.prog 112 8 .nilFunc := ⟨by kernel_rfl⟩
instance : TyV Tryz.prog 113 false 1 := ⟨by kernel_rfl, by kernel_rfl⟩
instance : TyZ Tryz.prog 113 8 .nilFunc := ⟨by kernel_rfl⟩
instance : TyV Tryz.prog 115 false 1 := ⟨by kernel_rfl, by kernel_rfl⟩
instance : TyZ Tryz.prog 115 8 .nilFunc := ⟨by kernel_rfl⟩
instance : TyV Tryz.prog 116 false 1 := ⟨by kernel_rfl, by kernel_rfl⟩
instance : TyZ Tryz.prog 116 8 .nilFunc := ⟨by kernel_rfl⟩
instance : TyV Tryz.prog 117 false 1 := ⟨by kernel_rfl, by kernel_rfl⟩
instance : TyZ Tryz.prog 117 8 .nilFunc := ⟨by kernel_rfl⟩
instance : TyV Tryz.prog 118 false 1 := ⟨by kernel_rfl, by kernel_rfl⟩
instance : TyZ Tryz.prog 118 8 .nilFunc := ⟨by kernel_rfl⟩
instance : TyV Tryz.prog 119 false 1 := ⟨by kernel_rfl, by kernel_rfl⟩
instance : TyZ Tryz.prog 119 8 .nilFunc := ⟨by kernel_rfl⟩
instance : TyV Tryz.prog 120 false 1 := ⟨by kernel_rfl, by kernel_rfl⟩
instance : TyZ Tryz.prog 120 8 .nilFunc := ⟨by kernel_rfl⟩
instance : TyV Tryz.prog 121 true 2 := ⟨by kernel_rfl, by kernel_rfl⟩
instance : TyPl Tryz.prog 121 [(0, 1), (1, 1)] := ⟨by kernel_rfl⟩
instance : TyFld Tryz.prog 121 0 0 0 false := ⟨by kernel_rfl⟩
instance : TyFld Tryz.prog 121 1 1 0 false := ⟨by kernel_rfl⟩
instance : TyZ Tryz.prog 121 32 (.agg #[(.slice none 0 0), (.int .i64 0)]) := ⟨by kernel_rfl⟩
instance : TyV Tryz.prog 122 true 2 := ⟨by kernel_rfl, by kernel_rfl⟩
instance : TyPl Tryz.prog 122 [(0, 1), (1, 1)] := ⟨by kernel_rfl⟩
instance : TyFld Tryz.prog 122 0 0 0 false := ⟨by kernel_rfl⟩
instance : TyFld Tryz.prog 122 1 1 0 false := ⟨by kernel_rfl⟩
instance : TyZ Tryz.prog 122 32 (.agg #[(.slice none 0 0), (.int .i64 0)]) := ⟨by kernel_rfl⟩
instance : TyV Tryz.prog 124 false 1 := ⟨by kernel_rfl, by kernel_rfl⟩
instance : TyZ Tryz.prog 124 8 .nilFunc := ⟨by kernel_rfl⟩
instance : TyV Tryz.prog 125 false 1 := ⟨by kernel_rfl, by kernel_rfl⟩
instance : TyZ Tryz.prog 125 8 .nilFunc := ⟨by kernel_rfl⟩
instance : TyV Tryz.prog 126 false 1 := ⟨by kernel_rfl, by kernel_rfl⟩
instance : TyZ Tryz.prog 126 8 .nilFunc := ⟨by kernel_rfl⟩
instance : TyV Tryz.prog 127 false 1 := ⟨by kernel_rfl, by kernel_rfl⟩
instance : TyZ Tryz.prog 127 8 .nilFunc := ⟨by kernel_rfl⟩
instance : TyV Tryz.prog 128 false 1 := ⟨by kernel_rfl, by kernel_rfl⟩
instance : TyZ Tryz.prog 128 8 .nilFunc := ⟨by kernel_rfl⟩
instance : TyV Tryz.prog 129 false 1 := ⟨by kernel_rfl, by kernel_rfl⟩
instance : TyZ Tryz.prog 129 8 .nilFunc := ⟨by kernel_rfl⟩
instance : TyV Tryz.prog 130 false 1 := ⟨by kernel_rfl, by kernel_rfl⟩
instance : TyZ Tryz.prog 130 8 .nilFunc := ⟨by kernel_rfl⟩
instance : TyV Tryz.prog 131 false 1 := ⟨by kernel_rfl, by kernel_rfl⟩
instance : TyZ Tryz.prog 131 8 .nilFunc := ⟨by kernel_rfl⟩
instance : TyV Tryz.prog 132 false 1 := ⟨by kernel_rfl, by kernel_rfl⟩
instance : TyZ Tryz.prog 132 8 .nilFunc := ⟨by kernel_rfl⟩
instance : TyV Tryz.prog 133 false 1 := ⟨by kernel_rfl, by kernel_rfl⟩
instance : TyZ Tryz.prog 133 8 .nilFunc := ⟨by kernel_rfl⟩
instance : TyV Tryz.prog 134 false 1 := ⟨by kernel_rfl, by kernel_rfl⟩
instance : TyZ Tryz.prog 134 8 (.pointer none) := ⟨by kernel_rfl⟩
instance : TyV Tryz.prog 135 true 2 := ⟨by kernel_rfl, by kernel_rfl⟩
instance : TyPl Tryz.prog 135 [(0, 1), (1, 1)] := ⟨by kernel_rfl⟩
instance : TyFld Tryz.prog 135 0 0 0 false := ⟨by kernel_rfl⟩
instance : TyFld Tryz.prog 135 1 1 0 false := ⟨by kernel_rfl⟩
instance : TyZ Tryz.prog 135 32 (.agg #[(.bool false), (.slice none 0 0)]) := ⟨by kernel_rfl⟩
instance : TyV Tryz.prog 136 true 2 := ⟨by kernel_rfl, by kernel_rfl⟩
instance : TyPl Tryz.prog 136 [(0, 1), (1, 1)] := ⟨by kernel_rfl⟩
instance : TyFld Tryz.prog 136 0 0 0 false := ⟨by kernel_rfl⟩
instance : TyFld Tryz.prog 136 1 1 0 false := ⟨by kernel_rfl⟩
instance : TyZ Tryz.prog 136 32 (.agg #[(.bool false), (.slice none 0 0)]) := ⟨by kernel_rfl⟩
instance : TyV Tryz.prog 137 false 1 := ⟨by kernel_rfl, by kernel_rfl⟩
instance : TySl Tryz.prog 137 136 := ⟨by kernel_rfl⟩
instance : TyZ Tryz.prog 137 24 (.slice none 0 0) := ⟨by kernel_rfl⟩
instance : TyV Tryz.prog 138 false 1 := ⟨by kernel_rfl, by kernel_rfl⟩
instance : TyZ Tryz.prog 138 8 .nilFunc := ⟨by kernel_rfl⟩
instance : TyV Tryz.prog 139 false 1 := ⟨by kernel_rfl, by kernel_rfl⟩
instance : TyZ Tryz.prog 139 8 .nilFunc := ⟨by kernel_rfl⟩
instance : TyV Tryz.prog 141 false 1 := ⟨by kernel_rfl, by kernel_rfl⟩
instance : TyZ Tryz.prog 141 8 .nilFunc := ⟨by kernel_rfl⟩
instance : TyV Tryz.prog 142 false 1 := ⟨by kernel_rfl, by kernel_rfl⟩
instance : TySl Tryz.prog 142 213 := ⟨by kernel_rfl⟩
instance : TyZ Tryz.prog 142 24 (.slice none 0 0) := ⟨by kernel_rfl⟩
instance : TyV Tryz.prog 143 true 4 := ⟨by kernel_rfl, by kernel_rfl⟩
instance : TyPl Tryz.prog 143 [(0, 1), (1, 1), (2, 1), (3, 1)] := ⟨by kernel_rfl⟩
instance : TyFld Tryz.prog 143 0 0 0 false := ⟨by kernel_rfl⟩
instance : TyFld Tryz.prog 143 1 1 0 false := ⟨by kernel_rfl⟩
instance : TyFld Tryz.prog 143 2 2 0 false := ⟨by kernel_rfl⟩
instance : TyFld Tryz.prog 143 3 3 0 false := ⟨by kernel_rfl⟩
instance : TyZ Tryz.prog 143 48 (.agg #[(.int .i64 0), (.int .i64 0), (.int .i64 0), (.slice none 0 0)]) := ⟨by kernel_rfl⟩
instance : TyV Tryz.prog 144 true 4 := ⟨by kernel_rfl, by kernel_rfl⟩
instance : TyPl Tryz.prog 144 [(0, 1), (1, 1), (2, 1), (3, 1)] := ⟨by kernel_rfl⟩
instance : TyFld Tryz.prog 144 0 0 0 false := ⟨by kernel_rfl⟩
instance : TyFld Tryz.prog 144 1 1 0 false := ⟨by kernel_rfl⟩
instance : TyFld Tryz.prog 144 2 2 0 false := ⟨by kernel_rfl⟩
instance : TyFld Tryz.prog 144 3 3 0 false := ⟨by kernel_rfl⟩
instance : TyZ Tryz.prog 144 48 (.agg #[(.int .i64 0), (.int .i64 0), (.int .i64 0), (.slice none 0 0)]) := ⟨by kernel_rfl⟩
instance : TyV Tryz.prog 145 false 1 := ⟨by kernel_rfl, by kernel_rfl⟩
instance : TyZ Tryz.prog 145 8 .nilFunc := ⟨by kernel_rfl⟩
instance : TyV Tryz.prog 146 false 1 := ⟨by kernel_rfl, by kernel_rfl⟩
instance : TyZ Tryz.prog 146 8 .nilFunc := ⟨by kernel_rfl⟩
instance : TyV Tryz.prog 147 false 1 := ⟨by kernel_rfl, by kernel_rfl⟩
instance : TyZ Tryz.prog 147 8 .nilFunc := ⟨by kernel_rfl⟩
instance : TyV Tryz.prog 148 false 1 := ⟨by kernel_rfl, by kernel_rfl⟩
instance : TyZ Tryz.prog 148 8 .nilFunc := ⟨by kernel_rfl⟩
instance : TyV Tryz.prog 149 false 1 := ⟨by kernel_rfl, by kernel_rfl⟩
instance : TyZ Tryz.prog 149 8 .nilFunc := ⟨by kernel_rfl⟩
instance : TyV Tryz.prog 150 false 1 := ⟨by kernel_rfl, by kernel_rfl⟩
instance : TyZ Tryz.prog 150 8 .nilFunc := ⟨by kernel_rfl⟩
instance : TyV Tryz.prog 151 false 1 := ⟨by kernel_rfl, by kernel_rfl⟩
instance : TyZ Tryz.prog 151 8 .nilFunc := ⟨by kernel_rfl⟩
instance : TyV Tryz.prog 152 false 1 := ⟨by kernel_rfl, by kernel_rfl⟩
instance : TyInt Tryz.prog 152 .i64 := ⟨by kernel_rfl⟩
instance : TyZ Tryz.prog 152 8 (.int .i64 0) := ⟨by kernel_rfl⟩
instance : TyV Tryz.prog 154 false 1 := ⟨by kernel_rfl, by kernel_rfl⟩
instance : TyZ Tryz.prog 154 8 .nilFunc := ⟨by kernel_rfl⟩
instance : TyV Tryz.prog 155 false 1 := ⟨by kernel_rfl, by kernel_rfl⟩
instance : TyZ Tryz.prog 155 8 .nilFunc := ⟨by kernel_rfl⟩
instance : TyV Tryz.prog 156 false 1 := ⟨by kernel_rfl, by kernel_rfl⟩
instance : TyZ Tryz.prog 156 8 .nilFunc := ⟨by kernel_rfl⟩
instance : TyV Tryz.prog 157 false 1 := ⟨by kernel_rfl, by kernel_rfl⟩
instance : TyZ Tryz.prog 157 8 .nilFunc := ⟨by kernel_rfl⟩
instance : TyV Tryz.prog 158 false 1 := ⟨by kernel_rfl, by kernel_rfl⟩
instance : TyZ Tryz.prog 158 8 .nilFunc := ⟨by kernel_rfl⟩
instance : TyV Tryz.prog 159 false 1 := ⟨by kernel_rfl, by kernel_rfl⟩
instance : TyZ Tryz.prog 159 8 .nilFunc := ⟨by kernel_rfl⟩
instance : TyV Tryz.prog 160 false 1 := ⟨by kernel_rfl, by kernel_rfl⟩
instance : TyZ Tryz.prog 160 8 .nilFunc := ⟨by kernel_rfl⟩
instance : TyV Tryz.prog 161 false 1 := ⟨by kernel_rfl, by kernel_rfl⟩
instance : TyZ Tryz.prog 161 8 .nilFunc := ⟨by kernel_rfl⟩
instance : TyV Tryz.prog 162 false 1 := ⟨by kernel_rfl, by kernel_rfl⟩
instance : TyZ Tryz.prog 162 8 .nilFunc := ⟨by kernel_rfl⟩
instance : TyV Tryz.prog 163 false 1 := ⟨by kernel_rfl, by kernel_rfl⟩
instance : TyZ Tryz.prog 163 8 .nilFunc := ⟨by kernel_rfl⟩
instance : TyV Tryz.prog 164 false 1 := ⟨by kernel_rfl, by kernel_rfl⟩
instance : TyZ Tryz.prog 164 8 .nilFunc := ⟨by kernel_rfl⟩
instance : TyV Tryz.prog 165 false 1 := ⟨by kernel_rfl, by kernel_rfl⟩
instance : TyZ Tryz.prog 165 8 .nilFunc := ⟨by kernel_rfl⟩
instance : TyV Tryz.prog 166 true 3 := ⟨by kernel_rfl, by kernel_rfl⟩
instance : TyPl Tryz.prog 166 [(0, 1), (1, 1), (2, 1)] := ⟨by kernel_rfl⟩
instance : TyEqI Tryz.prog 166 3 := ⟨by kernel_rfl, by kernel_rfl, by kernel_rfl⟩
instance : TyFld Tryz.prog 166 0 0 0 false := ⟨by kernel_rfl⟩
instance : TyFld Tryz.prog 166 1 1 0 false := ⟨by kernel_rfl⟩
instance : TyFld Tryz.prog 166 2 2 0 false := ⟨by kernel_rfl⟩
instance : TyZ Tryz.prog 166 24 (.agg #[(.int .i64 0), (.int .i64 0), (.int .i64 0)]) := ⟨by kernel_rfl⟩
instance : TyV Tryz.prog 167 true 3 := ⟨by kernel_rfl, by kernel_rfl⟩
instance : TyPl Tryz.prog 167 [(0, 1), (1, 1), (2, 1)] := ⟨by kernel_rfl⟩
instance : TyEqI Tryz.prog 167 3 := ⟨by kernel_rfl, by kernel_rfl, by kernel_rfl⟩
instance : TyFld Tryz.prog 167 0 0 0 false := ⟨by kernel_rfl⟩
instance : TyFld Tryz.prog 167 1 1 0 false := ⟨by kernel_rfl⟩
instance : TyFld Tryz.prog 167 2 2 0 false := ⟨by kernel_rfl⟩
instance : TyZ Tryz.prog 167 24 (.agg #[(.int .i64 0), (.int .i64 0), (.int .i64 0)]) := ⟨by kernel_rfl⟩
instance : TyV Tryz.prog 168 false 1 := ⟨by kernel_rfl, by kernel_rfl⟩
instance : TyZ Tryz.prog 168 8 .nilFunc := ⟨by kernel_rfl⟩
instance : TyV Tryz.prog 169 false 1 := ⟨by kernel_rfl, by kernel_rfl⟩
instance : TyZ Tryz.prog 169 8 .nilFunc := ⟨by kernel_rfl⟩
instance : TyV Tryz.prog 170 false 1 := ⟨by kernel_rfl, by kernel_rfl⟩
instance : TyZ Tryz.prog 170 8 .nilFunc := ⟨by kernel_rfl⟩
instance : TyV Tryz.prog 171 false 1 := ⟨by kernel_rfl, by kernel_rfl⟩
instance : TyZ Tryz.prog 171 8 .nilFunc := ⟨by kernel_rfl⟩
instance : TyV Tryz.prog 172 false 1 := ⟨by kernel_rfl, by kernel_rfl⟩
instance : TyZ Tryz.prog 172 8 .nilFunc := ⟨by kernel_rfl⟩
instance : TyV Tryz.prog 174 false 1 := ⟨by kernel_rfl, by kernel_rfl⟩
instance : TyZ Tryz.prog 174 8 .nilFunc := ⟨by kernel_rfl⟩
instance : TyV Tryz.prog 175 false 1 := ⟨by kernel_rfl, by kernel_rfl⟩
instance : TyZ Tryz.prog 175 8 .nilFunc := ⟨by kernel_rfl⟩
instance : TyV Tryz.prog 176 false 1 := ⟨by kernel_rfl, by kernel_rfl⟩
instance : TyZ Tryz.prog 176 8 .nilFunc := ⟨by kernel_rfl⟩
instance : TyV Tryz.prog 177 false 1 := ⟨by kernel_rfl, by kernel_rfl⟩
instance : TyZ Tryz.prog 177 8 .nilFunc := ⟨by kernel_rfl⟩
instance : TyV Tryz.prog 178 false 1 := ⟨by kernel_rfl, by kernel_rfl⟩
instance : TyZ Tryz.prog 178 8 .nilFunc := ⟨by kernel_rfl⟩
instance : TyV Tryz.prog 180 false 1 := ⟨by kernel_rfl, by kernel_rfl⟩
instance : TyZ Tryz.prog 180 8 .nilFunc := ⟨by kernel_rfl⟩
instance : TyV Tryz.prog 181 false 1 := ⟨by kernel_rfl, by kernel_rfl⟩
instance : TyZ Tryz.prog 181 8 .nilFunc := ⟨by kernel_rfl⟩
instance : TyV Tryz.prog 183 false 1 := ⟨by kernel_rfl, by kernel_rfl⟩
instance : TyZ Tryz.prog 183 8 .nilFunc := ⟨by kernel_rfl⟩
instance : TyV Tryz.prog 185 false 1 := ⟨by kernel_rfl, by kernel_rfl⟩
instance : TyZ Tryz.prog 185 8 .nilFunc := ⟨by kernel_rfl⟩
instance : TyV Tryz.prog 186 false 1 := ⟨by kernel_rfl, by kernel_rfl⟩
instance : TyInt Tryz.prog 186 .u64 := ⟨by kernel_rfl⟩
instance : TyZ Tryz.prog 186 8 (.int .u64 0) := ⟨by kernel_rfl⟩
instance : TyV Tryz.prog 187 false 1 := ⟨by kernel_rfl, by kernel_rfl⟩
instance : TyZ Tryz.prog 187 8 .nilFunc := ⟨by kernel_rfl⟩
instance : TyV Tryz.prog 188 false 1 := ⟨by kernel_rfl, by kernel_rfl⟩
instance : TyZ Tryz.prog 188 8 .nilFunc := ⟨by kernel_rfl⟩
instance : TyV Tryz.prog 189 false 1 := ⟨by kernel_rfl, by kernel_rfl⟩
instance : TyZ Tryz.prog 189 8 .nilFunc := ⟨by kernel_rfl⟩
instance : TyV Tryz.prog 190 false 1 := ⟨by kernel_rfl, by kernel_rfl⟩
instance : TyZ Tryz.prog 190 8 .nilFunc := ⟨by kernel_rfl⟩
instance : TyV Tryz.prog 191 false 1 := ⟨by kernel_rfl, by kernel_rfl⟩
instance : TyZ Tryz.prog 191 8 .nilFunc := ⟨by kernel_rfl⟩
instance : TyV Tryz.prog 192 false 1 := ⟨by kernel_rfl, by kernel_rfl⟩
instance : TyZ Tryz.prog 192 8 .nilFunc := ⟨by kernel_rfl⟩
instance : TyV Tryz.prog 193 false 1 := ⟨by kernel_rfl, by kernel_rfl⟩
instance : TyZ Tryz.prog 193 8 .nilFunc := ⟨by kernel_rfl⟩
instance : TyV Tryz.prog 194 false 1 := ⟨by kernel_rfl, by kernel_rfl⟩
instance : TyZ Tryz.prog 194 8 .nilFunc := ⟨by kernel_rfl⟩
instance : TyV Tryz.prog 195 false 1 := ⟨by kernel_rfl, by kernel_rfl⟩
instance : TyZ Tryz.prog 195 8 .nilFunc := ⟨by kernel_rfl⟩
instance : TyV Tryz.prog 196 false 1 := ⟨by kernel_rfl, by kernel_rfl⟩
instance : TyZ Tryz.prog 196 8 .nilFunc := ⟨by kernel_rfl⟩
instance : TyV Tryz.prog 198 false 1 := ⟨by kernel_rfl, by kernel_rfl⟩
instance : TyZ Tryz.prog 198 8 .nilFunc := ⟨by kernel_rfl⟩
instance : TyV Tryz.prog 199 false 1 := ⟨by kernel_rfl, by kernel_rfl⟩
instance : TyZ Tryz.prog 199 8 .nilFunc := ⟨by kernel_rfl⟩
instance : TyV Tryz.prog 200 false 1 := ⟨by kernel_rfl, by kernel_rfl⟩
instance : TyZ Tryz.prog 200 8 .nilFunc := ⟨by kernel_rfl⟩
instance : TyV Tryz.prog 201 true 2 := ⟨by kernel_rfl, by kernel_rfl⟩
instance : TyPl Tryz.prog 201 [(0, 1), (1, 1)] := ⟨by kernel_rfl⟩
instance : TyEqI Tryz.prog 201 2 := ⟨by kernel_rfl, by kernel_rfl, by kernel_rfl⟩
instance : TyFld Tryz.prog 201 0 0 0 false := ⟨by kernel_rfl⟩
instance : TyFld Tryz.prog 201 1 1 0 false := ⟨by kernel_rfl⟩
instance : TyZ Tryz.prog 201 16 (.agg #[(.int .i64 0), (.int .i64 0)]) := ⟨by kernel_rfl⟩
instance : TyV Tryz.prog 202 true 2 := ⟨by kernel_rfl, by kernel_rfl⟩
instance : TyPl Tryz.prog 202 [(0, 1), (1, 1)] := ⟨by kernel_rfl⟩
instance : TyEqI Tryz.prog 202 2 := ⟨by kernel_rfl, by kernel_rfl, by kernel_rfl⟩
instance : TyFld Tryz.prog 202 0 0 0 false := ⟨by kernel_rfl⟩
instance : TyFld Tryz.prog 202 1 1 0 false := ⟨by kernel_rfl⟩
instance : TyZ Tryz.prog 202 16 (.agg #[(.int .i64 0), (.int .i64 0)]) := ⟨by kernel_rfl⟩
instance : TyV Tryz.prog 203 false 1 := ⟨by kernel_rfl, by kernel_rfl⟩
instance : TyZ Tryz.prog 203 8 .nilFunc := ⟨by kernel_rfl⟩
instance : TyV Tryz.prog 204 false 1 := ⟨by kernel_rfl, by kernel_rfl⟩
instance : TyZ Tryz.prog 204 8 .nilFunc := ⟨by kernel_rfl⟩
instance : TyV Tryz.prog 205 false 1 := ⟨by kernel_rfl, by kernel_rfl⟩
instance : TyZ Tryz.prog 205 8 .nilFunc := ⟨by kernel_rfl⟩
instance : TyV Tryz.prog 206 false 1 := ⟨by kernel_rfl, by kernel_rfl⟩
instance : TyZ Tryz.prog 206 8 .nilFunc := ⟨by kernel_rfl⟩
instance : TyV Tryz.prog 207 false 1 := ⟨by kernel_rfl, by kernel_rfl⟩
instance : TyZ Tryz.prog 207 8 .nilFunc := ⟨by kernel_rfl⟩
instance : TyV Tryz.prog 208 false 1 := ⟨by kernel_rfl, by kernel_rfl⟩
instance : TyInt Tryz.prog 208 .i64 := ⟨by kernel_rfl⟩
instance : TyZ Tryz.prog 208 8 (.int .i64 0) := ⟨by kernel_rfl⟩
instance : TyV Tryz.prog 209 false 1 := ⟨by kernel_rfl, by kernel_rfl⟩
instance : TyZ Tryz.prog 209 8 .nilFunc := ⟨by kernel_rfl⟩
instance : TyV Tryz.prog 210 false 1 := ⟨by kernel_rfl, by kernel_rfl⟩
instance : TyZ Tryz.prog 210 8 .nilFunc := ⟨by kernel_rfl⟩
instance : TyV Tryz.prog 211 false 1 := ⟨by kernel_rfl, by kernel_rfl⟩
instance : TyZ Tryz.prog 211 8 .nilFunc := ⟨by kernel_rfl⟩
instance : TyV Tryz.prog 212 true 2 := ⟨by kernel_rfl, by kernel_rfl⟩
instance : TyPl Tryz.prog 212 [(0, 1), (1, 1)] := ⟨by kernel_rfl⟩
instance : TyFld Tryz.prog 212 0 0 0 false := ⟨by kernel_rfl⟩
instance : TyFld Tryz.prog 212 1 1 0 false := ⟨by kernel_rfl⟩
instance : TyZ Tryz.prog 212 32 (.agg #[(.int .i64 0), (.slice none 0 0)]) := ⟨by kernel_rfl⟩
instance : TyV Tryz.prog 213 true 2 := ⟨by kernel_rfl, by kernel_rfl⟩
instance : TyPl Tryz.prog 213 [(0, 1), (1, 1)] := ⟨by kernel_rfl⟩
instance : TyFld Tryz.prog 213 0 0 0 false := ⟨by kernel_rfl⟩
instance : TyFld Tryz.prog 213 1 1 0 false := ⟨by kernel_rfl⟩
instance : TyZ Tryz.prog 213 32 (.agg #[(.int .i64 0), (.slice none 0 0)]) := ⟨by kernel_rfl⟩
instance : TyV Tryz.prog 214 false 1 := ⟨by kernel_rfl, by kernel_rfl⟩
instance : TyZ Tryz.prog 214 8 .nilFunc := ⟨by kernel_rfl⟩
instance : TyV Tryz.prog 215 false 1 := ⟨by kernel_rfl, by kernel_rfl⟩
instance : TyZ Tryz.prog 215 8 .nilFunc := ⟨by kernel_rfl⟩
instance : TyV Tryz.prog 216 false 1 := ⟨by kernel_rfl, by kernel_rfl⟩
instance : TyZ Tryz.prog 216 8 .nilFunc := ⟨by kernel_rfl⟩
instance : TyV Tryz.prog 217 false 1 := ⟨by kernel_rfl, by kernel_rfl⟩
instance : TyZ Tryz.prog 217 8 .nilFunc := ⟨by kernel_rfl⟩
instance : TyV Tryz.prog 218 false 1 := ⟨by kernel_rfl, by kernel_rfl⟩
instance : TyZ Tryz.prog 218 16 .nilIface := ⟨by kernel_rfl⟩
instance : TyV Tryz.prog 219 false 1 := ⟨by kernel_rfl, by kernel_rfl⟩
instance : TyZ Tryz.prog 219 16 .nilIface := ⟨by kernel_rfl⟩
instance : TyV Tryz.prog 220 false 1 := ⟨by kernel_rfl, by kernel_rfl⟩
instance : TyZ Tryz.prog 220 8 .nilFunc := ⟨by kernel_rfl⟩
instance : TyV Tryz.prog 221 false 1 := ⟨by kernel_rfl, by kernel_rfl⟩
instance : TyZ Tryz.prog 221 8 .nilFunc := ⟨by kernel_rfl⟩
instance : TyV Tryz.prog 222 false 1 := ⟨by kernel_rfl, by kernel_rfl⟩
instance : TyZ Tryz.prog 222 8 .nilFunc := ⟨by kernel_rfl⟩
instance : TyV Tryz.prog 223 false 1 := ⟨by kernel_rfl, by kernel_rfl⟩
instance : TyZ Tryz.prog 223 8 .nilFunc := ⟨by kernel_rfl⟩
instance : TyV Tryz.prog 224 false 1 := ⟨by kernel_rfl, by kernel_rfl⟩
instance : TyZ Tryz.prog 224 8 .nilFunc := ⟨by kernel_rfl⟩
instance : TyV Tryz.prog 225 false 1 := ⟨by kernel_rfl, by kernel_rfl⟩
instance : TyZ Tryz.prog 225 8 .nilFunc := ⟨by kernel_rfl⟩
instance : TyV Tryz.prog 226 false 1 := ⟨by kernel_rfl, by kernel_rfl⟩
instance : TyZ Tryz.prog 226 8 (.map none) := ⟨by kernel_rfl⟩
instance : TyV Tryz.prog 227 true 1 := ⟨by kernel_rfl, by kernel_rfl⟩
instance : TyPl Tryz.prog 227 [(0, 1)] := ⟨by kernel_rfl⟩
instance : TyEqI Tryz.prog 227 1 := ⟨by kernel_rfl, by kernel_rfl, by kernel_rfl⟩
instance : TyFld Tryz.prog 227 0 0 0 false := ⟨by kernel_rfl⟩
instance : TyZ Tryz.prog 227 8 (.agg #[(.int .i64 0)]) := ⟨by kernel_rfl⟩
instance : TyV Tryz.prog 228 true 1 := ⟨by kernel_rfl, by kernel_rfl⟩
instance : TyPl Tryz.prog 228 [(0, 1)] := ⟨by kernel_rfl⟩
instance : TyEqI Tryz.prog 228 1 := ⟨by kernel_rfl, by kernel_rfl, by kernel_rfl⟩
instance : TyFld Tryz.prog 228 0 0 0 false := ⟨by kernel_rfl⟩
instance : TyZ Tryz.prog 228 8 (.agg #[(.int .i64 0)]) := ⟨by kernel_rfl⟩
instance : TyV Tryz.prog 229 true 2 := ⟨by kernel_rfl, by kernel_rfl⟩
instance : TyPl Tryz.prog 229 [(0, 1), (1, 1)] := ⟨by kernel_rfl⟩
instance : TyEqI Tryz.prog 229 2 := ⟨by kernel_rfl, by kernel_rfl, by kernel_rfl⟩
instance : TyFld Tryz.prog 229 0 0 0 false := ⟨by kernel_rfl⟩
instance : TyFld Tryz.prog 229 1 1 0 false := ⟨by kernel_rfl⟩
instance : TyZ Tryz.prog 229 16 (.agg #[(.int .i64 0), (.int .i64 0)]) := ⟨by kernel_rfl⟩
instance : TyV Tryz.prog 230 true 3 := ⟨by kernel_rfl, by kernel_rfl⟩
instance : TyPl Tryz.prog 230 [(0, 1), (1, 1), (2, 1)] := ⟨by kernel_rfl⟩
instance : TyEqI Tryz.prog 230 3 := ⟨by kernel_rfl, by kernel_rfl, by kernel_rfl⟩
instance : TyFld Tryz.prog 230 0 0 0 false := ⟨by kernel_rfl⟩
instance : TyFld Tryz.prog 230 1 1 0 false := ⟨by kernel_rfl⟩
instance : TyFld Tryz.prog 230 2 2 0 false := ⟨by kernel_rfl⟩
instance : TyZ Tryz.prog 230 24 (.agg #[(.int .i64 0), (.int .i64 0), (.int .i64 0)]) := ⟨by kernel_rfl⟩
instance : TyV Tryz.prog 232 false 1 := ⟨by kernel_rfl, by kernel_rfl⟩
instance : TyZ Tryz.prog 232 8 .nilFunc := ⟨by kernel_rfl⟩
instance : TyV Tryz.prog 233 false 1 := ⟨by kernel_rfl, by kernel_rfl⟩
instance : TySl Tryz.prog 233 237 := ⟨by kernel_rfl⟩
instance : TyZ Tryz.prog 233 24 (.slice none 0 0) := ⟨by kernel_rfl⟩
instance : TyV Tryz.prog 235 false 1 := ⟨by kernel_rfl, by kernel_rfl⟩
instance : TyZ Tryz.prog 235 8 .nilFunc := ⟨by kernel_rfl⟩
instance : TyV Tryz.prog 236 true 2 := ⟨by kernel_rfl, by kernel_rfl⟩
instance : TyPl Tryz.prog 236 [(0, 1), (1, 1)] := ⟨by kernel_rfl⟩
instance : TyEqI Tryz.prog 236 2 := ⟨by kernel_rfl, by kernel_rfl, by kernel_rfl⟩
instance : TyFld Tryz.prog 236 0 0 0 false := ⟨by kernel_rfl⟩
instance : TyFld Tryz.prog 236 1 1 0 false := ⟨by kernel_rfl⟩
instance : TyZ Tryz.prog 236 16 (.agg #[(.int .i64 0), (.int .i64 0)]) := ⟨by kernel_rfl⟩
instance : TyV Tryz.prog 237 true 2 := ⟨by kernel_rfl, by kernel_rfl⟩
instance : TyPl Tryz.prog 237 [(0, 1), (1, 1)] := ⟨by kernel_rfl⟩
instance : TyEqI Tryz.prog 237 2 := ⟨by kernel_rfl, by kernel_rfl, by kernel_rfl⟩
instance : TyFld Tryz.prog 237 0 0 0 false := ⟨by kernel_rfl⟩
instance : TyFld Tryz.prog 237 1 1 0 false := ⟨by kernel_rfl⟩
instance : TyZ Tryz.prog 237 16 (.agg #[(.int .i64 0), (.int .i64 0)]) := ⟨by kernel_rfl⟩
instance : TyV Tryz.prog 238 false 1 := ⟨by kernel_rfl, by kernel_rfl⟩
instance : TyZ Tryz.prog 238 8 .nilFunc := ⟨by kernel_rfl⟩
instance : TyV Tryz.prog 239 false 1 := ⟨by kernel_rfl, by kernel_rfl⟩
instance : TyZ Tryz.prog 239 8 .nilFunc := ⟨by kernel_rfl⟩
instance : TyV Tryz.prog 240 false 1 := ⟨by kernel_rfl, by kernel_rfl⟩
instance : TyZ Tryz.prog 240 8 .nilFunc := ⟨by kernel_rfl⟩
instance : TyV Tryz.prog 241 false 1 := ⟨by kernel_rfl, by kernel_rfl⟩
instance : TyZ Tryz.prog 241 8 .nilFunc := ⟨by kernel_rfl⟩
instance : TyV Tryz.prog 242 false 1 := ⟨by kernel_rfl, by kernel_rfl⟩
instance : TyZ Tryz.prog 242 8 .nilFunc := ⟨by kernel_rfl⟩
instance : TyV Tryz.prog 243 false 1 := ⟨by kernel_rfl, by kernel_rfl⟩
instance : TyZ Tryz.prog 243 8 .nilFunc := ⟨by kernel_rfl⟩
instance : TyV Tryz.prog 244 true 4 := ⟨by kernel_rfl, by kernel_rfl⟩
instance : TyPl Tryz.prog 244 [(0, 1), (1, 1), (2, 1), (3, 1)] := ⟨by kernel_rfl⟩
instance : TyFld Tryz.prog 244 0 0 0 false := ⟨by kernel_rfl⟩
instance : TyFld Tryz.prog 244 1 1 0 false := ⟨by kernel_rfl⟩
instance : TyFld Tryz.prog 244 2 2 0 false := ⟨by kernel_rfl⟩
instance : TyFld Tryz.prog 244 3 3 0 false := ⟨by kernel_rfl⟩
instance : TyV Tryz.prog 245 true 4 := ⟨by kernel_rfl, by kernel_rfl⟩
instance : TyPl Tryz.prog 245 [(0, 1), (1, 1), (2, 1), (3, 1)] := ⟨by kernel_rfl⟩
instance : TyFld Tryz.prog 245 0 0 0 false := ⟨by kernel_rfl⟩
instance : TyFld Tryz.prog 245 1 1 0 false := ⟨by kernel_rfl⟩
instance : TyFld Tryz.prog 245 2 2 0 false := ⟨by kernel_rfl⟩
instance : TyFld Tryz.prog 245 3 3 0 false := ⟨by kernel_rfl⟩
instance : TyV Tryz.prog 246 true 0 := ⟨by kernel_rfl, by kernel_rfl⟩
instance : TyZ Tryz.prog 246 0 (.agg #[]) := ⟨by kernel_rfl⟩
instance : TyV Tryz.prog 247 true 0 := ⟨by kernel_rfl, by kernel_rfl⟩
instance : TyPl Tryz.prog 247 [(0, 0)] := ⟨by kernel_rfl⟩
instance : TyZ Tryz.prog 247 0 (.agg #[]) := ⟨by kernel_rfl⟩
instance : TyV Tryz.prog 248 true 0 := ⟨by kernel_rfl, by kernel_rfl⟩
instance : TyPl Tryz.prog 248 [(0, 0)] := ⟨by kernel_rfl⟩
instance : TyZ Tryz.prog 248 0 (.agg #[]) := ⟨by kernel_rfl⟩
instance : TyV Tryz.prog 249 false 1 := ⟨by kernel_rfl, by kernel_rfl⟩
instance : TyZ Tryz.prog 249 8 .nilFunc := ⟨by kernel_rfl⟩
instance : TyV Tryz.prog 250 false 1 := ⟨by kernel_rfl, by kernel_rfl⟩
instance : TyInt Tryz.prog 250 .u32 := ⟨by kernel_rfl⟩
instance : TyZ Tryz.prog 250 4 (.int .u32 0) := ⟨by kernel_rfl⟩
instance : TyV Tryz.prog 251 false 1 := ⟨by kernel_rfl, by kernel_rfl⟩
instance : TyInt Tryz.prog 251 .u8 := ⟨by kernel_rfl⟩
instance : TyZ Tryz.prog 251 1 (.int .u8 0) := ⟨by kernel_rfl⟩
instance : TyV Tryz.prog 252 false 1 := ⟨by kernel_rfl, by kernel_rfl⟩
instance : TyInt Tryz.prog 252 .u8 := ⟨by kernel_rfl⟩
instance : TyZ Tryz.prog 252 1 (.int .u8 0) := ⟨by kernel_rfl⟩
instance : TyV Tryz.prog 253 false 1 := ⟨by kernel_rfl, by kernel_rfl⟩
instance : TyZ Tryz.prog 253 8 .nilFunc := ⟨by kernel_rfl⟩
instance : TyV Tryz.prog 254 false 1 := ⟨by kernel_rfl, by kernel_rfl⟩
instance : TyZ Tryz.prog 254 8 (.pointer none) := ⟨by kernel_rfl⟩
instance : TyV Tryz.prog 255 false 1 := ⟨by kernel_rfl, by kernel_rfl⟩
instance : TyInt Tryz.prog 255 .i32 := ⟨by kernel_rfl⟩
instance : TyZ Tryz.prog 255 4 (.int .i32 0) := ⟨by kernel_rfl⟩
instance : TyV Tryz.prog 256 false 1 := ⟨by kernel_rfl, by kernel_rfl⟩
instance : TyInt Tryz.prog 256 .i32 := ⟨by kernel_rfl⟩
instance : TyZ Tryz.prog 256 4 (.int .i32 0) := ⟨by kernel_rfl⟩
instance : TyV Tryz.prog 257 true 11 := ⟨by kernel_rfl, by kernel_rfl⟩
instance : TyPl Tryz.prog 257 [(0, 1), (1, 1), (2, 1), (3, 1), (4, 1), (5, 1), (6, 1), (7, 1), (8, 1), (9, 1), (10, 1)] := ⟨by kernel_rfl⟩
instance : TyFld Tryz.prog 257 0 0 0 false := ⟨by kernel_rfl⟩
instance : TyFld Tryz.prog 257 1 1 0 false := ⟨by kernel_rfl⟩
instance : TyFld Tryz.prog 257 2 2 0 false := ⟨by kernel_rfl⟩
instance : TyFld Tryz.prog 257 3 3 0 false := ⟨by kernel_rfl⟩
instance : TyFld Tryz.prog 257 4 4 0 false := ⟨by kernel_rfl⟩
instance : TyFld Tryz.prog 257 5 5 0 false := ⟨by kernel_rfl⟩
instance : TyFld Tryz.prog 257 6 6 0 false := ⟨by kernel_rfl⟩
instance : TyFld Tryz.prog 257 7 7 0 false := ⟨by kernel_rfl⟩
instance : TyFld Tryz.prog 257 8 8 0 false := ⟨by kernel_rfl⟩
instance : TyFld Tryz.prog 257 9 9 0 false := ⟨by kernel_rfl⟩
instance : TyFld Tryz.prog 257 10 10 0 false := ⟨by kernel_rfl⟩
instance : TyZ Tryz.prog 257 48 (.agg #[(.int .u64 0), (.int .u64 0), (.int .u32 0), (.int .u8 0), (.int .u8 0), (.int .u8 0), (.int .u8 0), .nilFunc, (.pointer none), (.int .i32 0), (.int .i32 0)]) := ⟨by kernel_rfl⟩
instance : TyV Tryz.prog 258 true 11 := ⟨by kernel_rfl, by kernel_rfl⟩
instance : TyPl Tryz.prog 258 [(0, 1), (1, 1), (2, 1), (3, 1), (4, 1), (5, 1), (6, 1), (7, 1), (8, 1), (9, 1), (10, 1)] := ⟨by kernel_rfl⟩
instance : TyFld Tryz.prog 258 0 0 0 false := ⟨by kernel_rfl⟩
instance : TyFld Tryz.prog 258 1 1 0 false := ⟨by kernel_rfl⟩
instance : TyFld Tryz.prog 258 2 2 0 false := ⟨by kernel_rfl⟩
instance : TyFld Tryz.prog 258 3 3 0 false := ⟨by kernel_rfl⟩
instance : TyFld Tryz.prog 258 4 4 0 false := ⟨by kernel_rfl⟩
instance : TyFld Tryz.prog 258 5 5 0 false := ⟨by kernel_rfl⟩
instance : TyFld Tryz.prog 258 6 6 0 false := ⟨by kernel_rfl⟩
instance : TyFld Tryz.prog 258 7 7 0 false := ⟨by kernel_rfl⟩
instance : TyFld Tryz.prog 258 8 8 0 false := ⟨by kernel_rfl⟩
instance : TyFld Tryz.prog 258 9 9 0 false := ⟨by kernel_rfl⟩
instance : TyFld Tryz.prog 258 10 10 0 false := ⟨by kernel_rfl⟩
instance : TyZ Tryz.prog 258 48 (.agg #[(.int .u64 0), (.int .u64 0), (.int .u32 0), (.int .u8 0), (.int .u8 0), (.int .u8 0), (.int .u8 0), .nilFunc, (.pointer none), (.int .i32 0), (.int .i32 0)]) := ⟨by kernel_rfl⟩
instance : TyV Tryz.prog 259 false 1 := ⟨by kernel_rfl, by kernel_rfl⟩
instance : TyZ Tryz.prog 259 8 .nilFunc := ⟨by kernel_rfl⟩
instance : TyV Tryz.prog 260 false 1 := ⟨by kernel_rfl, by kernel_rfl⟩
instance : TyZ Tryz.prog 260 8 .nilFunc := ⟨by kernel_rfl⟩
instance : TyV Tryz.prog 261 false 1 := ⟨by kernel_rfl, by kernel_rfl⟩
instance : TyZ Tryz.prog 261 8 .nilFunc := ⟨by kernel_rfl⟩
instance : TyV Tryz.prog 262 false 1 := ⟨by kernel_rfl, by kernel_rfl⟩
instance : TyZ Tryz.prog 262 8 .nilFunc := ⟨by kernel_rfl⟩
instance : TyV Tryz.prog 263 false 1 := ⟨by kernel_rfl, by kernel_rfl⟩
instance : TyZ Tryz.prog 263 8 .nilFunc := ⟨by kernel_rfl⟩
instance : TyV Tryz.prog 264 false 1 := ⟨by kernel_rfl, by kernel_rfl⟩
instance : TyZ Tryz.prog 264 8 .nilFunc := ⟨by kernel_rfl⟩
instance : TyV Tryz.prog 265 false 1 := ⟨by kernel_rfl, by kernel_rfl⟩
instance : TyZ Tryz.prog 265 8 .nilFunc := ⟨by kernel_rfl⟩
instance : TyV Tryz.prog 266 false 1 := ⟨by kernel_rfl, by kernel_rfl⟩
instance : TyZ Tryz.prog 266 8 (.pointer none) := ⟨by kernel_rfl⟩
instance : TyV Tryz.prog 267 true 2 := ⟨by kernel_rfl, by kernel_rfl⟩
instance : TyPl Tryz.prog 267 [(0, 1), (1, 1)] := ⟨by kernel_rfl⟩
instance : TyFld Tryz.prog 267 0 0 0 false := ⟨by kernel_rfl⟩
instance : TyFld Tryz.prog 267 1 1 0 false := ⟨by kernel_rfl⟩
instance : TyZ Tryz.prog 267 32 (.agg #[(.slice none 0 0), (.int .i64 0)]) := ⟨by kernel_rfl⟩
instance : TyV Tryz.prog 268 true 2 := ⟨by kernel_rfl, by kernel_rfl⟩
instance : TyPl Tryz.prog 268 [(0, 1), (1, 1)] := ⟨by kernel_rfl⟩
instance : TyFld Tryz.prog 268 0 0 0 false := ⟨by kernel_rfl⟩
instance : TyFld Tryz.prog 268 1 1 0 false := ⟨by kernel_rfl⟩
instance : TyZ Tryz.prog 268 32 (.agg #[(.slice none 0 0), (.int .i64 0)]) := ⟨by kernel_rfl⟩
instance : TyV Tryz.prog 269 true 3 := ⟨by kernel_rfl, by kernel_rfl⟩
instance : TyPl Tryz.prog 269 [(0, 2), (2, 1)] := ⟨by kernel_rfl⟩
instance : TyFld Tryz.prog 269 0 0 1 true := ⟨by kernel_rfl⟩
instance : TyFld Tryz.prog 269 1 2 0 false := ⟨by kernel_rfl⟩
instance : TyZ Tryz.prog 269 56 (.agg #[(.slice none 0 0), (.int .i64 0), (.slice none 0 0)]) := ⟨by kernel_rfl⟩
instance : TyV Tryz.prog 270 true 3 := ⟨by kernel_rfl, by kernel_rfl⟩
instance : TyPl Tryz.prog 270 [(0, 2), (2, 1)] := ⟨by kernel_rfl⟩
instance : TyFld Tryz.prog 270 0 0 1 true := ⟨by kernel_rfl⟩
instance : TyFld Tryz.prog 270 1 2 0 false := ⟨by kernel_rfl⟩
instance : TyZ Tryz.prog 270 56 (.agg #[(.slice none 0 0), (.int .i64 0), (.slice none 0 0)]) := ⟨by kernel_rfl⟩
instance : TyV Tryz.prog 271 false 1 := ⟨by kernel_rfl, by kernel_rfl⟩
instance : TyZ Tryz.prog 271 8 .nilFunc := ⟨by kernel_rfl⟩
instance : TyV Tryz.prog 272 false 1 := ⟨by kernel_rfl, by kernel_rfl⟩
instance : TyZ Tryz.prog 272 8 .nilFunc := ⟨by kernel_rfl⟩
instance : TyV Tryz.prog 273 false 1 := ⟨by kernel_rfl, by kernel_rfl⟩
instance : TyZ Tryz.prog 273 8 (.pointer none) := ⟨by kernel_rfl⟩
instance : TyV Tryz.prog 274 false 1 := ⟨by kernel_rfl, by kernel_rfl⟩
instance : TyZ Tryz.prog 274 8 .nilFunc := ⟨by kernel_rfl⟩
instance : TyV Tryz.prog 275 false 1 := ⟨by kernel_rfl, by kernel_rfl⟩
instance : TyZ Tryz.prog 275 8 .nilFunc := ⟨by kernel_rfl⟩
instance : TyV Tryz.prog 276 false 1 := ⟨by kernel_rfl, by kernel_rfl⟩
instance : TyZ Tryz.prog 276 8 .nilFunc := ⟨by kernel_rfl⟩
instance : TyV Tryz.prog 277 false 1 := ⟨by kernel_rfl, by kernel_rfl⟩
instance : TyZ Tryz.prog 277 8 .nilFunc := ⟨by kernel_rfl⟩
instance : TyV Tryz.prog 278 false 1 := ⟨by kernel_rfl, by kernel_rfl⟩
instance : TyZ Tryz.prog 278 8 .nilFunc := ⟨by kernel_rfl⟩
instance : TyV Tryz.prog 279 false 1 := ⟨by kernel_rfl, by kernel_rfl⟩
instance : TyZ Tryz.prog 279 8 .nilFunc := ⟨by kernel_rfl⟩
instance : TyV Tryz.prog 280 false 1 := ⟨by kernel_rfl, by kernel_rfl⟩
instance : TyZ Tryz.prog 280 8 .nilFunc := ⟨by kernel_rfl⟩
instance : TyV Tryz.prog 281 false 1 := ⟨by kernel_rfl, by kernel_rfl⟩
instance : TyZ Tryz.prog 281 8 .nilFunc := ⟨by kernel_rfl⟩
instance : TyV Tryz.prog 282 false 1 := ⟨by kernel_rfl, by kernel_rfl⟩
instance : TyZ Tryz.prog 282 8 .nilFunc := ⟨by kernel_rfl⟩
instance : TyV Tryz.prog 283 false 1 := ⟨by kernel_rfl, by kernel_rfl⟩
instance : TyZ Tryz.prog 283 8 (.pointer none) := ⟨by kernel_rfl⟩
instance : TyV Tryz.prog 284 true 2 := ⟨by kernel_rfl, by kernel_rfl⟩
instance : TyPl Tryz.prog 284 [(0, 1), (1, 1)] := ⟨by kernel_rfl⟩
instance : TyFld Tryz.prog 284 0 0 0 false := ⟨by kernel_rfl⟩
instance : TyFld Tryz.prog 284 1 1 0 false := ⟨by kernel_rfl⟩
instance : TyZ Tryz.prog 284 48 (.agg #[(.slice none 0 0), (.slice none 0 0)]) := ⟨by kernel_rfl⟩
instance : TyV Tryz.prog 285 true 2 := ⟨by kernel_rfl, by kernel_rfl⟩
instance : TyPl Tryz.prog 285 [(0, 1), (1, 1)] := ⟨by kernel_rfl⟩
instance : TyFld Tryz.prog 285 0 0 0 false := ⟨by kernel_rfl⟩
instance : TyFld Tryz.prog 285 1 1 0 false := ⟨by kernel_rfl⟩
instance : TyZ Tryz.prog 285 48 (.agg #[(.slice none 0 0), (.slice none 0 0)]) := ⟨by kernel_rfl⟩
instance : TyFn Tryz.prog 3 := ⟨by kernel_rfl⟩ -- privatefetch/privatefetchlaw30.ServerCrashes
instance : TyFn Tryz.prog 4 := ⟨by kernel_rfl⟩ -- privatefetch/privatefetchlaw30.ServerSteps
instance : TyFn Tryz.prog 5 := ⟨by kernel_rfl⟩ -- privatefetch/privatefetchlaw32.ReaderOrder
instance : TyFn Tryz.prog 6 := ⟨by kernel_rfl⟩ -- privatefetch/privatefetchlaw30.sane
instance : TyFn Tryz.prog 7 := ⟨by kernel_rfl⟩ -- privatefetch/privatefetchplay.New
instance : TyFn Tryz.prog 8 := ⟨by kernel_rfl⟩ -- privatefetch/privatefetchlaw30.made
instance : TyFn Tryz.prog 9 := ⟨by kernel_rfl⟩ -- privatefetch/server.Start
instance : TyFn Tryz.prog 10 := ⟨by kernel_rfl⟩ -- privatefetch/server.Crash
instance : TyFn Tryz.prog 11 := ⟨by kernel_rfl⟩ -- privatefetch/server.Ask
instance : TyFn Tryz.prog 12 := ⟨by kernel_rfl⟩ -- (*privatefetch/privatefetchplay.Dice).Query
instance : TyFn Tryz.prog 13 := ⟨by kernel_rfl⟩ -- privatefetch/server.Word
instance : TyFn Tryz.prog 14 := ⟨by kernel_rfl⟩ -- privatefetch/privatefetchplay.People
instance : TyFn Tryz.prog 15 := ⟨by kernel_rfl⟩ -- privatefetch/server.Load
instance : TyFn Tryz.prog 16 := ⟨by kernel_rfl⟩ -- privatefetch/server.Drop
instance : TyFn Tryz.prog 17 := ⟨by kernel_rfl⟩ -- (*privatefetch/privatefetchplay.Dice).Odd
instance : TyFn Tryz.prog 18 := ⟨by kernel_rfl⟩ -- privatefetch/server.New
instance : TyFn Tryz.prog 19 := ⟨by kernel_rfl⟩ -- privatefetch/privatefetchref30.New
instance : TyFn Tryz.prog 20 := ⟨by kernel_rfl⟩ -- privatefetch/privatefetchref30.Same
instance : TyFn Tryz.prog 21 := ⟨by kernel_rfl⟩ -- (*privatefetch/privatefetchplay.Dice).Pick
instance : TyFn Tryz.prog 22 := ⟨by kernel_rfl⟩ -- privatefetch/privatefetchref30.Load
instance : TyFn Tryz.prog 23 := ⟨by kernel_rfl⟩ -- privatefetch/privatefetchref30.Drop
instance : TyFn Tryz.prog 24 := ⟨by kernel_rfl⟩ -- privatefetch/privatefetchref30.Ask
instance : TyFn Tryz.prog 25 := ⟨by kernel_rfl⟩ -- privatefetch/privatefetchref23.Ints
instance : TyFn Tryz.prog 26 := ⟨by kernel_rfl⟩ -- privatefetch/server.Numbers
instance : TyFn Tryz.prog 27 := ⟨by kernel_rfl⟩ -- privatefetch/privatefetchref30.Numbers
instance : TyFn Tryz.prog 28 := ⟨by kernel_rfl⟩ -- privatefetch/privatefetchref30.Crash
instance : TyFn Tryz.prog 29 := ⟨by kernel_rfl⟩ -- privatefetch/privatefetchref30.Word
instance : TyFn Tryz.prog 30 := ⟨by kernel_rfl⟩ -- privatefetch/privatefetchref30.SameNote
instance : TyFn Tryz.prog 31 := ⟨by kernel_rfl⟩ -- privatefetch/privatefetchref30.Start
instance : TyFn Tryz.prog 32 := ⟨by kernel_rfl⟩ -- privatefetch/server.Same
instance : TyFn Tryz.prog 33 := ⟨by kernel_rfl⟩ -- privatefetch/privatefetchlaw32.sane
instance : TyFn Tryz.prog 34 := ⟨by kernel_rfl⟩ -- (*privatefetch/privatefetchplay.Dice).Scheme
instance : TyFn Tryz.prog 35 := ⟨by kernel_rfl⟩ -- (*privatefetch/privatefetchplay.Dice).Table
instance : TyFn Tryz.prog 36 := ⟨by kernel_rfl⟩ -- (*privatefetch/privatefetchplay.Dice).Field
instance : TyFn Tryz.prog 37 := ⟨by kernel_rfl⟩ -- (*privatefetch/privatefetchplay.Dice).Reader
instance : TyFn Tryz.prog 38 := ⟨by kernel_rfl⟩ -- privatefetch/reader.Take
instance : TyFn Tryz.prog 39 := ⟨by kernel_rfl⟩ -- privatefetch/privatefetchref32.Same
instance : TyFn Tryz.prog 40 := ⟨by kernel_rfl⟩ -- privatefetch/privatefetchplay.Mark
instance : TyFn Tryz.prog 41 := ⟨by kernel_rfl⟩ -- (*privatefetch/privatefetchplay.Dice).Server
instance : TyFn Tryz.prog 42 := ⟨by kernel_rfl⟩ -- privatefetch/server.Own
instance : TyFn Tryz.prog 43 := ⟨by kernel_rfl⟩ -- privatefetch/server.find
instance : TyFn Tryz.prog 44 := ⟨by kernel_rfl⟩ -- privatefetch/field.In
instance : TyFn Tryz.prog 45 := ⟨by kernel_rfl⟩ -- slices.ContainsFunc[[]privatefetch/api.Job,privatefetch/api.Job]
instance : TyFn Tryz.prog 46 := ⟨by kernel_rfl⟩ -- privatefetch/server.Ask$1
instance : TyFn Tryz.prog 47 := ⟨by kernel_rfl⟩ -- privatefetch/server.ownJob
instance : TyFn Tryz.prog 48 := ⟨by kernel_rfl⟩ -- (*privatefetch/privatefetchplay.Dice).Elements
instance : TyFn Tryz.prog 49 := ⟨by kernel_rfl⟩ -- privatefetch/privatefetchref23.Units
instance : TyFn Tryz.prog 50 := ⟨by kernel_rfl⟩ -- privatefetch/server.word
instance : TyFn Tryz.prog 51 := ⟨by kernel_rfl⟩ -- privatefetch/mark.Sign
instance : TyFn Tryz.prog 52 := ⟨by kernel_rfl⟩ -- slices.Delete[[]privatefetch/api.Job,privatefetch/api.Job]
instance : TyFn Tryz.prog 53 := ⟨by kernel_rfl⟩ -- privatefetch/table.Head
instance : TyFn Tryz.prog 54 := ⟨by kernel_rfl⟩ -- privatefetch/scheme.Valid
instance : TyFn Tryz.prog 55 := ⟨by kernel_rfl⟩ -- privatefetch/scheme.Hold
instance : TyFn Tryz.prog 56 := ⟨by kernel_rfl⟩ -- slices.Insert[[]privatefetch/api.Held,privatefetch/api.Held]
instance : TyFn Tryz.prog 57 := ⟨by kernel_rfl⟩ -- privatefetch/server.Drop$1
instance : TyFn Tryz.prog 58 := ⟨by kernel_rfl⟩ -- slices.Delete[[]privatefetch/api.Held,privatefetch/api.Held]
instance : TyFn Tryz.prog 59 := ⟨by kernel_rfl⟩ -- privatefetch/scheme.Shape
instance : TyFn Tryz.prog 60 := ⟨by kernel_rfl⟩ -- privatefetch/privatefetchref23.Shape
instance : TyFn Tryz.prog 61 := ⟨by kernel_rfl⟩ -- privatefetch/privatefetchref24.SameRows
instance : TyFn Tryz.prog 62 := ⟨by kernel_rfl⟩ -- privatefetch/privatefetchref14.Head
instance : TyFn Tryz.prog 63 := ⟨by kernel_rfl⟩ -- privatefetch/privatefetchref23.Valid
instance : TyFn Tryz.prog 64 := ⟨by kernel_rfl⟩ -- privatefetch/privatefetchref30.find
instance : TyFn Tryz.prog 65 := ⟨by kernel_rfl⟩ -- privatefetch/privatefetchref23.Hold
instance : TyFn Tryz.prog 66 := ⟨by kernel_rfl⟩ -- privatefetch/server.withLists
instance : TyFn Tryz.prog 67 := ⟨by kernel_rfl⟩ -- privatefetch/privatefetchref23.Answer
instance : TyFn Tryz.prog 68 := ⟨by kernel_rfl⟩ -- privatefetch/privatefetchref22.Sign
instance : TyFn Tryz.prog 69 := ⟨by kernel_rfl⟩ -- slices.EqualFunc[[]privatefetch/api.Held,[]privatefetch/api.Held,privatefetch/api.Held,privatefetch/api.Held]
instance : TyFn Tryz.prog 70 := ⟨by kernel_rfl⟩ -- privatefetch/server.Same$1
instance : TyFn Tryz.prog 71 := ⟨by kernel_rfl⟩ -- slices.EqualFunc[[][]int,[][]int,[]int,[]int]
instance : TyFn Tryz.prog 72 := ⟨by kernel_rfl⟩ -- slices.Equal[[]int,int]
instance : TyFn Tryz.prog 73 := ⟨by kernel_rfl⟩ -- slices.EqualFunc[[]privatefetch/api.Job,[]privatefetch/api.Job,privatefetch/api.Job,privatefetch/api.Job]
instance : TyFn Tryz.prog 74 := ⟨by kernel_rfl⟩ -- privatefetch/server.Same$2
instance : TyFn Tryz.prog 75 := ⟨by kernel_rfl⟩ -- privatefetch/reader.Begin
instance : TyFn Tryz.prog 76 := ⟨by kernel_rfl⟩ -- privatefetch/reader.Notes
instance : TyFn Tryz.prog 77 := ⟨by kernel_rfl⟩ -- privatefetch/reader.Silent
instance : TyFn Tryz.prog 78 := ⟨by kernel_rfl⟩ -- (*privatefetch/privatefetchplay.Dice).Rows
instance : TyFn Tryz.prog 79 := ⟨by kernel_rfl⟩ -- (*privatefetch/privatefetchplay.Dice).Wish
instance : TyFn Tryz.prog 80 := ⟨by kernel_rfl⟩ -- privatefetch/privatefetchref24.Limits
instance : TyFn Tryz.prog 81 := ⟨by kernel_rfl⟩ -- privatefetch/privatefetchref32.Begin
instance : TyFn Tryz.prog 82 := ⟨by kernel_rfl⟩ -- (*privatefetch/privatefetchplay.Dice).Tape
instance : TyFn Tryz.prog 83 := ⟨by kernel_rfl⟩ -- privatefetch/privatefetchref32.Notes
instance : TyFn Tryz.prog 84 := ⟨by kernel_rfl⟩ -- privatefetch/reader.Own
instance : TyFn Tryz.prog 85 := ⟨by kernel_rfl⟩ -- privatefetch/reader.fits
instance : TyFn Tryz.prog 86 := ⟨by kernel_rfl⟩ -- privatefetch/mark.Verify
instance : TyFn Tryz.prog 87 := ⟨by kernel_rfl⟩ -- slices.Clone[[]int,int]
instance : TyFn Tryz.prog 88 := ⟨by kernel_rfl⟩ -- privatefetch/privatefetchref31.Ints
instance : TyFn Tryz.prog 89 := ⟨by kernel_rfl⟩ -- privatefetch/privatefetchref24.SameQueries
instance : TyFn Tryz.prog 90 := ⟨by kernel_rfl⟩ -- privatefetch/privatefetchref15.Apply
instance : TyFn Tryz.prog 91 := ⟨by kernel_rfl⟩ -- (*privatefetch/privatefetchplay.Dice).Change
instance : TyFn Tryz.prog 92 := ⟨by kernel_rfl⟩ -- slices.Clone[[]privatefetch/api.Held,privatefetch/api.Held]
instance : TyFn Tryz.prog 93 := ⟨by kernel_rfl⟩ -- slices.Clone[[]privatefetch/api.Job,privatefetch/api.Job]
instance : TyFn Tryz.prog 94 := ⟨by kernel_rfl⟩ -- privatefetch/server.ownRows
instance : TyFn Tryz.prog 95 := ⟨by kernel_rfl⟩ -- slices.BinarySearchFunc[[]privatefetch/api.Held,privatefetch/api.Held,int]
instance : TyFn Tryz.prog 96 := ⟨by kernel_rfl⟩ -- privatefetch/server.find$1
instance : TyFn Tryz.prog 97 := ⟨by kernel_rfl⟩ -- cmp.Compare[int]
instance : TyFn Tryz.prog 98 := ⟨by kernel_rfl⟩ -- privatefetch/residue.Of
instance : TyFn Tryz.prog 99 := ⟨by kernel_rfl⟩ -- (privatefetch/residue.Field).All
instance : TyFn Tryz.prog 100 := ⟨by kernel_rfl⟩ -- slices.IndexFunc[[]privatefetch/api.Job,privatefetch/api.Job]
instance : TyFn Tryz.prog 101 := ⟨by kernel_rfl⟩ -- privatefetch/field.Reduce
instance : TyFn Tryz.prog 102 := ⟨by kernel_rfl⟩ -- privatefetch/mark.within
instance : TyFn Tryz.prog 103 := ⟨by kernel_rfl⟩ -- privatefetch/digest.Row
instance : TyFn Tryz.prog 104 := ⟨by kernel_rfl⟩ -- privatefetch/table.Digests
instance : TyFn Tryz.prog 105 := ⟨by kernel_rfl⟩ -- privatefetch/merkle.Root
instance : TyFn Tryz.prog 106 := ⟨by kernel_rfl⟩ -- privatefetch/field.Check
instance : TyFn Tryz.prog 107 := ⟨by kernel_rfl⟩ -- privatefetch/table.Check
instance : TyFn Tryz.prog 108 := ⟨by kernel_rfl⟩ -- privatefetch/scheme.within
instance : TyFn Tryz.prog 109 := ⟨by kernel_rfl⟩ -- privatefetch/coded.Hold
instance : TyFn Tryz.prog 110 := ⟨by kernel_rfl⟩ -- privatefetch/scheme.storage
instance : TyFn Tryz.prog 112 := ⟨by kernel_rfl⟩ -- slices.rotateRight[privatefetch/api.Held]
instance : TyFn Tryz.prog 113 := ⟨by kernel_rfl⟩ -- privatefetch/privatefetchref23.SameRows
instance : TyFn Tryz.prog 114 := ⟨by kernel_rfl⟩ -- privatefetch/privatefetchref14.Digests
instance : TyFn Tryz.prog 115 := ⟨by kernel_rfl⟩ -- privatefetch/privatefetchref12.Root
instance : TyFn Tryz.prog 116 := ⟨by kernel_rfl⟩ -- privatefetch/privatefetchref03.Check
instance : TyFn Tryz.prog 117 := ⟨by kernel_rfl⟩ -- privatefetch/privatefetchref14.Check
instance : TyFn Tryz.prog 118 := ⟨by kernel_rfl⟩ -- privatefetch/privatefetchref18.Hold
instance : TyFn Tryz.prog 119 := ⟨by kernel_rfl⟩ -- privatefetch/privatefetchref23.storage
instance : TyFn Tryz.prog 120 := ⟨by kernel_rfl⟩ -- privatefetch/privatefetchref16.Answer
instance : TyFn Tryz.prog 121 := ⟨by kernel_rfl⟩ -- privatefetch/privatefetchref22.number
instance : TyFn Tryz.prog 122 := ⟨by kernel_rfl⟩ -- privatefetch/privatefetchref11.Row
instance : TyFn Tryz.prog 123 := ⟨by kernel_rfl⟩ -- privatefetch/reader.fieldOf
instance : TyFn Tryz.prog 124 := ⟨by kernel_rfl⟩ -- privatefetch/wish.Valid
instance : TyFn Tryz.prog 125 := ⟨by kernel_rfl⟩ -- privatefetch/wish.Queries
instance : TyFn Tryz.prog 126 := ⟨by kernel_rfl⟩ -- privatefetch/privatefetchref23.Limits
instance : TyFn Tryz.prog 127 := ⟨by kernel_rfl⟩ -- privatefetch/privatefetchref24.Valid
instance : TyFn Tryz.prog 128 := ⟨by kernel_rfl⟩ -- privatefetch/privatefetchref24.Queries
instance : TyFn Tryz.prog 129 := ⟨by kernel_rfl⟩ -- slices.Clone[[][][]int,[][]int]
instance : TyFn Tryz.prog 130 := ⟨by kernel_rfl⟩ -- slices.Clone[[][]privatefetch/api.Answer,[]privatefetch/api.Answer]
instance : TyFn Tryz.prog 131 := ⟨by kernel_rfl⟩ -- slices.Clone[[][]int,[]int]
instance : TyFn Tryz.prog 132 := ⟨by kernel_rfl⟩ -- slices.Clone[[]privatefetch/api.Answer,privatefetch/api.Answer]
instance : TyFn Tryz.prog 133 := ⟨by kernel_rfl⟩ -- privatefetch/mark.Find
instance : TyFn Tryz.prog 134 := ⟨by kernel_rfl⟩ -- privatefetch/privatefetchref15.Check
instance : TyFn Tryz.prog 135 := ⟨by kernel_rfl⟩ -- privatefetch/privatefetchref15.find
instance : TyFn Tryz.prog 136 := ⟨by kernel_rfl⟩ -- privatefetch/privatefetchref15.Between
instance : TyFn Tryz.prog 137 := ⟨by kernel_rfl⟩ -- cmp.isNaN[int]
instance : TyFn Tryz.prog 138 := ⟨by kernel_rfl⟩ -- slices.ContainsFunc[[]int,int]
instance : TyFn Tryz.prog 139 := ⟨by kernel_rfl⟩ -- (privatefetch/residue.Field).All$1
instance : TyFn Tryz.prog 140 := ⟨by kernel_rfl⟩ -- (privatefetch/residue.Field).Has
instance : TyFn Tryz.prog 141 := ⟨by kernel_rfl⟩ -- privatefetch/digest.mod
instance : TyFn Tryz.prog 142 := ⟨by kernel_rfl⟩ -- privatefetch/merkle.check
instance : TyFn Tryz.prog 143 := ⟨by kernel_rfl⟩ -- privatefetch/merkle.Root$1
instance : TyFn Tryz.prog 144 := ⟨by kernel_rfl⟩ -- privatefetch/merkle.above
instance : TyFn Tryz.prog 145 := ⟨by kernel_rfl⟩ -- privatefetch/coded.Check
instance : TyFn Tryz.prog 146 := ⟨by kernel_rfl⟩ -- privatefetch/coded.wide
instance : TyFn Tryz.prog 147 := ⟨by kernel_rfl⟩ -- privatefetch/coded.groups
instance : TyFn Tryz.prog 148 := ⟨by kernel_rfl⟩ -- (privatefetch/residue.Field).AddTimes
instance : TyFn Tryz.prog 149 := ⟨by kernel_rfl⟩ -- (privatefetch/residue.Field).Power
instance : TyFn Tryz.prog 150 := ⟨by kernel_rfl⟩ -- slices.rotateLeft[privatefetch/api.Held]
instance : TyFn Tryz.prog 151 := ⟨by kernel_rfl⟩ -- privatefetch/privatefetchref12.list
instance : TyFn Tryz.prog 152 := ⟨by kernel_rfl⟩ -- privatefetch/privatefetchref12.up
instance : TyFn Tryz.prog 153 := ⟨by kernel_rfl⟩ -- privatefetch/privatefetchref03.In
instance : TyFn Tryz.prog 154 := ⟨by kernel_rfl⟩ -- privatefetch/privatefetchref18.Check
instance : TyFn Tryz.prog 155 := ⟨by kernel_rfl⟩ -- privatefetch/privatefetchref18.Groups
instance : TyFn Tryz.prog 156 := ⟨by kernel_rfl⟩ -- privatefetch/privatefetchref03.Pow
instance : TyFn Tryz.prog 157 := ⟨by kernel_rfl⟩ -- privatefetch/privatefetchref04.Combine
instance : TyFn Tryz.prog 158 := ⟨by kernel_rfl⟩ -- privatefetch/privatefetchref11.mod
instance : TyFn Tryz.prog 159 := ⟨by kernel_rfl⟩ -- privatefetch/wish.within
instance : TyFn Tryz.prog 160 := ⟨by kernel_rfl⟩ -- privatefetch/wish.Valid$1
instance : TyFn Tryz.prog 161 := ⟨by kernel_rfl⟩ -- privatefetch/scheme.Queries
instance : TyFn Tryz.prog 162 := ⟨by kernel_rfl⟩ -- privatefetch/privatefetchref16.Limits
instance : TyFn Tryz.prog 163 := ⟨by kernel_rfl⟩ -- privatefetch/privatefetchref17.Limits
instance : TyFn Tryz.prog 164 := ⟨by kernel_rfl⟩ -- privatefetch/privatefetchref23.plan
instance : TyFn Tryz.prog 165 := ⟨by kernel_rfl⟩ -- privatefetch/privatefetchref18.Limits
instance : TyFn Tryz.prog 166 := ⟨by kernel_rfl⟩ -- privatefetch/privatefetchref23.Queries
instance : TyFn Tryz.prog 167 := ⟨by kernel_rfl⟩ -- privatefetch/mark.Check
instance : TyFn Tryz.prog 168 := ⟨by kernel_rfl⟩ -- (privatefetch/mark.number).compare
instance : TyFn Tryz.prog 169 := ⟨by kernel_rfl⟩ -- slices.BinarySearchFunc[[]privatefetch/api.Person,privatefetch/api.Person,privatefetch/mark.number]
instance : TyFn Tryz.prog 170 := ⟨by kernel_rfl⟩ -- privatefetch/mark.Find$1
instance : TyFn Tryz.prog 171 := ⟨by kernel_rfl⟩ -- privatefetch/privatefetchref15.form
instance : TyFn Tryz.prog 172 := ⟨by kernel_rfl⟩ -- privatefetch/privatefetchref04.Same
instance : TyFn Tryz.prog 173 := ⟨by kernel_rfl⟩ -- slices.IndexFunc[[]int,int]
instance : TyFn Tryz.prog 174 := ⟨by kernel_rfl⟩ -- privatefetch/merkle.proper
instance : TyFn Tryz.prog 175 := ⟨by kernel_rfl⟩ -- privatefetch/digest.Node
instance : TyFn Tryz.prog 176 := ⟨by kernel_rfl⟩ -- privatefetch/coded.groups$1
instance : TyFn Tryz.prog 177 := ⟨by kernel_rfl⟩ -- (privatefetch/residue.Field).Add
instance : TyFn Tryz.prog 178 := ⟨by kernel_rfl⟩ -- (privatefetch/residue.Field).Mul
instance : TyFn Tryz.prog 179 := ⟨by kernel_rfl⟩ -- slices.Reverse[[]privatefetch/api.Held,privatefetch/api.Held]
instance : TyFn Tryz.prog 180 := ⟨by kernel_rfl⟩ -- privatefetch/privatefetchref11.Node
instance : TyFn Tryz.prog 181 := ⟨by kernel_rfl⟩ -- privatefetch/scheme.look
instance : TyFn Tryz.prog 182 := ⟨by kernel_rfl⟩ -- privatefetch/scheme.kindOf
instance : TyFn Tryz.prog 183 := ⟨by kernel_rfl⟩ -- privatefetch/privatefetchref17.Check
instance : TyFn Tryz.prog 184 := ⟨by kernel_rfl⟩ -- privatefetch/privatefetchref16.Queries
instance : TyFn Tryz.prog 185 := ⟨by kernel_rfl⟩ -- privatefetch/privatefetchref17.Queries
instance : TyFn Tryz.prog 186 := ⟨by kernel_rfl⟩ -- privatefetch/privatefetchref18.Queries
instance : TyFn Tryz.prog 187 := ⟨by kernel_rfl⟩ -- privatefetch/privatefetchref02.Draws
instance : TyFn Tryz.prog 188 := ⟨by kernel_rfl⟩ -- privatefetch/privatefetchref07.Split
instance : TyFn Tryz.prog 189 := ⟨by kernel_rfl⟩ -- privatefetch/privatefetchref05.Value
instance : TyFn Tryz.prog 190 := ⟨by kernel_rfl⟩ -- privatefetch/privatefetchref02.Valid
instance : TyFn Tryz.prog 191 := ⟨by kernel_rfl⟩ -- privatefetch/privatefetchref02.Copy
instance : TyFn Tryz.prog 192 := ⟨by kernel_rfl⟩ -- privatefetch/privatefetchref05.lists
instance : TyFn Tryz.prog 193 := ⟨by kernel_rfl⟩ -- privatefetch/privatefetchref05.value
instance : TyFn Tryz.prog 211 := ⟨by kernel_rfl⟩ -- (privatefetch/scheme.sums).queries
instance : TyFn Tryz.prog 212 := ⟨by kernel_rfl⟩ -- privatefetch/parity.Queries
instance : TyFn Tryz.prog 213 := ⟨by kernel_rfl⟩ -- privatefetch/parity.check
instance : TyFn Tryz.prog 214 := ⟨by kernel_rfl⟩ -- privatefetch/tape.Draws
instance : TyFn Tryz.prog 215 := ⟨by kernel_rfl⟩ -- privatefetch/vector.Unit
instance : TyFn Tryz.prog 216 := ⟨by kernel_rfl⟩ -- privatefetch/parity.sum
instance : TyFn Tryz.prog 217 := ⟨by kernel_rfl⟩ -- privatefetch/parity.each
instance : TyFn Tryz.prog 218 := ⟨by kernel_rfl⟩ -- privatefetch/tape.valid
instance : TyFn Tryz.prog 219 := ⟨by kernel_rfl⟩ -- privatefetch/tape.limit
instance : TyFn Tryz.prog 220 := ⟨by kernel_rfl⟩ -- (*privatefetch/tape.drawing).draw
instance : TyFn Tryz.prog 221 := ⟨by kernel_rfl⟩ -- privatefetch/parity.each$1
instance : TyFn Tryz.prog 222 := ⟨by kernel_rfl⟩ -- (*privatefetch/tape.position).next
instance : TyFn Tryz.prog 225 := ⟨by kernel_rfl⟩ -- (privatefetch/scheme.curves).queries
instance : TyFn Tryz.prog 226 := ⟨by kernel_rfl⟩ -- privatefetch/curve.Queries
instance : TyFn Tryz.prog 227 := ⟨by kernel_rfl⟩ -- privatefetch/curve.check
instance : TyFn Tryz.prog 228 := ⟨by kernel_rfl⟩ -- privatefetch/share.Split
instance : TyFn Tryz.prog 229 := ⟨by kernel_rfl⟩ -- privatefetch/curve.Check
instance : TyFn Tryz.prog 230 := ⟨by kernel_rfl⟩ -- privatefetch/share.threshold
instance : TyFn Tryz.prog 231 := ⟨by kernel_rfl⟩ -- privatefetch/share.shares
instance : TyFn Tryz.prog 232 := ⟨by kernel_rfl⟩ -- privatefetch/curve.valid
instance : TyFn Tryz.prog 233 := ⟨by kernel_rfl⟩ -- (privatefetch/residue.Field).Value
instance : TyFn Tryz.prog 234 := ⟨by kernel_rfl⟩ -- slices.Backward[[]int,int]
instance : TyFn Tryz.prog 235 := ⟨by kernel_rfl⟩ -- slices.Backward[[]int,int]$1
instance : TyFn Tryz.prog 238 := ⟨by kernel_rfl⟩ -- (privatefetch/scheme.groups).queries
instance : TyFn Tryz.prog 239 := ⟨by kernel_rfl⟩ -- (privatefetch/scheme.groups).units
instance : TyFn Tryz.prog 240 := ⟨by kernel_rfl⟩ -- privatefetch/coded.Queries
instance : TyFn Tryz.prog 241 := ⟨by kernel_rfl⟩ -- privatefetch/coded.check
end Go.Q

namespace Go.Q
open Classical
def okP (p : Int) : Prop := 2 ≤ p ∧ p ≤ 65521 ∧ ∀ d : Int, 2 ≤ d → d * d ≤ p → p % d ≠ 0
noncomputable def ofP (p : Int) : Int := if okP p then p else 0
def hasP (p x : Int) : Prop := 0 ≤ x ∧ x < p
end Go.Q
namespace Go.Q
open Classical

def modD (x : Int) : Int := x % 2147483647
theorem modD_bd (x : Int) : 0 ≤ modD x ∧ modD x ≤ 2147483646 := by unfold modD; omega
theorem modD_t (x : Int) : (if x.tmod 2147483647 < 0 then x.tmod 2147483647 + 2147483647 else x.tmod 2147483647) = modD x := by
 unfold modD
 by_cases h : 0 ≤ x
 ·rw [Int.tmod_eq_emod_of_nonneg h, if_neg (by omega)]
 ·have h1 : x.tmod 2147483647 = - ((-x) % 2147483647) := by
   rw [show x = -(-x) by omega, Int.neg_tmod, Int.tmod_eq_emod_of_nonneg (by omega)]; simp
  rw [h1]
  split <;> omega
theorem tmod_bd (x : Int) (n : Int) (h : 0 < n) : -n < x.tmod n ∧ x.tmod n < n := by
 by_cases hx : 0 ≤ x
 ·rw [Int.tmod_eq_emod_of_nonneg hx]
  have h1 := Int.emod_nonneg x (show n ≠ 0 by omega)
  have h2 := Int.emod_lt_of_pos x h
  omega
 ·have h1 : x.tmod n = - ((-x) % n) := by
   rw [show x = -(-x) by omega, Int.neg_tmod, Int.tmod_eq_emod_of_nonneg (by omega)]; simp
  have h2 := Int.emod_nonneg (-x) (show n ≠ 0 by omega)
  have h3 := Int.emod_lt_of_pos (-x) h
  omega
theorem mod_twice (x n : Int) (h : 0 < n) : (x.tmod n + n) % n = x % n := by
 by_cases hx : 0 ≤ x
 ·rw [Int.tmod_eq_emod_of_nonneg hx]
  simp
 ·have h1 : x.tmod n = - ((-x) % n) := by
   rw [show x = -(-x) by omega, Int.neg_tmod, Int.tmod_eq_emod_of_nonneg (by omega)]; simp
  have e : -((-x) % n) = x + n * ((-x) / n) := by have := Int.emod_add_mul_ediv (-x) n; omega
  rw [h1, Int.add_emod_right, e, Int.add_mul_emod_self_left]
def rowStep (d x : Int) : Int := (d * 1000003 + modD x + 1) % 2147483647
def rowD (xs : List Int) : Int := xs.foldl rowStep 2
theorem rowD_bd (xs : List Int) : 0 ≤ rowD xs ∧ rowD xs ≤ 2147483646 := by
 have key : ∀ (xs : List Int) (d : Int), 0 ≤ d ∧ d ≤ 2147483646 → 0 ≤ xs.foldl rowStep d ∧ xs.foldl rowStep d ≤ 2147483646 := by
  intro xs
  induction xs with
  | nil => intro d h; exact h
  | cons x xs ih => intro d h; exact ih _ (by unfold rowStep; omega)
 exact key xs 2 (by omega)
theorem foldl_take {α β : Type} [Inhabited β] (f : α → β → α) (a : α) (xs : List β) (k : Nat) (h : k < xs.length) : (xs.take (k + 1)).foldl f a = f ((xs.take k).foldl f a) (xs[k]?.getD default) := by
 have h1 : xs[k]? = some xs[k] := by simp [h]
 rw [List.take_add_one, h1]
 simp only [Option.toList_some, List.foldl_append, List.foldl_cons, List.foldl_nil, Option.getD_some]
def nodeD (a b : Int) : Int := (modD a * 1000003 + modD b + 3) % 2147483647

def goodD (x : Int) : Prop := 0 ≤ x ∧ x < 2147483647
noncomputable def firstErr {α : Type} (e : α → Int) : List α → Int
 | [] => 0
 | x :: xs => if e x ≠ 0 then e x else firstErr e xs
theorem firstErr_none {α : Type} {e : α → Int} : ∀ {xs : List α}, (∀ x ∈ xs, e x = 0) → firstErr e xs = 0
 | [], _ => rfl
 | x :: xs, h => by
  simp [firstErr, h x (List.mem_cons_self ..), firstErr_none fun y hy => h y (List.mem_cons_of_mem _ hy)]
theorem firstErr_at {α : Type} [Inhabited α] {e : α → Int} : ∀ {xs : List α} {i : Nat}, i < xs.length → (∀ j, j < i → e (xs[j]?.getD default) = 0) → e (xs[i]?.getD default) ≠ 0 → firstErr e xs = e (xs[i]?.getD default)
 | [], i, h, _, _ => by simp at h
 | x :: xs, 0, _, _, h => by
  have : e x ≠ 0 := by simpa using h
  simp [firstErr, this]
 | x :: xs, i + 1, hi, hb, h => by
  have h1 : e x = 0 := by simpa using hb 0 (by omega)
  have h2 := firstErr_at (e := e) (xs := xs) (i := i) (by simpa using hi) (fun j hj => by simpa using hb (j + 1) (by omega)) (by simpa using h)
  simp [firstErr, h1, h2]
theorem firstErr_none' {α : Type} [Inhabited α] {e : α → Int} {xs : List α} (h : ∀ j, j < xs.length → e (xs[j]?.getD default) = 0) : firstErr e xs = 0 :=
 firstErr_none fun x hx => by
  obtain ⟨i, hi⟩ := List.getElem?_of_mem hx
  have := h i (List.getElem?_eq_some_iff.1 hi).1
  rwa [hi] at this
theorem firstErr_zero {α : Type} {e : α → Int} : ∀ {xs : List α}, firstErr e xs = 0 ↔ ∀ x ∈ xs, e x = 0
 | [] => by simp [firstErr]
 | x :: xs => by
  by_cases h : e x = 0
  ·simp [firstErr, h, firstErr_zero (xs := xs)]
  ·simp [firstErr, h]
noncomputable def listErr (xs : List Int) : Int := if 1024 < xs.length then 4 else firstErr (fun x => if goodD x then 0 else 1) xs
def upD : List Int → List Int
 | [] => []
 | [x] => [x]
 | x :: y :: xs => nodeD x y :: upD xs
theorem upD_length : ∀ (xs : List Int), (upD xs).length = (xs.length + 1) / 2
 | [] => rfl
 | [x] => by simp [upD]
 | x :: y :: xs => by simp only [upD, List.length_cons, upD_length xs]; omega
theorem upD_take_two (xs : List Int) (k : Nat) (h : 2 * k + 1 < xs.length) : upD (xs.take (2 * (k + 1))) = upD (xs.take (2 * k)) ++ [nodeD (xs[2 * k]?.getD default) (xs[2 * k + 1]?.getD default)] := by
 induction k generalizing xs with
 | zero =>
  match xs, h with
  | x :: y :: xs, _ => simp [upD]
  | [x], h => simp at h
  | [], h => simp at h
 | succ k ih =>
  match xs, h with
  | x :: y :: xs, h =>
   have := ih xs (by simp at h; omega)
   have e1 : 2 * (k + 1 + 1) = 2 * (k + 1) + 1 + 1 := by omega
   have e2 : 2 * (k + 1) = 2 * k + 1 + 1 := by omega
   rw [e1, e2]
   simp only [List.take_succ_cons, upD, List.cons_append, List.getElem?_cons_succ]
   rw [e2] at this
   rw [show 2 * k + 1 + 1 = 2 * (k + 1) by omega] at this ⊢
   rw [this]
  | [x], h => simp at h
  | [], h => simp at h
theorem upD_take_last (xs : List Int) (k : Nat) (h : 2 * k + 1 = xs.length) : upD xs = upD (xs.take (2 * k)) ++ [xs[2 * k]?.getD default] := by
 induction k generalizing xs with
 | zero =>
  match xs, h with
  | [x], _ => simp [upD]
  | [], h => simp at h
  | _ :: _ :: _, h => simp at h
 | succ k ih =>
  match xs, h with
  | x :: y :: xs, h =>
   have := ih xs (by simp at h; omega)
   have e2 : 2 * (k + 1) = 2 * k + 1 + 1 := by omega
   rw [e2]
   simp only [List.take_succ_cons, upD, List.cons_append, List.getElem?_cons_succ]
   rw [this]
  | [x], h => simp at h
  | [], h => simp at h
def rootN : Nat → List Int → Int
 | 0, _ => 0
 | n + 1, xs => match xs with
  | [] => 0
  | [x] => x
  | x :: y :: r => rootN n (upD (x :: y :: r))
def rootD (xs : List Int) : Int := rootN (xs.length + 1) xs
theorem rootN_eq : ∀ (n m : Nat) (xs : List Int), xs.length < n → xs.length < m → rootN n xs = rootN m xs
 | 0, _, _, h, _ => by omega
 | _, 0, _, _, h => by omega
 | n + 1, m + 1, [], _, _ => rfl
 | n + 1, m + 1, [x], _, _ => rfl
 | n + 1, m + 1, x :: y :: r, h1, h2 => by
  simp only [rootN]
  have hl := upD_length (x :: y :: r)
  simp only [List.length_cons] at hl h1 h2
  exact rootN_eq n m _ (by omega) (by omega)
theorem rootD_up (xs : List Int) (h : 2 ≤ xs.length) : rootD xs = rootD (upD xs) := by
 match xs, h with
 | x :: y :: r, _ =>
  unfold rootD
  have hl := upD_length (x :: y :: r)
  simp only [List.length_cons] at hl
  show rootN (r.length + 1 + 1) (upD (x :: y :: r)) = _
  exact rootN_eq _ _ _ (by omega) (by omega)
 | [x], h => simp at h
 | [], h => simp at h
noncomputable def rootR (xs : List Int) : Int := if listErr xs = 0 then rootD xs else 0
end Go.Q
namespace Go.Q
open Classical

structure Tab where
 number : Int
 p : Int
 width : Int
 rows : List (List Int)
structure Hd where
 number : Int
 p : Int
 count : Int
 width : Int
 root : Int
instance : Inhabited Tab := ⟨⟨0, 0, 0, []⟩⟩
instance : Inhabited Hd := ⟨⟨0, 0, 0, 0, 0⟩⟩
noncomputable def errP (p : Int) : Int := if okP p then 0 else 9
def allP (p : Int) (xs : List Int) : Prop := ∀ x ∈ xs, hasP p x
noncomputable def rowErr (p w : Int) (r : List Int) : Int := if (r.length : Int) ≠ w then 2 else if ¬ allP p r then 9 else 0
noncomputable def checkT (t : Tab) : Int :=
 if t.number < 1 ∨ 2147483647 ≤ t.number then 1 else if ¬ okP t.p then 9 else if t.width < 1 ∨ 64 < t.width then 1 else if 1024 < t.rows.length then 4 else firstErr (rowErr t.p t.width) t.rows
noncomputable def digs (t : Tab) : List Int := if checkT t = 0 then t.rows.map rowD else []
noncomputable def headT (t : Tab) : Hd := if checkT t = 0 then ⟨t.number, t.p, t.rows.length, t.width, rootD (t.rows.map rowD)⟩ else ⟨0, 0, 0, 0, 0⟩
theorem checkT_ok {t : Tab} (h : checkT t = 0) : (1 ≤ t.number ∧ t.number < 2147483647) ∧ okP t.p ∧ (1 ≤ t.width ∧ t.width ≤ 64) ∧ t.rows.length ≤ 1024 ∧ ∀ r ∈ t.rows, (r.length : Int) = t.width ∧ allP t.p r := by
 unfold checkT at h
 split at h
 ·omega
 split at h
 ·omega
 split at h
 ·omega
 split at h
 ·omega
 rename_i h1 h2 h3 h4
 refine ⟨by omega, Classical.not_not.1 h2, by omega, by omega, fun r hr => ?_⟩
 have := firstErr_zero.1 h r hr
 unfold rowErr at this
 split at this
 ·omega
 split at this
 ·omega
 rename_i h5 h6
 exact ⟨Classical.not_not.1 h5, Classical.not_not.1 h6⟩
theorem listErr_digs (rows : List (List Int)) (h : rows.length ≤ 1024) : listErr (rows.map rowD) = 0 := by
 unfold listErr
 rw [if_neg (by simp; omega)]
 apply firstErr_none
 intro x hx
 obtain ⟨r, _, rfl⟩ := List.mem_map.1 hx
 have := rowD_bd r
 rw [if_pos (by unfold goodD; omega)]
end Go.Q
namespace Go.Q
theorem getD_mem {α : Type} [Inhabited α] {xs : List α} {k : Nat} (h : k < xs.length) : xs[k]?.getD default ∈ xs := by
 simp [h]
end Go.Q
