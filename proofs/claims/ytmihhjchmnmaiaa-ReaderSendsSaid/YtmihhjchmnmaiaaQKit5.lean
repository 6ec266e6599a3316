/- The types and functions of this seat, as the rules ask for them. -/
import Derived.Test.YtmihhjchmnmaiaaProg
import Derived.Test.YtmihhjchmnmaiaaQDraw2
set_option linter.unusedVariables false
set_option linter.unusedSimpArgs false
namespace Go.Q
open Go.Proofs
instance : TyMix Go.Proofs.Try.prog := ⟨by kernel_rfl⟩
instance : TyV Go.Proofs.Try.prog 1 false 1 := ⟨by kernel_rfl, by kernel_rfl⟩
instance : TyZ Go.Proofs.Try.prog 1 8 .nilFunc := ⟨by kernel_rfl⟩
instance : TyV Go.Proofs.Try.prog 2 false 1 := ⟨by kernel_rfl, by kernel_rfl⟩
instance : TyInt Go.Proofs.Try.prog 2 .i64 := ⟨by kernel_rfl⟩
instance : TyZ Go.Proofs.Try.prog 2 8 (.int .i64 0) := ⟨by kernel_rfl⟩
instance : TyV Go.Proofs.Try.prog 3 false 1 := ⟨by kernel_rfl, by kernel_rfl⟩
instance : TyInt Go.Proofs.Try.prog 3 .i64 := ⟨by kernel_rfl⟩
instance : TyZ Go.Proofs.Try.prog 3 8 (.int .i64 0) := ⟨by kernel_rfl⟩
instance : TyV Go.Proofs.Try.prog 4 false 1 := ⟨by kernel_rfl, by kernel_rfl⟩
instance : TyBool Go.Proofs.Try.prog 4 := ⟨by kernel_rfl⟩
instance : TyZ Go.Proofs.Try.prog 4 1 (.bool false) := ⟨by kernel_rfl⟩
instance : TyV Go.Proofs.Try.prog 5 false 1 := ⟨by kernel_rfl, by kernel_rfl⟩
instance : TyInt Go.Proofs.Try.prog 5 .u8 := ⟨by kernel_rfl⟩
instance : TyZ Go.Proofs.Try.prog 5 1 (.int .u8 0) := ⟨by kernel_rfl⟩
instance : TyV Go.Proofs.Try.prog 6 false 1 := ⟨by kernel_rfl, by kernel_rfl⟩
instance : TyInt Go.Proofs.Try.prog 6 .u8 := ⟨by kernel_rfl⟩
instance : TyZ Go.Proofs.Try.prog 6 1 (.int .u8 0) := ⟨by kernel_rfl⟩
instance : TyV Go.Proofs.Try.prog 7 true 4 := ⟨by kernel_rfl, by kernel_rfl⟩
instance : TyPl Go.Proofs.Try.prog 7 [(0, 1), (1, 1), (2, 1), (3, 1)] := ⟨by kernel_rfl⟩
instance : TyFld Go.Proofs.Try.prog 7 0 0 0 false := ⟨by kernel_rfl⟩
instance : TyFld Go.Proofs.Try.prog 7 1 1 0 false := ⟨by kernel_rfl⟩
instance : TyFld Go.Proofs.Try.prog 7 2 2 0 false := ⟨by kernel_rfl⟩
instance : TyFld Go.Proofs.Try.prog 7 3 3 0 false := ⟨by kernel_rfl⟩
instance : TyZ Go.Proofs.Try.prog 7 24 (.agg #[(.int .i64 0), (.int .i64 0), (.bool false), (.int .u8 0)]) := ⟨by kernel_rfl⟩
instance : TyV Go.Proofs.Try.prog 8 true 4 := ⟨by kernel_rfl, by kernel_rfl⟩
instance : TyPl Go.Proofs.Try.prog 8 [(0, 1), (1, 1), (2, 1), (3, 1)] := ⟨by kernel_rfl⟩
instance : TyFld Go.Proofs.Try.prog 8 0 0 0 false := ⟨by kernel_rfl⟩
instance : TyFld Go.Proofs.Try.prog 8 1 1 0 false := ⟨by kernel_rfl⟩
instance : TyFld Go.Proofs.Try.prog 8 2 2 0 false := ⟨by kernel_rfl⟩
instance : TyFld Go.Proofs.Try.prog 8 3 3 0 false := ⟨by kernel_rfl⟩
instance : TyZ Go.Proofs.Try.prog 8 24 (.agg #[(.int .i64 0), (.int .i64 0), (.bool false), (.int .u8 0)]) := ⟨by kernel_rfl⟩
instance : TyV Go.Proofs.Try.prog 9 false 1 := ⟨by kernel_rfl, by kernel_rfl⟩
instance : TyStr Go.Proofs.Try.prog 9 := ⟨by kernel_rfl⟩
instance : TyV Go.Proofs.Try.prog 10 false 1 := ⟨by kernel_rfl, by kernel_rfl⟩
instance : TyStr Go.Proofs.Try.prog 10 := ⟨by kernel_rfl⟩
instance : TyV Go.Proofs.Try.prog 11 false 1 := ⟨by kernel_rfl, by kernel_rfl⟩
instance : TyStr Go.Proofs.Try.prog 11 := ⟨by kernel_rfl⟩
instance : TyV Go.Proofs.Try.prog 12 false 1 := ⟨by kernel_rfl, by kernel_rfl⟩
instance : TyInt Go.Proofs.Try.prog 12 .u64 := ⟨by kernel_rfl⟩
instance : TyZ Go.Proofs.Try.prog 12 8 (.int .u64 0) := ⟨by kernel_rfl⟩
instance : TyV Go.Proofs.Try.prog 13 true 2 := ⟨by kernel_rfl, by kernel_rfl⟩
instance : TyPl Go.Proofs.Try.prog 13 [(0, 1), (1, 1)] := ⟨by kernel_rfl⟩
instance : TyFld Go.Proofs.Try.prog 13 0 0 0 false := ⟨by kernel_rfl⟩
instance : TyFld Go.Proofs.Try.prog 13 1 1 0 false := ⟨by kernel_rfl⟩
instance : TyV Go.Proofs.Try.prog 14 true 2 := ⟨by kernel_rfl, by kernel_rfl⟩
instance : TyPl Go.Proofs.Try.prog 14 [(0, 1), (1, 1)] := ⟨by kernel_rfl⟩
instance : TyFld Go.Proofs.Try.prog 14 0 0 0 false := ⟨by kernel_rfl⟩
instance : TyFld Go.Proofs.Try.prog 14 1 1 0 false := ⟨by kernel_rfl⟩
instance : TyV Go.Proofs.Try.prog 15 false 1 := ⟨by kernel_rfl, by kernel_rfl⟩
instance : TyZ Go.Proofs.Try.prog 15 8 (.pointer none) := ⟨by kernel_rfl⟩
instance : TyV Go.Proofs.Try.prog 16 false 1 := ⟨by kernel_rfl, by kernel_rfl⟩
instance : TyZ Go.Proofs.Try.prog 16 8 (.pointer none) := ⟨by kernel_rfl⟩
instance : TyV Go.Proofs.Try.prog 17 false 1 := ⟨by kernel_rfl, by kernel_rfl⟩
instance : TyZ Go.Proofs.Try.prog 17 8 (.pointer none) := ⟨by kernel_rfl⟩
instance : TyV Go.Proofs.Try.prog 18 true 1 := ⟨by kernel_rfl, by kernel_rfl⟩
instance : TyPl Go.Proofs.Try.prog 18 [(0, 1)] := ⟨by kernel_rfl⟩
instance : TyFld Go.Proofs.Try.prog 18 0 0 0 false := ⟨by kernel_rfl⟩
instance : TyZ Go.Proofs.Try.prog 18 8 (.agg #[(.pointer none)]) := ⟨by kernel_rfl⟩
instance : TyV Go.Proofs.Try.prog 19 true 1 := ⟨by kernel_rfl, by kernel_rfl⟩
instance : TyPl Go.Proofs.Try.prog 19 [(0, 1)] := ⟨by kernel_rfl⟩
instance : TyFld Go.Proofs.Try.prog 19 0 0 0 false := ⟨by kernel_rfl⟩
instance : TyZ Go.Proofs.Try.prog 19 8 (.agg #[(.pointer none)]) := ⟨by kernel_rfl⟩
instance : TyV Go.Proofs.Try.prog 20 false 1 := ⟨by kernel_rfl, by kernel_rfl⟩
instance : TyZ Go.Proofs.Try.prog 20 16 .nilIface := ⟨by kernel_rfl⟩
instance : TyV Go.Proofs.Try.prog 21 false 1 := ⟨by kernel_rfl, by kernel_rfl⟩
instance : TyInt Go.Proofs.Try.prog 21 .i32 := ⟨by kernel_rfl⟩
instance : TyZ Go.Proofs.Try.prog 21 4 (.int .i32 0) := ⟨by kernel_rfl⟩
instance : TyV Go.Proofs.Try.prog 22 false 1 := ⟨by kernel_rfl, by kernel_rfl⟩
instance : TySl Go.Proofs.Try.prog 22 5 := ⟨by kernel_rfl⟩
instance : TyZ Go.Proofs.Try.prog 22 24 (.slice none 0 0) := ⟨by kernel_rfl⟩
instance : TyV Go.Proofs.Try.prog 23 true 4 := ⟨by kernel_rfl, by kernel_rfl⟩
instance : TyPl Go.Proofs.Try.prog 23 [(0, 1), (1, 1), (2, 1), (3, 1)] := ⟨by kernel_rfl⟩
instance : TyEqI Go.Proofs.Try.prog 23 4 := ⟨by kernel_rfl, by kernel_rfl, by kernel_rfl⟩
instance : TyFld Go.Proofs.Try.prog 23 0 0 0 false := ⟨by kernel_rfl⟩
instance : TyFld Go.Proofs.Try.prog 23 1 1 0 false := ⟨by kernel_rfl⟩
instance : TyFld Go.Proofs.Try.prog 23 2 2 0 false := ⟨by kernel_rfl⟩
instance : TyFld Go.Proofs.Try.prog 23 3 3 0 false := ⟨by kernel_rfl⟩
instance : TyZ Go.Proofs.Try.prog 23 32 (.agg #[(.int .i64 0), (.int .i64 0), (.int .i64 0), (.int .i64 0)]) := ⟨by kernel_rfl⟩
instance : TyV Go.Proofs.Try.prog 24 true 4 := ⟨by kernel_rfl, by kernel_rfl⟩
instance : TyPl Go.Proofs.Try.prog 24 [(0, 1), (1, 1), (2, 1), (3, 1)] := ⟨by kernel_rfl⟩
instance : TyEqI Go.Proofs.Try.prog 24 4 := ⟨by kernel_rfl, by kernel_rfl, by kernel_rfl⟩
instance : TyFld Go.Proofs.Try.prog 24 0 0 0 false := ⟨by kernel_rfl⟩
instance : TyFld Go.Proofs.Try.prog 24 1 1 0 false := ⟨by kernel_rfl⟩
instance : TyFld Go.Proofs.Try.prog 24 2 2 0 false := ⟨by kernel_rfl⟩
instance : TyFld Go.Proofs.Try.prog 24 3 3 0 false := ⟨by kernel_rfl⟩
instance : TyZ Go.Proofs.Try.prog 24 32 (.agg #[(.int .i64 0), (.int .i64 0), (.int .i64 0), (.int .i64 0)]) := ⟨by kernel_rfl⟩
instance : TyV Go.Proofs.Try.prog 25 true 1 := ⟨by kernel_rfl, by kernel_rfl⟩
instance : TyPl Go.Proofs.Try.prog 25 [(0, 1)] := ⟨by kernel_rfl⟩
instance : TyEqI Go.Proofs.Try.prog 25 1 := ⟨by kernel_rfl, by kernel_rfl, by kernel_rfl⟩
instance : TyFld Go.Proofs.Try.prog 25 0 0 0 false := ⟨by kernel_rfl⟩
instance : TyZ Go.Proofs.Try.prog 25 8 (.agg #[(.int .i64 0)]) := ⟨by kernel_rfl⟩
instance : TyV Go.Proofs.Try.prog 26 true 1 := ⟨by kernel_rfl, by kernel_rfl⟩
instance : TyPl Go.Proofs.Try.prog 26 [(0, 1)] := ⟨by kernel_rfl⟩
instance : TyEqI Go.Proofs.Try.prog 26 1 := ⟨by kernel_rfl, by kernel_rfl, by kernel_rfl⟩
instance : TyFld Go.Proofs.Try.prog 26 0 0 0 false := ⟨by kernel_rfl⟩
instance : TyZ Go.Proofs.Try.prog 26 8 (.agg #[(.int .i64 0)]) := ⟨by kernel_rfl⟩
instance : TyV Go.Proofs.Try.prog 27 false 1 := ⟨by kernel_rfl, by kernel_rfl⟩
instance : TyZ Go.Proofs.Try.prog 27 8 .nilFunc := ⟨by kernel_rfl⟩
instance : TyV Go.Proofs.Try.prog 28 false 1 := ⟨by kernel_rfl, by kernel_rfl⟩
instance : TyZ Go.Proofs.Try.prog 28 8 (.pointer none) := ⟨by kernel_rfl⟩
instance : TyV Go.Proofs.Try.prog 29 false 1 := ⟨by kernel_rfl, by kernel_rfl⟩
instance : TyZ Go.Proofs.Try.prog 29 8 .nilFunc := ⟨by kernel_rfl⟩
instance : TyV Go.Proofs.Try.prog 30 false 1 := ⟨by kernel_rfl, by kernel_rfl⟩
instance : TyZ Go.Proofs.Try.prog 30 8 .nilFunc := ⟨by kernel_rfl⟩
instance : TyV Go.Proofs.Try.prog 31 false 1 := ⟨by kernel_rfl, by kernel_rfl⟩
instance : TySl Go.Proofs.Try.prog 31 24 := ⟨by kernel_rfl⟩
instance : TyZ Go.Proofs.Try.prog 31 24 (.slice none 0 0) := ⟨by kernel_rfl⟩
instance : TyV Go.Proofs.Try.prog 32 false 1 := ⟨by kernel_rfl, by kernel_rfl⟩
instance : TyZ Go.Proofs.Try.prog 32 8 .nilFunc := ⟨by kernel_rfl⟩
instance : TyV Go.Proofs.Try.prog 33 false 1 := ⟨by kernel_rfl, by kernel_rfl⟩
instance : TyZ Go.Proofs.Try.prog 33 8 .nilFunc := ⟨by kernel_rfl⟩
instance : TyV Go.Proofs.Try.prog 34 false 1 := ⟨by kernel_rfl, by kernel_rfl⟩
instance : TySl Go.Proofs.Try.prog 34 26 := ⟨by kernel_rfl⟩
instance : TyZ Go.Proofs.Try.prog 34 24 (.slice none 0 0) := ⟨by kernel_rfl⟩
instance : TyV Go.Proofs.Try.prog 35 false 1 := ⟨by kernel_rfl, by kernel_rfl⟩
instance : TyZ Go.Proofs.Try.prog 35 8 .nilFunc := ⟨by kernel_rfl⟩
instance : TyV Go.Proofs.Try.prog 36 true 2 := ⟨by kernel_rfl, by kernel_rfl⟩
instance : TyZ Go.Proofs.Try.prog 36 16 (.agg #[(.int .i64 0), (.int .i64 0)]) := ⟨by kernel_rfl⟩
instance : TyV Go.Proofs.Try.prog 37 false 1 := ⟨by kernel_rfl, by kernel_rfl⟩
instance : TyZ Go.Proofs.Try.prog 37 8 .nilFunc := ⟨by kernel_rfl⟩
instance : TyV Go.Proofs.Try.prog 38 false 1 := ⟨by kernel_rfl, by kernel_rfl⟩
instance : TySl Go.Proofs.Try.prog 38 36 := ⟨by kernel_rfl⟩
instance : TyZ Go.Proofs.Try.prog 38 24 (.slice none 0 0) := ⟨by kernel_rfl⟩
instance : TyV Go.Proofs.Try.prog 39 false 1 := ⟨by kernel_rfl, by kernel_rfl⟩
instance : TyZ Go.Proofs.Try.prog 39 8 .nilFunc := ⟨by kernel_rfl⟩
instance : TyV Go.Proofs.Try.prog 40 false 1 := ⟨by kernel_rfl, by kernel_rfl⟩
instance : TySl Go.Proofs.Try.prog 40 3 := ⟨by kernel_rfl⟩
instance : TyZ Go.Proofs.Try.prog 40 24 (.slice none 0 0) := ⟨by kernel_rfl⟩
instance : TyV Go.Proofs.Try.prog 41 false 1 := ⟨by kernel_rfl, by kernel_rfl⟩
instance : TyZ Go.Proofs.Try.prog 41 8 .nilFunc := ⟨by kernel_rfl⟩
instance : TyV Go.Proofs.Try.prog 42 false 1 := ⟨by kernel_rfl, by kernel_rfl⟩
instance : TyZ Go.Proofs.Try.prog 42 8 .nilFunc := ⟨by kernel_rfl⟩
instance : TyV Go.Proofs.Try.prog 43 false 1 := ⟨by kernel_rfl, by kernel_rfl⟩
instance : TySl Go.Proofs.Try.prog 43 40 := ⟨by kernel_rfl⟩
instance : TyZ Go.Proofs.Try.prog 43 24 (.slice none 0 0) := ⟨by kernel_rfl⟩
instance : TyV Go.Proofs.Try.prog 44 true 4 := ⟨by kernel_rfl, by kernel_rfl⟩
instance : TyPl Go.Proofs.Try.prog 44 [(0, 1), (1, 1), (2, 1), (3, 1)] := ⟨by kernel_rfl⟩
instance : TyFld Go.Proofs.Try.prog 44 0 0 0 false := ⟨by kernel_rfl⟩
instance : TyFld Go.Proofs.Try.prog 44 1 1 0 true := ⟨by kernel_rfl⟩
instance : TyFld Go.Proofs.Try.prog 44 2 2 0 false := ⟨by kernel_rfl⟩
instance : TyFld Go.Proofs.Try.prog 44 3 3 0 false := ⟨by kernel_rfl⟩
instance : TyZ Go.Proofs.Try.prog 44 48 (.agg #[(.int .i64 0), (.int .i64 0), (.int .i64 0), (.slice none 0 0)]) := ⟨by kernel_rfl⟩
instance : TyV Go.Proofs.Try.prog 45 true 4 := ⟨by kernel_rfl, by kernel_rfl⟩
instance : TyPl Go.Proofs.Try.prog 45 [(0, 1), (1, 1), (2, 1), (3, 1)] := ⟨by kernel_rfl⟩
instance : TyFld Go.Proofs.Try.prog 45 0 0 0 false := ⟨by kernel_rfl⟩
instance : TyFld Go.Proofs.Try.prog 45 1 1 0 true := ⟨by kernel_rfl⟩
instance : TyFld Go.Proofs.Try.prog 45 2 2 0 false := ⟨by kernel_rfl⟩
instance : TyFld Go.Proofs.Try.prog 45 3 3 0 false := ⟨by kernel_rfl⟩
instance : TyZ Go.Proofs.Try.prog 45 48 (.agg #[(.int .i64 0), (.int .i64 0), (.int .i64 0), (.slice none 0 0)]) := ⟨by kernel_rfl⟩
instance : TyV Go.Proofs.Try.prog 46 false 1 := ⟨by kernel_rfl, by kernel_rfl⟩
instance : TyZ Go.Proofs.Try.prog 46 8 .nilFunc := ⟨by kernel_rfl⟩
instance : TyV Go.Proofs.Try.prog 47 false 1 := ⟨by kernel_rfl, by kernel_rfl⟩
instance : TyZ Go.Proofs.Try.prog 47 8 .nilFunc := ⟨by kernel_rfl⟩
instance : TyV Go.Proofs.Try.prog 48 true 5 := ⟨by kernel_rfl, by kernel_rfl⟩
instance : TyPl Go.Proofs.Try.prog 48 [(0, 1), (1, 1), (2, 1), (3, 1), (4, 1)] := ⟨by kernel_rfl⟩
instance : TyEqI Go.Proofs.Try.prog 48 5 := ⟨by kernel_rfl, by kernel_rfl, by kernel_rfl⟩
instance : TyFld Go.Proofs.Try.prog 48 0 0 0 false := ⟨by kernel_rfl⟩
instance : TyFld Go.Proofs.Try.prog 48 1 1 0 false := ⟨by kernel_rfl⟩
instance : TyFld Go.Proofs.Try.prog 48 2 2 0 false := ⟨by kernel_rfl⟩
instance : TyFld Go.Proofs.Try.prog 48 3 3 0 false := ⟨by kernel_rfl⟩
instance : TyFld Go.Proofs.Try.prog 48 4 4 0 false := ⟨by kernel_rfl⟩
instance : TyZ Go.Proofs.Try.prog 48 40 (.agg #[(.int .i64 0), (.int .i64 0), (.int .i64 0), (.int .i64 0), (.int .i64 0)]) := ⟨by kernel_rfl⟩
instance : TyV Go.Proofs.Try.prog 49 true 5 := ⟨by kernel_rfl, by kernel_rfl⟩
instance : TyPl Go.Proofs.Try.prog 49 [(0, 1), (1, 1), (2, 1), (3, 1), (4, 1)] := ⟨by kernel_rfl⟩
instance : TyEqI Go.Proofs.Try.prog 49 5 := ⟨by kernel_rfl, by kernel_rfl, by kernel_rfl⟩
instance : TyFld Go.Proofs.Try.prog 49 0 0 0 false := ⟨by kernel_rfl⟩
instance : TyFld Go.Proofs.Try.prog 49 1 1 0 false := ⟨by kernel_rfl⟩
instance : TyFld Go.Proofs.Try.prog 49 2 2 0 false := ⟨by kernel_rfl⟩
instance : TyFld Go.Proofs.Try.prog 49 3 3 0 false := ⟨by kernel_rfl⟩
instance : TyFld Go.Proofs.Try.prog 49 4 4 0 false := ⟨by kernel_rfl⟩
instance : TyZ Go.Proofs.Try.prog 49 40 (.agg #[(.int .i64 0), (.int .i64 0), (.int .i64 0), (.int .i64 0), (.int .i64 0)]) := ⟨by kernel_rfl⟩
instance : TyV Go.Proofs.Try.prog 50 false 1 := ⟨by kernel_rfl, by kernel_rfl⟩
instance : TyInt Go.Proofs.Try.prog 50 .i64 := ⟨by kernel_rfl⟩
instance : TyZ Go.Proofs.Try.prog 50 8 (.int .i64 0) := ⟨by kernel_rfl⟩
instance : TyV Go.Proofs.Try.prog 52 false 1 := ⟨by kernel_rfl, by kernel_rfl⟩
instance : TyZ Go.Proofs.Try.prog 52 8 .nilFunc := ⟨by kernel_rfl⟩
instance : TyV Go.Proofs.Try.prog 53 false 1 := ⟨by kernel_rfl, by kernel_rfl⟩
instance : TyZ Go.Proofs.Try.prog 53 8 .nilFunc := ⟨by kernel_rfl⟩
instance : TyV Go.Proofs.Try.prog 55 false 1 := ⟨by kernel_rfl, by kernel_rfl⟩
instance : TyZ Go.Proofs.Try.prog 55 8 .nilFunc := ⟨by kernel_rfl⟩
instance : TyV Go.Proofs.Try.prog 56 true 2 := ⟨by kernel_rfl, by kernel_rfl⟩
instance : TyPl Go.Proofs.Try.prog 56 [(0, 1), (1, 1)] := ⟨by kernel_rfl⟩
instance : TyFld Go.Proofs.Try.prog 56 0 0 0 false := ⟨by kernel_rfl⟩
instance : TyFld Go.Proofs.Try.prog 56 1 1 0 false := ⟨by kernel_rfl⟩
instance : TyZ Go.Proofs.Try.prog 56 32 (.agg #[(.slice none 0 0), (.int .i64 0)]) := ⟨by kernel_rfl⟩
instance : TyV Go.Proofs.Try.prog 57 true 2 := ⟨by kernel_rfl, by kernel_rfl⟩
instance : TyPl Go.Proofs.Try.prog 57 [(0, 1), (1, 1)] := ⟨by kernel_rfl⟩
instance : TyFld Go.Proofs.Try.prog 57 0 0 0 false := ⟨by kernel_rfl⟩
instance : TyFld Go.Proofs.Try.prog 57 1 1 0 false := ⟨by kernel_rfl⟩
instance : TyZ Go.Proofs.Try.prog 57 32 (.agg #[(.slice none 0 0), (.int .i64 0)]) := ⟨by kernel_rfl⟩
instance : TyV Go.Proofs.Try.prog 58 false 1 := ⟨by kernel_rfl, by kernel_rfl⟩
instance : TyZ Go.Proofs.Try.prog 58 8 .nilFunc := ⟨by kernel_rfl⟩
instance : TyV Go.Proofs.Try.prog 59 false 1 := ⟨by kernel_rfl, by kernel_rfl⟩
instance : TySl Go.Proofs.Try.prog 59 43 := ⟨by kernel_rfl⟩
instance : TyZ Go.Proofs.Try.prog 59 24 (.slice none 0 0) := ⟨by kernel_rfl⟩
instance : TyV Go.Proofs.Try.prog 60 false 1 := ⟨by kernel_rfl, by kernel_rfl⟩
instance : TySl Go.Proofs.Try.prog 60 98 := ⟨by kernel_rfl⟩
instance : TyZ Go.Proofs.Try.prog 60 24 (.slice none 0 0) := ⟨by kernel_rfl⟩
instance : TyV Go.Proofs.Try.prog 61 true 15 := ⟨by kernel_rfl, by kernel_rfl⟩
instance : TyPl Go.Proofs.Try.prog 61 [(0, 1), (1, 4), (5, 5), (10, 1), (11, 1), (12, 1), (13, 1), (14, 1)] := ⟨by kernel_rfl⟩
instance : TyFld Go.Proofs.Try.prog 61 0 0 0 false := ⟨by kernel_rfl⟩
instance : TyFld Go.Proofs.Try.prog 61 1 1 3 true := ⟨by kernel_rfl⟩
instance : TyFld Go.Proofs.Try.prog 61 2 5 4 true := ⟨by kernel_rfl⟩
instance : TyFld Go.Proofs.Try.prog 61 3 10 0 false := ⟨by kernel_rfl⟩
instance : TyFld Go.Proofs.Try.prog 61 4 11 0 false := ⟨by kernel_rfl⟩
instance : TyFld Go.Proofs.Try.prog 61 5 12 0 false := ⟨by kernel_rfl⟩
instance : TyFld Go.Proofs.Try.prog 61 6 13 0 false := ⟨by kernel_rfl⟩
instance : TyFld Go.Proofs.Try.prog 61 7 14 0 false := ⟨by kernel_rfl⟩
instance : TyZ Go.Proofs.Try.prog 61 184 (.agg #[(.int .i64 0), (.int .i64 0), (.int .i64 0), (.int .i64 0), (.int .i64 0), (.int .i64 0), (.int .i64 0), (.int .i64 0), (.int .i64 0), (.int .i64 0), (.slice none 0 0), (.slice none 0 0), (.slice none 0 0), (.slice none 0 0), (.bool false)]) := ⟨by kernel_rfl⟩
instance : TyV Go.Proofs.Try.prog 62 true 15 := ⟨by kernel_rfl, by kernel_rfl⟩
instance : TyPl Go.Proofs.Try.prog 62 [(0, 1), (1, 4), (5, 5), (10, 1), (11, 1), (12, 1), (13, 1), (14, 1)] := ⟨by kernel_rfl⟩
instance : TyFld Go.Proofs.Try.prog 62 0 0 0 false := ⟨by kernel_rfl⟩
instance : TyFld Go.Proofs.Try.prog 62 1 1 3 true := ⟨by kernel_rfl⟩
instance : TyFld Go.Proofs.Try.prog 62 2 5 4 true := ⟨by kernel_rfl⟩
instance : TyFld Go.Proofs.Try.prog 62 3 10 0 false := ⟨by kernel_rfl⟩
instance : TyFld Go.Proofs.Try.prog 62 4 11 0 false := ⟨by kernel_rfl⟩
instance : TyFld Go.Proofs.Try.prog 62 5 12 0 false := ⟨by kernel_rfl⟩
instance : TyFld Go.Proofs.Try.prog 62 6 13 0 false := ⟨by kernel_rfl⟩
instance : TyFld Go.Proofs.Try.prog 62 7 14 0 false := ⟨by kernel_rfl⟩
instance : TyZ Go.Proofs.Try.prog 62 184 (.agg #[(.int .i64 0), (.int .i64 0), (.int .i64 0), (.int .i64 0), (.int .i64 0), (.int .i64 0), (.int .i64 0), (.int .i64 0), (.int .i64 0), (.int .i64 0), (.slice none 0 0), (.slice none 0 0), (.slice none 0 0), (.slice none 0 0), (.bool false)]) := ⟨by kernel_rfl⟩
instance : TyV Go.Proofs.Try.prog 64 false 1 := ⟨by kernel_rfl, by kernel_rfl⟩
instance : TyZ Go.Proofs.Try.prog 64 8 .nilFunc := ⟨by kernel_rfl⟩
instance : TyV Go.Proofs.Try.prog 65 false 1 := ⟨by kernel_rfl, by kernel_rfl⟩
instance : TySl Go.Proofs.Try.prog 65 68 := ⟨by kernel_rfl⟩
instance : TyZ Go.Proofs.Try.prog 65 24 (.slice none 0 0) := ⟨by kernel_rfl⟩
instance : TyV Go.Proofs.Try.prog 66 false 1 := ⟨by kernel_rfl, by kernel_rfl⟩
instance : TyZ Go.Proofs.Try.prog 66 8 .nilFunc := ⟨by kernel_rfl⟩
instance : TyV Go.Proofs.Try.prog 67 true 8 := ⟨by kernel_rfl, by kernel_rfl⟩
instance : TyPl Go.Proofs.Try.prog 67 [(0, 1), (1, 1), (2, 1), (3, 1), (4, 1), (5, 1), (6, 1), (7, 1)] := ⟨by kernel_rfl⟩
instance : TyFld Go.Proofs.Try.prog 67 0 0 0 false := ⟨by kernel_rfl⟩
instance : TyFld Go.Proofs.Try.prog 67 1 1 0 false := ⟨by kernel_rfl⟩
instance : TyFld Go.Proofs.Try.prog 67 2 2 0 false := ⟨by kernel_rfl⟩
instance : TyFld Go.Proofs.Try.prog 67 3 3 0 false := ⟨by kernel_rfl⟩
instance : TyFld Go.Proofs.Try.prog 67 4 4 0 false := ⟨by kernel_rfl⟩
instance : TyFld Go.Proofs.Try.prog 67 5 5 0 false := ⟨by kernel_rfl⟩
instance : TyFld Go.Proofs.Try.prog 67 6 6 0 false := ⟨by kernel_rfl⟩
instance : TyFld Go.Proofs.Try.prog 67 7 7 0 false := ⟨by kernel_rfl⟩
instance : TyZ Go.Proofs.Try.prog 67 96 (.agg #[(.int .i64 0), (.int .i64 0), (.int .i64 0), (.int .i64 0), (.int .i64 0), (.slice none 0 0), (.slice none 0 0), (.int .i64 0)]) := ⟨by kernel_rfl⟩
instance : TyV Go.Proofs.Try.prog 68 true 8 := ⟨by kernel_rfl, by kernel_rfl⟩
instance : TyPl Go.Proofs.Try.prog 68 [(0, 1), (1, 1), (2, 1), (3, 1), (4, 1), (5, 1), (6, 1), (7, 1)] := ⟨by kernel_rfl⟩
instance : TyFld Go.Proofs.Try.prog 68 0 0 0 false := ⟨by kernel_rfl⟩
instance : TyFld Go.Proofs.Try.prog 68 1 1 0 false := ⟨by kernel_rfl⟩
instance : TyFld Go.Proofs.Try.prog 68 2 2 0 false := ⟨by kernel_rfl⟩
instance : TyFld Go.Proofs.Try.prog 68 3 3 0 false := ⟨by kernel_rfl⟩
instance : TyFld Go.Proofs.Try.prog 68 4 4 0 false := ⟨by kernel_rfl⟩
instance : TyFld Go.Proofs.Try.prog 68 5 5 0 false := ⟨by kernel_rfl⟩
instance : TyFld Go.Proofs.Try.prog 68 6 6 0 false := ⟨by kernel_rfl⟩
instance : TyFld Go.Proofs.Try.prog 68 7 7 0 false := ⟨by kernel_rfl⟩
instance : TyZ Go.Proofs.Try.prog 68 96 (.agg #[(.int .i64 0), (.int .i64 0), (.int .i64 0), (.int .i64 0), (.int .i64 0), (.slice none 0 0), (.slice none 0 0), (.int .i64 0)]) := ⟨by kernel_rfl⟩
instance : TyV Go.Proofs.Try.prog 69 false 1 := ⟨by kernel_rfl, by kernel_rfl⟩
instance : TyZ Go.Proofs.Try.prog 69 8 .nilFunc := ⟨by kernel_rfl⟩
instance : TyV Go.Proofs.Try.prog 70 false 1 := ⟨by kernel_rfl, by kernel_rfl⟩
instance : TyZ Go.Proofs.Try.prog 70 8 .nilFunc := ⟨by kernel_rfl⟩
instance : TyV Go.Proofs.Try.prog 72 false 1 := ⟨by kernel_rfl, by kernel_rfl⟩
instance : TyZ Go.Proofs.Try.prog 72 8 .nilFunc := ⟨by kernel_rfl⟩
instance : TyV Go.Proofs.Try.prog 73 false 1 := ⟨by kernel_rfl, by kernel_rfl⟩
instance : TyZ Go.Proofs.Try.prog 73 8 .nilFunc := ⟨by kernel_rfl⟩
instance : TyV Go.Proofs.Try.prog 74 false 1 := ⟨by kernel_rfl, by kernel_rfl⟩
instance : TyZ Go.Proofs.Try.prog 74 8 .nilFunc := ⟨by kernel_rfl⟩
instance : TyV Go.Proofs.Try.prog 75 false 1 := ⟨by kernel_rfl, by kernel_rfl⟩
instance : TyZ Go.Proofs.Try.prog 75 8 .nilFunc := ⟨by kernel_rfl⟩
instance : TyV Go.Proofs.Try.prog 76 false 1 := ⟨by kernel_rfl, by kernel_rfl⟩
instance : TyZ Go.Proofs.Try.prog 76 8 .nilFunc := ⟨by kernel_rfl⟩
instance : TyV Go.Proofs.Try.prog 78 false 1 := ⟨by kernel_rfl, by kernel_rfl⟩
instance : TyZ Go.Proofs.Try.prog 78 8 .nilFunc := ⟨by kernel_rfl⟩
instance : TyV Go.Proofs.Try.prog 80 false 1 := ⟨by kernel_rfl, by kernel_rfl⟩
instance : TyZ Go.Proofs.Try.prog 80 8 .nilFunc := ⟨by kernel_rfl⟩
instance : TyV Go.Proofs.Try.prog 81 true 2 := ⟨by kernel_rfl, by kernel_rfl⟩
instance : TyPl Go.Proofs.Try.prog 81 [(0, 1), (1, 1)] := ⟨by kernel_rfl⟩
instance : TyFld Go.Proofs.Try.prog 81 0 0 0 false := ⟨by kernel_rfl⟩
instance : TyFld Go.Proofs.Try.prog 81 1 1 0 false := ⟨by kernel_rfl⟩
instance : TyZ Go.Proofs.Try.prog 81 32 (.agg #[(.slice none 0 0), (.int .i64 0)]) := ⟨by kernel_rfl⟩
instance : TyV Go.Proofs.Try.prog 82 true 2 := ⟨by kernel_rfl, by kernel_rfl⟩
instance : TyPl Go.Proofs.Try.prog 82 [(0, 1), (1, 1)] := ⟨by kernel_rfl⟩
instance : TyFld Go.Proofs.Try.prog 82 0 0 0 false := ⟨by kernel_rfl⟩
instance : TyFld Go.Proofs.Try.prog 82 1 1 0 false := ⟨by kernel_rfl⟩
instance : TyZ Go.Proofs.Try.prog 82 32 (.agg #[(.slice none 0 0), (.int .i64 0)]) := ⟨by kernel_rfl⟩
instance : TyV Go.Proofs.Try.prog 83 false 1 := ⟨by kernel_rfl, by kernel_rfl⟩
instance : TyZ Go.Proofs.Try.prog 83 8 .nilFunc := ⟨by kernel_rfl⟩
instance : TyV Go.Proofs.Try.prog 84 false 1 := ⟨by kernel_rfl, by kernel_rfl⟩
instance : TyZ Go.Proofs.Try.prog 84 8 (.map none) := ⟨by kernel_rfl⟩
instance : TyV Go.Proofs.Try.prog 85 false 1 := ⟨by kernel_rfl, by kernel_rfl⟩
instance : TyZ Go.Proofs.Try.prog 85 8 .nilFunc := ⟨by kernel_rfl⟩
instance : TyV Go.Proofs.Try.prog 86 true 3 := ⟨by kernel_rfl, by kernel_rfl⟩
instance : TyPl Go.Proofs.Try.prog 86 [(0, 1), (1, 1), (2, 1)] := ⟨by kernel_rfl⟩
instance : TyEqI Go.Proofs.Try.prog 86 3 := ⟨by kernel_rfl, by kernel_rfl, by kernel_rfl⟩
instance : TyFld Go.Proofs.Try.prog 86 0 0 0 false := ⟨by kernel_rfl⟩
instance : TyFld Go.Proofs.Try.prog 86 1 1 0 false := ⟨by kernel_rfl⟩
instance : TyFld Go.Proofs.Try.prog 86 2 2 0 false := ⟨by kernel_rfl⟩
instance : TyZ Go.Proofs.Try.prog 86 24 (.agg #[(.int .i64 0), (.int .i64 0), (.int .i64 0)]) := ⟨by kernel_rfl⟩
instance : TyV Go.Proofs.Try.prog 87 true 3 := ⟨by kernel_rfl, by kernel_rfl⟩
instance : TyPl Go.Proofs.Try.prog 87 [(0, 1), (1, 1), (2, 1)] := ⟨by kernel_rfl⟩
instance : TyEqI Go.Proofs.Try.prog 87 3 := ⟨by kernel_rfl, by kernel_rfl, by kernel_rfl⟩
instance : TyFld Go.Proofs.Try.prog 87 0 0 0 false := ⟨by kernel_rfl⟩
instance : TyFld Go.Proofs.Try.prog 87 1 1 0 false := ⟨by kernel_rfl⟩
instance : TyFld Go.Proofs.Try.prog 87 2 2 0 false := ⟨by kernel_rfl⟩
instance : TyZ Go.Proofs.Try.prog 87 24 (.agg #[(.int .i64 0), (.int .i64 0), (.int .i64 0)]) := ⟨by kernel_rfl⟩
instance : TyV Go.Proofs.Try.prog 88 true 3 := ⟨by kernel_rfl, by kernel_rfl⟩
instance : TyPl Go.Proofs.Try.prog 88 [(0, 1), (1, 1), (2, 1)] := ⟨by kernel_rfl⟩
instance : TyEqI Go.Proofs.Try.prog 88 3 := ⟨by kernel_rfl, by kernel_rfl, by kernel_rfl⟩
instance : TyFld Go.Proofs.Try.prog 88 0 0 0 false := ⟨by kernel_rfl⟩
instance : TyFld Go.Proofs.Try.prog 88 1 1 0 false := ⟨by kernel_rfl⟩
instance : TyFld Go.Proofs.Try.prog 88 2 2 0 false := ⟨by kernel_rfl⟩
instance : TyZ Go.Proofs.Try.prog 88 24 (.agg #[(.int .i64 0), (.int .i64 0), (.int .i64 0)]) := ⟨by kernel_rfl⟩
instance : TyV Go.Proofs.Try.prog 89 false 1 := ⟨by kernel_rfl, by kernel_rfl⟩
instance : TyZ Go.Proofs.Try.prog 89 8 .nilFunc := ⟨by kernel_rfl⟩
instance : TyV Go.Proofs.Try.prog 90 false 1 := ⟨by kernel_rfl, by kernel_rfl⟩
instance : TyZ Go.Proofs.Try.prog 90 8 .nilFunc := ⟨by kernel_rfl⟩
instance : TyV Go.Proofs.Try.prog 91 false 1 := ⟨by kernel_rfl, by kernel_rfl⟩
instance : TyZ Go.Proofs.Try.prog 91 8 .nilFunc := ⟨by kernel_rfl⟩
instance : TyV Go.Proofs.Try.prog 92 false 1 := ⟨by kernel_rfl, by kernel_rfl⟩
instance : TyZ Go.Proofs.Try.prog 92 8 .nilFunc := ⟨by kernel_rfl⟩
instance : TyV Go.Proofs.Try.prog 94 false 1 := ⟨by kernel_rfl, by kernel_rfl⟩
instance : TyZ Go.Proofs.Try.prog 94 8 .nilFunc := ⟨by kernel_rfl⟩
instance : TyV Go.Proofs.Try.prog 95 false 1 := ⟨by kernel_rfl, by kernel_rfl⟩
instance : TyZ Go.Proofs.Try.prog 95 8 .nilFunc := ⟨by kernel_rfl⟩
instance : TyV Go.Proofs.Try.prog 96 false 1 := ⟨by kernel_rfl, by kernel_rfl⟩
instance : TyZ Go.Proofs.Try.prog 96 8 .nilFunc := ⟨by kernel_rfl⟩
instance : TyV Go.Proofs.Try.prog 97 false 1 := ⟨by kernel_rfl, by kernel_rfl⟩
instance : TyZ Go.Proofs.Try.prog 97 8 .nilFunc := ⟨by kernel_rfl⟩
instance : TyV Go.Proofs.Try.prog 98 false 1 := ⟨by kernel_rfl, by kernel_rfl⟩
instance : TySl Go.Proofs.Try.prog 98 112 := ⟨by kernel_rfl⟩
instance : TyZ Go.Proofs.Try.prog 98 24 (.slice none 0 0) := ⟨by kernel_rfl⟩
instance : TyV Go.Proofs.Try.prog 99 false 1 := ⟨by kernel_rfl, by kernel_rfl⟩
instance : TyZ Go.Proofs.Try.prog 99 8 .nilFunc := ⟨by kernel_rfl⟩
instance : TyV Go.Proofs.Try.prog 100 false 1 := ⟨by kernel_rfl, by kernel_rfl⟩
instance : TyZ Go.Proofs.Try.prog 100 8 .nilFunc := ⟨by kernel_rfl⟩
instance : TyV Go.Proofs.Try.prog 101 false 1 := ⟨by kernel_rfl, by kernel_rfl⟩
instance : TyZ Go.Proofs.Try.prog 101 16 .nilIface := ⟨by kernel_rfl⟩
instance : TyV Go.Proofs.Try.prog 102 false 1 := ⟨by kernel_rfl, by kernel_rfl⟩
instance : TyZ Go.Proofs.Try.prog 102 16 .nilIface := ⟨by kernel_rfl⟩
instance : TyV Go.Proofs.Try.prog 103 false 1 := ⟨by kernel_rfl, by kernel_rfl⟩
instance : TyZ Go.Proofs.Try.prog 103 8 .nilFunc := ⟨by kernel_rfl⟩
instance : TyV Go.Proofs.Try.prog 104 false 1 := ⟨by kernel_rfl, by kernel_rfl⟩
instance : TyZ Go.Proofs.Try.prog 104 8 .nilFunc := ⟨by kernel_rfl⟩
instance : TyV Go.Proofs.Try.prog 105 false 1 := ⟨by kernel_rfl, by kernel_rfl⟩
instance : TyZ Go.Proofs.Try.prog 105 8 .nilFunc := ⟨by kernel_rfl⟩
instance : TyV Go.Proofs.Try.prog 106 false 1 := ⟨by kernel_rfl, by kernel_rfl⟩
instance : TyZ Go.Proofs.Try.prog 106 8 .nilFunc := ⟨by kernel_rfl⟩
instance : TyV Go.Proofs.Try.prog 107 false 1 := ⟨by kernel_rfl, by kernel_rfl⟩
instance : TyZ Go.Proofs.Try.prog 107 8 .nilFunc := ⟨by kernel_rfl⟩
instance : TyV Go.Proofs.Try.prog 108 false 1 := ⟨by kernel_rfl, by kernel_rfl⟩
instance : TyInt Go.Proofs.Try.prog 108 .i64 := ⟨by kernel_rfl⟩
instance : TyZ Go.Proofs.Try.prog 108 8 (.int .i64 0) := ⟨by kernel_rfl⟩
instance : TyV Go.Proofs.Try.prog 110 false 1 := ⟨by kernel_rfl, by kernel_rfl⟩
instance : TyZ Go.Proofs.Try.prog 110 8 .nilFunc := ⟨by kernel_rfl⟩
instance : TyV Go.Proofs.Try.prog 111 true 2 := ⟨by kernel_rfl, by kernel_rfl⟩
instance : TyPl Go.Proofs.Try.prog 111 [(0, 1), (1, 1)] := ⟨by kernel_rfl⟩
instance : TyFld Go.Proofs.Try.prog 111 0 0 0 false := ⟨by kernel_rfl⟩
instance : TyFld Go.Proofs.Try.prog 111 1 1 0 false := ⟨by kernel_rfl⟩
instance : TyZ Go.Proofs.Try.prog 111 32 (.agg #[(.bool false), (.slice none 0 0)]) := ⟨by kernel_rfl⟩
instance : TyV Go.Proofs.Try.prog 112 true 2 := ⟨by kernel_rfl, by kernel_rfl⟩
instance : TyPl Go.Proofs.Try.prog 112 [(0, 1), (1, 1)] := ⟨by kernel_rfl⟩
instance : TyFld Go.Proofs.Try.prog 112 0 0 0 false := ⟨by kernel_rfl⟩
instance : TyFld Go.Proofs.Try.prog 112 1 1 0 false := ⟨by kernel_rfl⟩
instance : TyZ Go.Proofs.Try.prog 112 32 (.agg #[(.bool false), (.slice none 0 0)]) := ⟨by kernel_rfl⟩
instance : TyV Go.Proofs.Try.prog 113 false 1 := ⟨by kernel_rfl, by kernel_rfl⟩
instance : TyZ Go.Proofs.Try.prog 113 8 .nilFunc := ⟨by kernel_rfl⟩
instance : TyV Go.Proofs.Try.prog 114 false 1 := ⟨by kernel_rfl, by kernel_rfl⟩
instance : TyZ Go.Proofs.Try.prog 114 8 .nilFunc := ⟨by kernel_rfl⟩
instance : TyV Go.Proofs.Try.prog 115 false 1 := ⟨by kernel_rfl, by kernel_rfl⟩
instance : TyZ Go.Proofs.Try.prog 115 8 .nilFunc := ⟨by kernel_rfl⟩
instance : TyV Go.Proofs.Try.prog 116 false 1 := ⟨by kernel_rfl, by kernel_rfl⟩
instance : TyZ Go.Proofs.Try.prog 116 8 .nilFunc := ⟨by kernel_rfl⟩
instance : TyV Go.Proofs.Try.prog 117 false 1 := ⟨by kernel_rfl, by kernel_rfl⟩
instance : TyZ Go.Proofs.Try.prog 117 8 .nilFunc := ⟨by kernel_rfl⟩
instance : TyV Go.Proofs.Try.prog 118 true 2 := ⟨by kernel_rfl, by kernel_rfl⟩
instance : TyPl Go.Proofs.Try.prog 118 [(0, 1), (1, 1)] := ⟨by kernel_rfl⟩
instance : TyEqI Go.Proofs.Try.prog 118 2 := ⟨by kernel_rfl, by kernel_rfl, by kernel_rfl⟩
instance : TyFld Go.Proofs.Try.prog 118 0 0 0 false := ⟨by kernel_rfl⟩
instance : TyFld Go.Proofs.Try.prog 118 1 1 0 false := ⟨by kernel_rfl⟩
instance : TyZ Go.Proofs.Try.prog 118 16 (.agg #[(.int .i64 0), (.int .i64 0)]) := ⟨by kernel_rfl⟩
instance : TyV Go.Proofs.Try.prog 119 true 2 := ⟨by kernel_rfl, by kernel_rfl⟩
instance : TyPl Go.Proofs.Try.prog 119 [(0, 1), (1, 1)] := ⟨by kernel_rfl⟩
instance : TyEqI Go.Proofs.Try.prog 119 2 := ⟨by kernel_rfl, by kernel_rfl, by kernel_rfl⟩
instance : TyFld Go.Proofs.Try.prog 119 0 0 0 false := ⟨by kernel_rfl⟩
instance : TyFld Go.Proofs.Try.prog 119 1 1 0 false := ⟨by kernel_rfl⟩
instance : TyZ Go.Proofs.Try.prog 119 16 (.agg #[(.int .i64 0), (.int .i64 0)]) := ⟨by kernel_rfl⟩
instance : TyV Go.Proofs.Try.prog 120 false 1 := ⟨by kernel_rfl, by kernel_rfl⟩
instance : TyZ Go.Proofs.Try.prog 120 8 .nilFunc := ⟨by kernel_rfl⟩
instance : TyV Go.Proofs.Try.prog 121 false 1 := ⟨by kernel_rfl, by kernel_rfl⟩
instance : TyZ Go.Proofs.Try.prog 121 8 .nilFunc := ⟨by kernel_rfl⟩
instance : TyV Go.Proofs.Try.prog 122 false 1 := ⟨by kernel_rfl, by kernel_rfl⟩
instance : TyZ Go.Proofs.Try.prog 122 8 .nilFunc := ⟨by kernel_rfl⟩
instance : TyV Go.Proofs.Try.prog 123 false 1 := ⟨by kernel_rfl, by kernel_rfl⟩
instance : TyZ Go.Proofs.Try.prog 123 8 .nilFunc := ⟨by kernel_rfl⟩
instance : TyV Go.Proofs.Try.prog 124 false 1 := ⟨by kernel_rfl, by kernel_rfl⟩
instance : TyInt Go.Proofs.Try.prog 124 .u64 := ⟨by kernel_rfl⟩
instance : TyZ Go.Proofs.Try.prog 124 8 (.int .u64 0) := ⟨by kernel_rfl⟩
instance : TyV Go.Proofs.Try.prog 126 false 1 := ⟨by kernel_rfl, by kernel_rfl⟩
instance : TyZ Go.Proofs.Try.prog 126 8 .nilFunc := ⟨by kernel_rfl⟩
instance : TyV Go.Proofs.Try.prog 127 false 1 := ⟨by kernel_rfl, by kernel_rfl⟩
instance : TyZ Go.Proofs.Try.prog 127 8 .nilFunc := ⟨by kernel_rfl⟩
instance : TyV Go.Proofs.Try.prog 128 true 1 := ⟨by kernel_rfl, by kernel_rfl⟩
instance : TyPl Go.Proofs.Try.prog 128 [(0, 1)] := ⟨by kernel_rfl⟩
instance : TyEqI Go.Proofs.Try.prog 128 1 := ⟨by kernel_rfl, by kernel_rfl, by kernel_rfl⟩
instance : TyFld Go.Proofs.Try.prog 128 0 0 0 false := ⟨by kernel_rfl⟩
instance : TyZ Go.Proofs.Try.prog 128 8 (.agg #[(.int .i64 0)]) := ⟨by kernel_rfl⟩
instance : TyV Go.Proofs.Try.prog 129 true 1 := ⟨by kernel_rfl, by kernel_rfl⟩
instance : TyPl Go.Proofs.Try.prog 129 [(0, 1)] := ⟨by kernel_rfl⟩
instance : TyEqI Go.Proofs.Try.prog 129 1 := ⟨by kernel_rfl, by kernel_rfl, by kernel_rfl⟩
instance : TyFld Go.Proofs.Try.prog 129 0 0 0 false := ⟨by kernel_rfl⟩
instance : TyZ Go.Proofs.Try.prog 129 8 (.agg #[(.int .i64 0)]) := ⟨by kernel_rfl⟩
instance : TyV Go.Proofs.Try.prog 130 true 2 := ⟨by kernel_rfl, by kernel_rfl⟩
instance : TyPl Go.Proofs.Try.prog 130 [(0, 1), (1, 1)] := ⟨by kernel_rfl⟩
instance : TyEqI Go.Proofs.Try.prog 130 2 := ⟨by kernel_rfl, by kernel_rfl, by kernel_rfl⟩
instance : TyFld Go.Proofs.Try.prog 130 0 0 0 false := ⟨by kernel_rfl⟩
instance : TyFld Go.Proofs.Try.prog 130 1 1 0 false := ⟨by kernel_rfl⟩
instance : TyZ Go.Proofs.Try.prog 130 16 (.agg #[(.int .i64 0), (.int .i64 0)]) := ⟨by kernel_rfl⟩
instance : TyV Go.Proofs.Try.prog 131 false 1 := ⟨by kernel_rfl, by kernel_rfl⟩
instance : TyZ Go.Proofs.Try.prog 131 8 .nilFunc := ⟨by kernel_rfl⟩
instance : TyV Go.Proofs.Try.prog 132 false 1 := ⟨by kernel_rfl, by kernel_rfl⟩
instance : TyZ Go.Proofs.Try.prog 132 8 .nilFunc := ⟨by kernel_rfl⟩
instance : TyV Go.Proofs.Try.prog 133 false 1 := ⟨by kernel_rfl, by kernel_rfl⟩
instance : TyZ Go.Proofs.Try.prog 133 8 .nilFunc := ⟨by kernel_rfl⟩
instance : TyV Go.Proofs.Try.prog 134 false 1 := ⟨by kernel_rfl, by kernel_rfl⟩
instance : TyZ Go.Proofs.Try.prog 134 8 .nilFunc := ⟨by kernel_rfl⟩
instance : TyV Go.Proofs.Try.prog 135 false 1 := ⟨by kernel_rfl, by kernel_rfl⟩
instance : TyZ Go.Proofs.Try.prog 135 8 .nilFunc := ⟨by kernel_rfl⟩
instance : TyV Go.Proofs.Try.prog 136 false 1 := ⟨by kernel_rfl, by kernel_rfl⟩
instance : TyZ Go.Proofs.Try.prog 136 8 .nilFunc := ⟨by kernel_rfl⟩
instance : TyV Go.Proofs.Try.prog 137 false 1 := ⟨by kernel_rfl, by kernel_rfl⟩
instance : TyZ Go.Proofs.Try.prog 137 8 .nilFunc := ⟨by kernel_rfl⟩
instance : TyV Go.Proofs.Try.prog 138 false 1 := ⟨by kernel_rfl, by kernel_rfl⟩
instance : TyZ Go.Proofs.Try.prog 138 8 .nilFunc := ⟨by kernel_rfl⟩
instance : TyV Go.Proofs.Try.prog 139 false 1 := ⟨by kernel_rfl, by kernel_rfl⟩
instance : TyZ Go.Proofs.Try.prog 139 8 .nilFunc := ⟨by kernel_rfl⟩
instance : TyV Go.Proofs.Try.prog 140 false 1 := ⟨by kernel_rfl, by kernel_rfl⟩
instance : TyZ Go.Proofs.Try.prog 140 8 .nilFunc := ⟨by kernel_rfl⟩
instance : TyV Go.Proofs.Try.prog 141 false 1 := ⟨by kernel_rfl, by kernel_rfl⟩
instance : TyInt Go.Proofs.Try.prog 141 .u32 := ⟨by kernel_rfl⟩
instance : TyZ Go.Proofs.Try.prog 141 4 (.int .u32 0) := ⟨by kernel_rfl⟩
instance : TyV Go.Proofs.Try.prog 143 false 1 := ⟨by kernel_rfl, by kernel_rfl⟩
instance : TyZ Go.Proofs.Try.prog 143 8 .nilFunc := ⟨by kernel_rfl⟩
instance : TyV Go.Proofs.Try.prog 144 false 1 := ⟨by kernel_rfl, by kernel_rfl⟩
instance : TyInt Go.Proofs.Try.prog 144 .u64 := ⟨by kernel_rfl⟩
instance : TyZ Go.Proofs.Try.prog 144 8 (.int .u64 0) := ⟨by kernel_rfl⟩
instance : TyV Go.Proofs.Try.prog 146 false 1 := ⟨by kernel_rfl, by kernel_rfl⟩
instance : TyZ Go.Proofs.Try.prog 146 8 .nilFunc := ⟨by kernel_rfl⟩
instance : TyV Go.Proofs.Try.prog 147 false 1 := ⟨by kernel_rfl, by kernel_rfl⟩
instance : TyZ Go.Proofs.Try.prog 147 8 .nilFunc := ⟨by kernel_rfl⟩
instance : TyV Go.Proofs.Try.prog 148 false 1 := ⟨by kernel_rfl, by kernel_rfl⟩
instance : TyZ Go.Proofs.Try.prog 148 8 .nilFunc := ⟨by kernel_rfl⟩
instance : TyV Go.Proofs.Try.prog 149 true 4 := ⟨by kernel_rfl, by kernel_rfl⟩
instance : TyPl Go.Proofs.Try.prog 149 [(0, 1), (1, 1), (2, 1), (3, 1)] := ⟨by kernel_rfl⟩
instance : TyFld Go.Proofs.Try.prog 149 0 0 0 false := ⟨by kernel_rfl⟩
instance : TyFld Go.Proofs.Try.prog 149 1 1 0 false := ⟨by kernel_rfl⟩
instance : TyFld Go.Proofs.Try.prog 149 2 2 0 false := ⟨by kernel_rfl⟩
instance : TyFld Go.Proofs.Try.prog 149 3 3 0 false := ⟨by kernel_rfl⟩
instance : TyV Go.Proofs.Try.prog 150 true 4 := ⟨by kernel_rfl, by kernel_rfl⟩
instance : TyPl Go.Proofs.Try.prog 150 [(0, 1), (1, 1), (2, 1), (3, 1)] := ⟨by kernel_rfl⟩
instance : TyFld Go.Proofs.Try.prog 150 0 0 0 false := ⟨by kernel_rfl⟩
instance : TyFld Go.Proofs.Try.prog 150 1 1 0 false := ⟨by kernel_rfl⟩
instance : TyFld Go.Proofs.Try.prog 150 2 2 0 false := ⟨by kernel_rfl⟩
instance : TyFld Go.Proofs.Try.prog 150 3 3 0 false := ⟨by kernel_rfl⟩
instance : TyV Go.Proofs.Try.prog 151 true 0 := ⟨by kernel_rfl, by kernel_rfl⟩
instance : TyZ Go.Proofs.Try.prog 151 0 (.agg #[]) := ⟨by kernel_rfl⟩
instance : TyV Go.Proofs.Try.prog 152 true 0 := ⟨by kernel_rfl, by kernel_rfl⟩
instance : TyPl Go.Proofs.Try.prog 152 [(0, 0)] := ⟨by kernel_rfl⟩
instance : TyZ Go.Proofs.Try.prog 152 0 (.agg #[]) := ⟨by kernel_rfl⟩
instance : TyV Go.Proofs.Try.prog 153 true 0 := ⟨by kernel_rfl, by kernel_rfl⟩
instance : TyPl Go.Proofs.Try.prog 153 [(0, 0)] := ⟨by kernel_rfl⟩
instance : TyZ Go.Proofs.Try.prog 153 0 (.agg #[]) := ⟨by kernel_rfl⟩
instance : TyV Go.Proofs.Try.prog 154 false 1 := ⟨by kernel_rfl, by kernel_rfl⟩
instance : TyZ Go.Proofs.Try.prog 154 8 .nilFunc := ⟨by kernel_rfl⟩
instance : TyV Go.Proofs.Try.prog 155 false 1 := ⟨by kernel_rfl, by kernel_rfl⟩
instance : TyInt Go.Proofs.Try.prog 155 .u8 := ⟨by kernel_rfl⟩
instance : TyZ Go.Proofs.Try.prog 155 1 (.int .u8 0) := ⟨by kernel_rfl⟩
instance : TyV Go.Proofs.Try.prog 156 false 1 := ⟨by kernel_rfl, by kernel_rfl⟩
instance : TyInt Go.Proofs.Try.prog 156 .u8 := ⟨by kernel_rfl⟩
instance : TyZ Go.Proofs.Try.prog 156 1 (.int .u8 0) := ⟨by kernel_rfl⟩
instance : TyV Go.Proofs.Try.prog 157 false 1 := ⟨by kernel_rfl, by kernel_rfl⟩
instance : TyZ Go.Proofs.Try.prog 157 8 .nilFunc := ⟨by kernel_rfl⟩
instance : TyV Go.Proofs.Try.prog 158 false 1 := ⟨by kernel_rfl, by kernel_rfl⟩
instance : TyZ Go.Proofs.Try.prog 158 8 (.pointer none) := ⟨by kernel_rfl⟩
instance : TyV Go.Proofs.Try.prog 159 false 1 := ⟨by kernel_rfl, by kernel_rfl⟩
instance : TyInt Go.Proofs.Try.prog 159 .i32 := ⟨by kernel_rfl⟩
instance : TyZ Go.Proofs.Try.prog 159 4 (.int .i32 0) := ⟨by kernel_rfl⟩
instance : TyV Go.Proofs.Try.prog 160 false 1 := ⟨by kernel_rfl, by kernel_rfl⟩
instance : TyInt Go.Proofs.Try.prog 160 .i32 := ⟨by kernel_rfl⟩
instance : TyZ Go.Proofs.Try.prog 160 4 (.int .i32 0) := ⟨by kernel_rfl⟩
instance : TyV Go.Proofs.Try.prog 161 true 11 := ⟨by kernel_rfl, by kernel_rfl⟩
instance : TyPl Go.Proofs.Try.prog 161 [(0, 1), (1, 1), (2, 1), (3, 1), (4, 1), (5, 1), (6, 1), (7, 1), (8, 1), (9, 1), (10, 1)] := ⟨by kernel_rfl⟩
instance : TyFld Go.Proofs.Try.prog 161 0 0 0 false := ⟨by kernel_rfl⟩
instance : TyFld Go.Proofs.Try.prog 161 1 1 0 false := ⟨by kernel_rfl⟩
instance : TyFld Go.Proofs.Try.prog 161 2 2 0 false := ⟨by kernel_rfl⟩
instance : TyFld Go.Proofs.Try.prog 161 3 3 0 false := ⟨by kernel_rfl⟩
instance : TyFld Go.Proofs.Try.prog 161 4 4 0 false := ⟨by kernel_rfl⟩
instance : TyFld Go.Proofs.Try.prog 161 5 5 0 false := ⟨by kernel_rfl⟩
instance : TyFld Go.Proofs.Try.prog 161 6 6 0 false := ⟨by kernel_rfl⟩
instance : TyFld Go.Proofs.Try.prog 161 7 7 0 false := ⟨by kernel_rfl⟩
instance : TyFld Go.Proofs.Try.prog 161 8 8 0 false := ⟨by kernel_rfl⟩
instance : TyFld Go.Proofs.Try.prog 161 9 9 0 false := ⟨by kernel_rfl⟩
instance : TyFld Go.Proofs.Try.prog 161 10 10 0 false := ⟨by kernel_rfl⟩
instance : TyZ Go.Proofs.Try.prog 161 48 (.agg #[(.int .u64 0), (.int .u64 0), (.int .u32 0), (.int .u8 0), (.int .u8 0), (.int .u8 0), (.int .u8 0), .nilFunc, (.pointer none), (.int .i32 0), (.int .i32 0)]) := ⟨by kernel_rfl⟩
instance : TyV Go.Proofs.Try.prog 162 true 11 := ⟨by kernel_rfl, by kernel_rfl⟩
instance : TyPl Go.Proofs.Try.prog 162 [(0, 1), (1, 1), (2, 1), (3, 1), (4, 1), (5, 1), (6, 1), (7, 1), (8, 1), (9, 1), (10, 1)] := ⟨by kernel_rfl⟩
instance : TyFld Go.Proofs.Try.prog 162 0 0 0 false := ⟨by kernel_rfl⟩
instance : TyFld Go.Proofs.Try.prog 162 1 1 0 false := ⟨by kernel_rfl⟩
instance : TyFld Go.Proofs.Try.prog 162 2 2 0 false := ⟨by kernel_rfl⟩
instance : TyFld Go.Proofs.Try.prog 162 3 3 0 false := ⟨by kernel_rfl⟩
instance : TyFld Go.Proofs.Try.prog 162 4 4 0 false := ⟨by kernel_rfl⟩
instance : TyFld Go.Proofs.Try.prog 162 5 5 0 false := ⟨by kernel_rfl⟩
instance : TyFld Go.Proofs.Try.prog 162 6 6 0 false := ⟨by kernel_rfl⟩
instance : TyFld Go.Proofs.Try.prog 162 7 7 0 false := ⟨by kernel_rfl⟩
instance : TyFld Go.Proofs.Try.prog 162 8 8 0 false := ⟨by kernel_rfl⟩
instance : TyFld Go.Proofs.Try.prog 162 9 9 0 false := ⟨by kernel_rfl⟩
instance : TyFld Go.Proofs.Try.prog 162 10 10 0 false := ⟨by kernel_rfl⟩
instance : TyZ Go.Proofs.Try.prog 162 48 (.agg #[(.int .u64 0), (.int .u64 0), (.int .u32 0), (.int .u8 0), (.int .u8 0), (.int .u8 0), (.int .u8 0), .nilFunc, (.pointer none), (.int .i32 0), (.int .i32 0)]) := ⟨by kernel_rfl⟩
instance : TyV Go.Proofs.Try.prog 163 false 1 := ⟨by kernel_rfl, by kernel_rfl⟩
instance : TyZ Go.Proofs.Try.prog 163 8 .nilFunc := ⟨by kernel_rfl⟩
instance : TyV Go.Proofs.Try.prog 164 false 1 := ⟨by kernel_rfl, by kernel_rfl⟩
instance : TyZ Go.Proofs.Try.prog 164 8 .nilFunc := ⟨by kernel_rfl⟩
instance : TyV Go.Proofs.Try.prog 166 false 1 := ⟨by kernel_rfl, by kernel_rfl⟩
instance : TyZ Go.Proofs.Try.prog 166 8 .nilFunc := ⟨by kernel_rfl⟩
instance : TyV Go.Proofs.Try.prog 167 false 1 := ⟨by kernel_rfl, by kernel_rfl⟩
instance : TyZ Go.Proofs.Try.prog 167 8 .nilFunc := ⟨by kernel_rfl⟩
instance : TyV Go.Proofs.Try.prog 168 false 1 := ⟨by kernel_rfl, by kernel_rfl⟩
instance : TyZ Go.Proofs.Try.prog 168 8 .nilFunc := ⟨by kernel_rfl⟩
instance : TyV Go.Proofs.Try.prog 169 false 1 := ⟨by kernel_rfl, by kernel_rfl⟩
instance : TyZ Go.Proofs.Try.prog 169 8 (.pointer none) := ⟨by kernel_rfl⟩
instance : TyV Go.Proofs.Try.prog 170 true 2 := ⟨by kernel_rfl, by kernel_rfl⟩
instance : TyPl Go.Proofs.Try.prog 170 [(0, 1), (1, 1)] := ⟨by kernel_rfl⟩
instance : TyFld Go.Proofs.Try.prog 170 0 0 0 false := ⟨by kernel_rfl⟩
instance : TyFld Go.Proofs.Try.prog 170 1 1 0 false := ⟨by kernel_rfl⟩
instance : TyZ Go.Proofs.Try.prog 170 32 (.agg #[(.slice none 0 0), (.int .i64 0)]) := ⟨by kernel_rfl⟩
instance : TyV Go.Proofs.Try.prog 171 true 2 := ⟨by kernel_rfl, by kernel_rfl⟩
instance : TyPl Go.Proofs.Try.prog 171 [(0, 1), (1, 1)] := ⟨by kernel_rfl⟩
instance : TyFld Go.Proofs.Try.prog 171 0 0 0 false := ⟨by kernel_rfl⟩
instance : TyFld Go.Proofs.Try.prog 171 1 1 0 false := ⟨by kernel_rfl⟩
instance : TyZ Go.Proofs.Try.prog 171 32 (.agg #[(.slice none 0 0), (.int .i64 0)]) := ⟨by kernel_rfl⟩
instance : TyV Go.Proofs.Try.prog 172 true 3 := ⟨by kernel_rfl, by kernel_rfl⟩
instance : TyPl Go.Proofs.Try.prog 172 [(0, 2), (2, 1)] := ⟨by kernel_rfl⟩
instance : TyFld Go.Proofs.Try.prog 172 0 0 1 true := ⟨by kernel_rfl⟩
instance : TyFld Go.Proofs.Try.prog 172 1 2 0 false := ⟨by kernel_rfl⟩
instance : TyZ Go.Proofs.Try.prog 172 56 (.agg #[(.slice none 0 0), (.int .i64 0), (.slice none 0 0)]) := ⟨by kernel_rfl⟩
instance : TyV Go.Proofs.Try.prog 173 true 3 := ⟨by kernel_rfl, by kernel_rfl⟩
instance : TyPl Go.Proofs.Try.prog 173 [(0, 2), (2, 1)] := ⟨by kernel_rfl⟩
instance : TyFld Go.Proofs.Try.prog 173 0 0 1 true := ⟨by kernel_rfl⟩
instance : TyFld Go.Proofs.Try.prog 173 1 2 0 false := ⟨by kernel_rfl⟩
instance : TyZ Go.Proofs.Try.prog 173 56 (.agg #[(.slice none 0 0), (.int .i64 0), (.slice none 0 0)]) := ⟨by kernel_rfl⟩
instance : TyV Go.Proofs.Try.prog 174 false 1 := ⟨by kernel_rfl, by kernel_rfl⟩
instance : TyZ Go.Proofs.Try.prog 174 8 .nilFunc := ⟨by kernel_rfl⟩
instance : TyV Go.Proofs.Try.prog 175 false 1 := ⟨by kernel_rfl, by kernel_rfl⟩
instance : TyZ Go.Proofs.Try.prog 175 8 .nilFunc := ⟨by kernel_rfl⟩
instance : TyV Go.Proofs.Try.prog 176 false 1 := ⟨by kernel_rfl, by kernel_rfl⟩
instance : TyZ Go.Proofs.Try.prog 176 8 .nilFunc := ⟨by kernel_rfl⟩
instance : TyV Go.Proofs.Try.prog 177 false 1 := ⟨by kernel_rfl, by kernel_rfl⟩
instance : TyZ Go.Proofs.Try.prog 177 8 .nilFunc := ⟨by kernel_rfl⟩
instance : TyV Go.Proofs.Try.prog 178 false 1 := ⟨by kernel_rfl, by kernel_rfl⟩
instance : TyZ Go.Proofs.Try.prog 178 8 .nilFunc := ⟨by kernel_rfl⟩
instance : TyV Go.Proofs.Try.prog 179 false 1 := ⟨by kernel_rfl, by kernel_rfl⟩
instance : TyZ Go.Proofs.Try.prog 179 8 .nilFunc := ⟨by kernel_rfl⟩
instance : TyV Go.Proofs.Try.prog 180 false 1 := ⟨by kernel_rfl, by kernel_rfl⟩
instance : TyZ Go.Proofs.Try.prog 180 8 (.pointer none) := ⟨by kernel_rfl⟩
instance : TyV Go.Proofs.Try.prog 181 false 1 := ⟨by kernel_rfl, by kernel_rfl⟩
instance : TyZ Go.Proofs.Try.prog 181 8 .nilFunc := ⟨by kernel_rfl⟩
instance : TyV Go.Proofs.Try.prog 182 false 1 := ⟨by kernel_rfl, by kernel_rfl⟩
instance : TyZ Go.Proofs.Try.prog 182 8 .nilFunc := ⟨by kernel_rfl⟩
instance : TyV Go.Proofs.Try.prog 183 false 1 := ⟨by kernel_rfl, by kernel_rfl⟩
instance : TyZ Go.Proofs.Try.prog 183 8 .nilFunc := ⟨by kernel_rfl⟩
instance : TyV Go.Proofs.Try.prog 184 false 1 := ⟨by kernel_rfl, by kernel_rfl⟩
instance : TyZ Go.Proofs.Try.prog 184 8 .nilFunc := ⟨by kernel_rfl⟩
instance : TyV Go.Proofs.Try.prog 185 false 1 := ⟨by kernel_rfl, by kernel_rfl⟩
instance : TyZ Go.Proofs.Try.prog 185 8 .nilFunc := ⟨by kernel_rfl⟩
instance : TyV Go.Proofs.Try.prog 186 false 1 := ⟨by kernel_rfl, by kernel_rfl⟩
instance : TyZ Go.Proofs.Try.prog 186 8 .nilFunc := ⟨by kernel_rfl⟩
instance : TyV Go.Proofs.Try.prog 187 false 1 := ⟨by kernel_rfl, by kernel_rfl⟩
instance : TyZ Go.Proofs.Try.prog 187 8 .nilFunc := ⟨by kernel_rfl⟩
instance : TyV Go.Proofs.Try.prog 188 false 1 := ⟨by kernel_rfl, by kernel_rfl⟩
instance : TyZ Go.Proofs.Try.prog 188 8 .nilFunc := ⟨by kernel_rfl⟩
instance : TyV Go.Proofs.Try.prog 189 false 1 := ⟨by kernel_rfl, by kernel_rfl⟩
instance : TyZ Go.Proofs.Try.prog 189 8 .nilFunc := ⟨by kernel_rfl⟩
instance : TyV Go.Proofs.Try.prog 190 false 1 := ⟨by kernel_rfl, by kernel_rfl⟩
instance : TySl Go.Proofs.Try.prog 190 194 := ⟨by kernel_rfl⟩
instance : TyZ Go.Proofs.Try.prog 190 24 (.slice none 0 0) := ⟨by kernel_rfl⟩
instance : TyV Go.Proofs.Try.prog 192 false 1 := ⟨by kernel_rfl, by kernel_rfl⟩
instance : TyZ Go.Proofs.Try.prog 192 8 .nilFunc := ⟨by kernel_rfl⟩
instance : TyV Go.Proofs.Try.prog 193 true 2 := ⟨by kernel_rfl, by kernel_rfl⟩
instance : TyPl Go.Proofs.Try.prog 193 [(0, 1), (1, 1)] := ⟨by kernel_rfl⟩
instance : TyEqI Go.Proofs.Try.prog 193 2 := ⟨by kernel_rfl, by kernel_rfl, by kernel_rfl⟩
instance : TyFld Go.Proofs.Try.prog 193 0 0 0 false := ⟨by kernel_rfl⟩
instance : TyFld Go.Proofs.Try.prog 193 1 1 0 false := ⟨by kernel_rfl⟩
instance : TyZ Go.Proofs.Try.prog 193 16 (.agg #[(.int .i64 0), (.int .i64 0)]) := ⟨by kernel_rfl⟩
instance : TyV Go.Proofs.Try.prog 194 true 2 := ⟨by kernel_rfl, by kernel_rfl⟩
instance : TyPl Go.Proofs.Try.prog 194 [(0, 1), (1, 1)] := ⟨by kernel_rfl⟩
instance : TyEqI Go.Proofs.Try.prog 194 2 := ⟨by kernel_rfl, by kernel_rfl, by kernel_rfl⟩
instance : TyFld Go.Proofs.Try.prog 194 0 0 0 false := ⟨by kernel_rfl⟩
instance : TyFld Go.Proofs.Try.prog 194 1 1 0 false := ⟨by kernel_rfl⟩
instance : TyZ Go.Proofs.Try.prog 194 16 (.agg #[(.int .i64 0), (.int .i64 0)]) := ⟨by kernel_rfl⟩
instance : TyV Go.Proofs.Try.prog 195 false 1 := ⟨by kernel_rfl, by kernel_rfl⟩
instance : TyZ Go.Proofs.Try.prog 195 8 .nilFunc := ⟨by kernel_rfl⟩
instance : TyV Go.Proofs.Try.prog 196 false 1 := ⟨by kernel_rfl, by kernel_rfl⟩
instance : TyZ Go.Proofs.Try.prog 196 8 .nilFunc := ⟨by kernel_rfl⟩
instance : TyV Go.Proofs.Try.prog 197 false 1 := ⟨by kernel_rfl, by kernel_rfl⟩
instance : TyZ Go.Proofs.Try.prog 197 8 (.pointer none) := ⟨by kernel_rfl⟩
instance : TyV Go.Proofs.Try.prog 198 true 2 := ⟨by kernel_rfl, by kernel_rfl⟩
instance : TyPl Go.Proofs.Try.prog 198 [(0, 1), (1, 1)] := ⟨by kernel_rfl⟩
instance : TyFld Go.Proofs.Try.prog 198 0 0 0 false := ⟨by kernel_rfl⟩
instance : TyFld Go.Proofs.Try.prog 198 1 1 0 false := ⟨by kernel_rfl⟩
instance : TyZ Go.Proofs.Try.prog 198 48 (.agg #[(.slice none 0 0), (.slice none 0 0)]) := ⟨by kernel_rfl⟩
instance : TyV Go.Proofs.Try.prog 199 true 2 := ⟨by kernel_rfl, by kernel_rfl⟩
instance : TyPl Go.Proofs.Try.prog 199 [(0, 1), (1, 1)] := ⟨by kernel_rfl⟩
instance : TyFld Go.Proofs.Try.prog 199 0 0 0 false := ⟨by kernel_rfl⟩
instance : TyFld Go.Proofs.Try.prog 199 1 1 0 false := ⟨by kernel_rfl⟩
instance : TyZ Go.Proofs.Try.prog 199 48 (.agg #[(.slice none 0 0), (.slice none 0 0)]) := ⟨by kernel_rfl⟩
instance : TyFn Go.Proofs.Try.prog 3 := ⟨by kernel_rfl⟩ -- privatefetch/privatefetchlaw23.SchemeShapes
instance : TyFn Go.Proofs.Try.prog 4 := ⟨by kernel_rfl⟩ -- privatefetch/privatefetchlaw32.ReaderSends
instance : TyFn Go.Proofs.Try.prog 5 := ⟨by kernel_rfl⟩ -- privatefetch/privatefetchlaw24.WishEven
instance : TyFn Go.Proofs.Try.prog 6 := ⟨by kernel_rfl⟩ -- privatefetch/privatefetchlaw24.WishDummy
instance : TyFn Go.Proofs.Try.prog 7 := ⟨by kernel_rfl⟩ -- privatefetch/privatefetchlaw24.WishOneByOne
instance : TyFn Go.Proofs.Try.prog 8 := ⟨by kernel_rfl⟩ -- privatefetch/privatefetchlaw23.SchemeEven
instance : TyFn Go.Proofs.Try.prog 9 := ⟨by kernel_rfl⟩ -- privatefetch/privatefetchlaw23.sane
instance : TyFn Go.Proofs.Try.prog 10 := ⟨by kernel_rfl⟩ -- privatefetch/privatefetchplay.New
instance : TyFn Go.Proofs.Try.prog 11 := ⟨by kernel_rfl⟩ -- (*privatefetch/privatefetchplay.Dice).Odd
instance : TyFn Go.Proofs.Try.prog 12 := ⟨by kernel_rfl⟩ -- (*privatefetch/privatefetchplay.Dice).Scheme
instance : TyFn Go.Proofs.Try.prog 13 := ⟨by kernel_rfl⟩ -- privatefetch/scheme.Shape
instance : TyFn Go.Proofs.Try.prog 14 := ⟨by kernel_rfl⟩ -- privatefetch/privatefetchref23.Shape
instance : TyFn Go.Proofs.Try.prog 15 := ⟨by kernel_rfl⟩ -- privatefetch/scheme.Threshold
instance : TyFn Go.Proofs.Try.prog 16 := ⟨by kernel_rfl⟩ -- privatefetch/privatefetchref23.Threshold
instance : TyFn Go.Proofs.Try.prog 17 := ⟨by kernel_rfl⟩ -- privatefetch/scheme.Need
instance : TyFn Go.Proofs.Try.prog 18 := ⟨by kernel_rfl⟩ -- privatefetch/privatefetchref23.Need
instance : TyFn Go.Proofs.Try.prog 19 := ⟨by kernel_rfl⟩ -- privatefetch/scheme.Valid
instance : TyFn Go.Proofs.Try.prog 20 := ⟨by kernel_rfl⟩ -- privatefetch/privatefetchref23.Valid
instance : TyFn Go.Proofs.Try.prog 21 := ⟨by kernel_rfl⟩ -- (*privatefetch/privatefetchplay.Dice).Pick
instance : TyFn Go.Proofs.Try.prog 22 := ⟨by kernel_rfl⟩ -- privatefetch/scheme.Bears
instance : TyFn Go.Proofs.Try.prog 23 := ⟨by kernel_rfl⟩ -- privatefetch/privatefetchref23.Bears
instance : TyFn Go.Proofs.Try.prog 24 := ⟨by kernel_rfl⟩ -- privatefetch/scheme.Units
instance : TyFn Go.Proofs.Try.prog 25 := ⟨by kernel_rfl⟩ -- privatefetch/privatefetchref23.Units
instance : TyFn Go.Proofs.Try.prog 26 := ⟨by kernel_rfl⟩ -- privatefetch/privatefetchlaw32.sane
instance : TyFn Go.Proofs.Try.prog 27 := ⟨by kernel_rfl⟩ -- (*privatefetch/privatefetchplay.Dice).Table
instance : TyFn Go.Proofs.Try.prog 28 := ⟨by kernel_rfl⟩ -- (*privatefetch/privatefetchplay.Dice).Field
instance : TyFn Go.Proofs.Try.prog 29 := ⟨by kernel_rfl⟩ -- privatefetch/privatefetchref14.Head
instance : TyFn Go.Proofs.Try.prog 30 := ⟨by kernel_rfl⟩ -- (*privatefetch/privatefetchplay.Dice).Wish
instance : TyFn Go.Proofs.Try.prog 31 := ⟨by kernel_rfl⟩ -- privatefetch/privatefetchref24.Limits
instance : TyFn Go.Proofs.Try.prog 32 := ⟨by kernel_rfl⟩ -- (*privatefetch/privatefetchplay.Dice).Tape
instance : TyFn Go.Proofs.Try.prog 33 := ⟨by kernel_rfl⟩ -- privatefetch/reader.Begin
instance : TyFn Go.Proofs.Try.prog 34 := ⟨by kernel_rfl⟩ -- privatefetch/reader.Notes
instance : TyFn Go.Proofs.Try.prog 35 := ⟨by kernel_rfl⟩ -- privatefetch/privatefetchlaw24.sane
instance : TyFn Go.Proofs.Try.prog 36 := ⟨by kernel_rfl⟩ -- privatefetch/wish.Pad
instance : TyFn Go.Proofs.Try.prog 37 := ⟨by kernel_rfl⟩ -- privatefetch/wish.Limits
instance : TyFn Go.Proofs.Try.prog 38 := ⟨by kernel_rfl⟩ -- privatefetch/wish.Queries
instance : TyFn Go.Proofs.Try.prog 39 := ⟨by kernel_rfl⟩ -- privatefetch/privatefetchref24.SameQueries
instance : TyFn Go.Proofs.Try.prog 40 := ⟨by kernel_rfl⟩ -- privatefetch/privatefetchref24.SameRows
instance : TyFn Go.Proofs.Try.prog 41 := ⟨by kernel_rfl⟩ -- privatefetch/privatefetchref02.Same
instance : TyFn Go.Proofs.Try.prog 42 := ⟨by kernel_rfl⟩ -- privatefetch/scheme.Limits
instance : TyFn Go.Proofs.Try.prog 43 := ⟨by kernel_rfl⟩ -- privatefetch/scheme.Queries
instance : TyFn Go.Proofs.Try.prog 44 := ⟨by kernel_rfl⟩ -- privatefetch/scheme.Hold
instance : TyFn Go.Proofs.Try.prog 45 := ⟨by kernel_rfl⟩ -- privatefetch/scheme.within
instance : TyFn Go.Proofs.Try.prog 46 := ⟨by kernel_rfl⟩ -- privatefetch/field.Check
instance : TyFn Go.Proofs.Try.prog 47 := ⟨by kernel_rfl⟩ -- privatefetch/privatefetchref03.Check
instance : TyFn Go.Proofs.Try.prog 48 := ⟨by kernel_rfl⟩ -- privatefetch/scheme.storage
instance : TyFn Go.Proofs.Try.prog 49 := ⟨by kernel_rfl⟩ -- (privatefetch/scheme.groups).units
instance : TyFn Go.Proofs.Try.prog 50 := ⟨by kernel_rfl⟩ -- privatefetch/reader.Silent
instance : TyFn Go.Proofs.Try.prog 51 := ⟨by kernel_rfl⟩ -- (*privatefetch/privatefetchplay.Dice).Rows
instance : TyFn Go.Proofs.Try.prog 52 := ⟨by kernel_rfl⟩ -- privatefetch/privatefetchref14.Digests
instance : TyFn Go.Proofs.Try.prog 53 := ⟨by kernel_rfl⟩ -- privatefetch/privatefetchref12.Root
instance : TyFn Go.Proofs.Try.prog 54 := ⟨by kernel_rfl⟩ -- privatefetch/privatefetchref23.Limits
instance : TyFn Go.Proofs.Try.prog 55 := ⟨by kernel_rfl⟩ -- privatefetch/reader.fieldOf
instance : TyFn Go.Proofs.Try.prog 56 := ⟨by kernel_rfl⟩ -- privatefetch/wish.Valid
instance : TyFn Go.Proofs.Try.prog 57 := ⟨by kernel_rfl⟩ -- slices.Clone[[]int,int]
instance : TyFn Go.Proofs.Try.prog 58 := ⟨by kernel_rfl⟩ -- privatefetch/wish.within
instance : TyFn Go.Proofs.Try.prog 59 := ⟨by kernel_rfl⟩ -- slices.Repeat[[]int,int]
instance : TyFn Go.Proofs.Try.prog 60 := ⟨by kernel_rfl⟩ -- privatefetch/privatefetchref23.SameRows
instance : TyFn Go.Proofs.Try.prog 61 := ⟨by kernel_rfl⟩ -- privatefetch/scheme.look
instance : TyFn Go.Proofs.Try.prog 62 := ⟨by kernel_rfl⟩ -- privatefetch/scheme.kindOf
instance : TyFn Go.Proofs.Try.prog 63 := ⟨by kernel_rfl⟩ -- privatefetch/table.Check
instance : TyFn Go.Proofs.Try.prog 64 := ⟨by kernel_rfl⟩ -- privatefetch/coded.Hold
instance : TyFn Go.Proofs.Try.prog 65 := ⟨by kernel_rfl⟩ -- privatefetch/residue.Of
instance : TyFn Go.Proofs.Try.prog 66 := ⟨by kernel_rfl⟩ -- (*privatefetch/privatefetchplay.Dice).Elements
instance : TyFn Go.Proofs.Try.prog 67 := ⟨by kernel_rfl⟩ -- privatefetch/privatefetchref14.Check
instance : TyFn Go.Proofs.Try.prog 68 := ⟨by kernel_rfl⟩ -- privatefetch/privatefetchref11.Row
instance : TyFn Go.Proofs.Try.prog 69 := ⟨by kernel_rfl⟩ -- privatefetch/privatefetchref12.list
instance : TyFn Go.Proofs.Try.prog 70 := ⟨by kernel_rfl⟩ -- privatefetch/privatefetchref12.up
instance : TyFn Go.Proofs.Try.prog 71 := ⟨by kernel_rfl⟩ -- privatefetch/privatefetchref16.Limits
instance : TyFn Go.Proofs.Try.prog 72 := ⟨by kernel_rfl⟩ -- privatefetch/privatefetchref17.Limits
instance : TyFn Go.Proofs.Try.prog 73 := ⟨by kernel_rfl⟩ -- privatefetch/privatefetchref23.plan
instance : TyFn Go.Proofs.Try.prog 74 := ⟨by kernel_rfl⟩ -- privatefetch/privatefetchref18.Limits
instance : TyFn Go.Proofs.Try.prog 75 := ⟨by kernel_rfl⟩ -- privatefetch/privatefetchref23.storage
instance : TyFn Go.Proofs.Try.prog 76 := ⟨by kernel_rfl⟩ -- slices.ContainsFunc[[]int,int]
instance : TyFn Go.Proofs.Try.prog 77 := ⟨by kernel_rfl⟩ -- privatefetch/wish.Valid$1
instance : TyFn Go.Proofs.Try.prog 78 := ⟨by kernel_rfl⟩ -- math/bits.Mul
instance : TyFn Go.Proofs.Try.prog 79 := ⟨by kernel_rfl⟩ -- privatefetch/privatefetchref23.Ints
instance : TyFn Go.Proofs.Try.prog 80 := ⟨by kernel_rfl⟩ -- (privatefetch/residue.Field).All
instance : TyFn Go.Proofs.Try.prog 81 := ⟨by kernel_rfl⟩ -- privatefetch/coded.Check
instance : TyFn Go.Proofs.Try.prog 82 := ⟨by kernel_rfl⟩ -- privatefetch/coded.wide
instance : TyFn Go.Proofs.Try.prog 83 := ⟨by kernel_rfl⟩ -- privatefetch/coded.groups
instance : TyFn Go.Proofs.Try.prog 84 := ⟨by kernel_rfl⟩ -- (privatefetch/residue.Field).AddTimes
instance : TyFn Go.Proofs.Try.prog 85 := ⟨by kernel_rfl⟩ -- (privatefetch/residue.Field).Power
instance : TyFn Go.Proofs.Try.prog 86 := ⟨by kernel_rfl⟩ -- privatefetch/privatefetchref03.In
instance : TyFn Go.Proofs.Try.prog 87 := ⟨by kernel_rfl⟩ -- privatefetch/privatefetchref11.mod
instance : TyFn Go.Proofs.Try.prog 88 := ⟨by kernel_rfl⟩ -- privatefetch/privatefetchref11.Node
instance : TyFn Go.Proofs.Try.prog 89 := ⟨by kernel_rfl⟩ -- privatefetch/privatefetchref17.Check
instance : TyFn Go.Proofs.Try.prog 90 := ⟨by kernel_rfl⟩ -- privatefetch/privatefetchref18.Check
instance : TyFn Go.Proofs.Try.prog 91 := ⟨by kernel_rfl⟩ -- slices.IndexFunc[[]int,int]
instance : TyFn Go.Proofs.Try.prog 92 := ⟨by kernel_rfl⟩ -- math/bits.Mul32
instance : TyFn Go.Proofs.Try.prog 93 := ⟨by kernel_rfl⟩ -- math/bits.Mul64
instance : TyFn Go.Proofs.Try.prog 94 := ⟨by kernel_rfl⟩ -- (privatefetch/residue.Field).All$1
instance : TyFn Go.Proofs.Try.prog 95 := ⟨by kernel_rfl⟩ -- (privatefetch/residue.Field).Has
instance : TyFn Go.Proofs.Try.prog 96 := ⟨by kernel_rfl⟩ -- privatefetch/coded.groups$1
instance : TyFn Go.Proofs.Try.prog 97 := ⟨by kernel_rfl⟩ -- (privatefetch/residue.Field).Add
instance : TyFn Go.Proofs.Try.prog 98 := ⟨by kernel_rfl⟩ -- (privatefetch/residue.Field).Mul
instance : TyFn Go.Proofs.Try.prog 114 := ⟨by kernel_rfl⟩ -- (privatefetch/scheme.groups).limits
instance : TyFn Go.Proofs.Try.prog 115 := ⟨by kernel_rfl⟩ -- (privatefetch/scheme.groups).queries
instance : TyFn Go.Proofs.Try.prog 116 := ⟨by kernel_rfl⟩ -- privatefetch/coded.Limits
instance : TyFn Go.Proofs.Try.prog 117 := ⟨by kernel_rfl⟩ -- privatefetch/coded.Queries
instance : TyFn Go.Proofs.Try.prog 118 := ⟨by kernel_rfl⟩ -- privatefetch/coded.check
instance : TyFn Go.Proofs.Try.prog 119 := ⟨by kernel_rfl⟩ -- privatefetch/tape.Draws
instance : TyFn Go.Proofs.Try.prog 120 := ⟨by kernel_rfl⟩ -- (privatefetch/residue.Field).Value
instance : TyFn Go.Proofs.Try.prog 121 := ⟨by kernel_rfl⟩ -- privatefetch/tape.valid
instance : TyFn Go.Proofs.Try.prog 122 := ⟨by kernel_rfl⟩ -- privatefetch/tape.limit
instance : TyFn Go.Proofs.Try.prog 123 := ⟨by kernel_rfl⟩ -- (*privatefetch/tape.drawing).draw
instance : TyFn Go.Proofs.Try.prog 124 := ⟨by kernel_rfl⟩ -- slices.Backward[[]int,int]
instance : TyFn Go.Proofs.Try.prog 125 := ⟨by kernel_rfl⟩ -- (*privatefetch/tape.position).next
instance : TyFn Go.Proofs.Try.prog 126 := ⟨by kernel_rfl⟩ -- slices.Backward[[]int,int]$1
instance : TyFn Go.Proofs.Try.prog 128 := ⟨by kernel_rfl⟩ -- (privatefetch/scheme.sums).limits
instance : TyFn Go.Proofs.Try.prog 129 := ⟨by kernel_rfl⟩ -- (privatefetch/scheme.sums).queries
instance : TyFn Go.Proofs.Try.prog 130 := ⟨by kernel_rfl⟩ -- privatefetch/parity.Limits
instance : TyFn Go.Proofs.Try.prog 131 := ⟨by kernel_rfl⟩ -- privatefetch/parity.Queries
instance : TyFn Go.Proofs.Try.prog 132 := ⟨by kernel_rfl⟩ -- privatefetch/parity.check
instance : TyFn Go.Proofs.Try.prog 133 := ⟨by kernel_rfl⟩ -- privatefetch/vector.Unit
instance : TyFn Go.Proofs.Try.prog 134 := ⟨by kernel_rfl⟩ -- privatefetch/parity.sum
instance : TyFn Go.Proofs.Try.prog 135 := ⟨by kernel_rfl⟩ -- privatefetch/parity.each
instance : TyFn Go.Proofs.Try.prog 136 := ⟨by kernel_rfl⟩ -- privatefetch/parity.each$1
instance : TyFn Go.Proofs.Try.prog 138 := ⟨by kernel_rfl⟩ -- (privatefetch/scheme.curves).limits
instance : TyFn Go.Proofs.Try.prog 139 := ⟨by kernel_rfl⟩ -- (privatefetch/scheme.curves).queries
instance : TyFn Go.Proofs.Try.prog 140 := ⟨by kernel_rfl⟩ -- privatefetch/curve.Limits
instance : TyFn Go.Proofs.Try.prog 141 := ⟨by kernel_rfl⟩ -- privatefetch/curve.Queries
instance : TyFn Go.Proofs.Try.prog 142 := ⟨by kernel_rfl⟩ -- privatefetch/curve.check
instance : TyFn Go.Proofs.Try.prog 143 := ⟨by kernel_rfl⟩ -- privatefetch/share.Split
instance : TyFn Go.Proofs.Try.prog 144 := ⟨by kernel_rfl⟩ -- privatefetch/curve.Check
instance : TyFn Go.Proofs.Try.prog 145 := ⟨by kernel_rfl⟩ -- privatefetch/share.threshold
instance : TyFn Go.Proofs.Try.prog 146 := ⟨by kernel_rfl⟩ -- privatefetch/share.shares
instance : TyFn Go.Proofs.Try.prog 147 := ⟨by kernel_rfl⟩ -- privatefetch/curve.valid
end Go.Q

namespace Go.Q
open Classical

/-- A prime in range, by trial division. -/
def okP (p : Int) : Prop := 2 ≤ p ∧ p ≤ 65521 ∧ ∀ d : Int, 2 ≤ d → d * d ≤ p → p % d ≠ 0
noncomputable def ofP (p : Int) : Int := if okP p then p else 0
def hasP (p x : Int) : Prop := 0 ≤ x ∧ x < p

/-- The index of the first element that is so, or -1. -/
noncomputable def idxF (q : Int → Prop) : List Int → Int
  | [] => -1
  | x :: xs => if q x then 0 else (if idxF q xs < 0 then -1 else idxF q xs + 1)

theorem idxF_none {q : Int → Prop} : ∀ {xs : List Int}, (∀ x ∈ xs, ¬ q x) → idxF q xs = -1
  | [], _ => rfl
  | x :: xs, h => by
    have h1 := h x (List.mem_cons_self ..)
    have h2 := idxF_none (xs := xs) fun y hy => h y (List.mem_cons_of_mem _ hy)
    simp [idxF, h1, h2]

theorem idxF_at {q : Int → Prop} : ∀ {xs : List Int} {i : Nat}, i < xs.length → (∀ j, j < i → ¬ q (xs[j]?.getD default)) → q (xs[i]?.getD default) → idxF q xs = i
  | [], i, h, _, _ => by simp at h
  | x :: xs, 0, _, _, h => by
    have : q x := by simpa using h
    simp [idxF, this]
  | x :: xs, i + 1, hi, hb, h => by
    have h1 : ¬ q x := by simpa using hb 0 (by omega)
    have h2 := idxF_at (xs := xs) (i := i) (by simpa using hi) (fun j hj => by simpa using hb (j + 1) (by omega)) (by simpa using h)
    simp only [idxF, if_neg h1, h2]
    rw [if_neg (by omega)]
    omega

theorem idxF_nonneg {q : Int → Prop} : ∀ {xs : List Int}, 0 ≤ idxF q xs ↔ ∃ x ∈ xs, q x
  | [] => by simp [idxF]
  | x :: xs => by
    have ih := idxF_nonneg (q := q) (xs := xs)
    by_cases h : q x
    · simp [idxF, h]
    · simp only [idxF, if_neg h]
      by_cases h2 : idxF q xs < 0
      · rw [if_pos h2]
        have : ¬ ∃ x ∈ xs, q x := fun he => by have := ih.2 he; omega
        simp [h] at this ⊢
        exact this
      · rw [if_neg h2]
        have : ∃ x ∈ xs, q x := ih.1 (by omega)
        obtain ⟨y, hy, hq⟩ := this
        exact ⟨fun _ => ⟨y, List.mem_cons_of_mem _ hy, hq⟩, fun _ => by omega⟩

end Go.Q

namespace Go.Q
open Classical

/-! ### Digests -/

def modD (x : Int) : Int := x % 2147483647
theorem modD_bd (x : Int) : 0 ≤ modD x ∧ modD x ≤ 2147483646 := by unfold modD; omega
theorem modD_t (x : Int) : (if x.tmod 2147483647 < 0 then x.tmod 2147483647 + 2147483647 else x.tmod 2147483647) = modD x := by
  unfold modD
  by_cases h : 0 ≤ x
  · rw [Int.tmod_eq_emod_of_nonneg h, if_neg (by omega)]
  · have h1 : x.tmod 2147483647 = - ((-x) % 2147483647) := by
      rw [show x = -(-x) by omega, Int.neg_tmod, Int.tmod_eq_emod_of_nonneg (by omega)]; simp
    rw [h1]
    split <;> omega
theorem tmod_bd (x : Int) (n : Int) (h : 0 < n) : -n < x.tmod n ∧ x.tmod n < n := by
  by_cases hx : 0 ≤ x
  · rw [Int.tmod_eq_emod_of_nonneg hx]
    have h1 := Int.emod_nonneg x (show n ≠ 0 by omega)
    have h2 := Int.emod_lt_of_pos x h
    omega
  · have h1 : x.tmod n = - ((-x) % n) := by
      rw [show x = -(-x) by omega, Int.neg_tmod, Int.tmod_eq_emod_of_nonneg (by omega)]; simp
    have h2 := Int.emod_nonneg (-x) (show n ≠ 0 by omega)
    have h3 := Int.emod_lt_of_pos (-x) h
    omega
/-- '(n%k + k) % k' -/
theorem mod_twice (x n : Int) (h : 0 < n) : (x.tmod n + n) % n = x % n := by
  by_cases hx : 0 ≤ x
  · rw [Int.tmod_eq_emod_of_nonneg hx]
    simp
  · have h1 : x.tmod n = - ((-x) % n) := by
      rw [show x = -(-x) by omega, Int.neg_tmod, Int.tmod_eq_emod_of_nonneg (by omega)]; simp
    have e : -((-x) % n) = x + n * ((-x) / n) := by have := Int.emod_add_mul_ediv (-x) n; omega
    rw [h1, Int.add_emod_right, e, Int.add_mul_emod_self_left]

def rowStep (d x : Int) : Int := (d * 1000003 + modD x + 1) % 2147483647
def rowD (xs : List Int) : Int := xs.foldl rowStep 2
theorem rowD_bd (xs : List Int) : 0 ≤ rowD xs ∧ rowD xs ≤ 2147483646 := by
  have key : ∀ (xs : List Int) (d : Int), 0 ≤ d ∧ d ≤ 2147483646 → 0 ≤ xs.foldl rowStep d ∧ xs.foldl rowStep d ≤ 2147483646 := by
    intro xs
    induction xs with
    | nil => intro d h; exact h
    | cons x xs ih => intro d h; exact ih _ (by unfold rowStep; omega)
  exact key xs 2 (by omega)
theorem foldl_take {α β : Type} [Inhabited β] (f : α → β → α) (a : α) (xs : List β) (k : Nat) (h : k < xs.length) : (xs.take (k + 1)).foldl f a = f ((xs.take k).foldl f a) (xs[k]?.getD default) := by
  have h1 : xs[k]? = some xs[k] := by simp [h]
  rw [List.take_add_one, h1]
  simp only [Option.toList_some, List.foldl_append, List.foldl_cons, List.foldl_nil, Option.getD_some]
def nodeD (a b : Int) : Int := (modD a * 1000003 + modD b + 3) % 2147483647
theorem nodeD_bd (a b : Int) : 0 ≤ nodeD a b ∧ nodeD a b ≤ 2147483646 := by unfold nodeD; omega

/-! ### Roots -/

def goodD (x : Int) : Prop := 0 ≤ x ∧ x < 2147483647
/-- The first error of a list's elements. -/
noncomputable def firstErr {α : Type} (e : α → Int) : List α → Int
  | [] => 0
  | x :: xs => if e x ≠ 0 then e x else firstErr e xs
theorem firstErr_none {α : Type} {e : α → Int} : ∀ {xs : List α}, (∀ x ∈ xs, e x = 0) → firstErr e xs = 0
  | [], _ => rfl
  | x :: xs, h => by
    simp [firstErr, h x (List.mem_cons_self ..), firstErr_none fun y hy => h y (List.mem_cons_of_mem _ hy)]
theorem firstErr_at {α : Type} [Inhabited α] {e : α → Int} : ∀ {xs : List α} {i : Nat}, i < xs.length → (∀ j, j < i → e (xs[j]?.getD default) = 0) → e (xs[i]?.getD default) ≠ 0 → firstErr e xs = e (xs[i]?.getD default)
  | [], i, h, _, _ => by simp at h
  | x :: xs, 0, _, _, h => by
    have : e x ≠ 0 := by simpa using h
    simp [firstErr, this]
  | x :: xs, i + 1, hi, hb, h => by
    have h1 : e x = 0 := by simpa using hb 0 (by omega)
    have h2 := firstErr_at (e := e) (xs := xs) (i := i) (by simpa using hi) (fun j hj => by simpa using hb (j + 1) (by omega)) (by simpa using h)
    simp [firstErr, h1, h2]
theorem firstErr_none' {α : Type} [Inhabited α] {e : α → Int} {xs : List α} (h : ∀ j, j < xs.length → e (xs[j]?.getD default) = 0) : firstErr e xs = 0 :=
  firstErr_none fun x hx => by
    obtain ⟨i, hi⟩ := List.getElem?_of_mem hx
    have := h i (List.getElem?_eq_some_iff.1 hi).1
    rwa [hi] at this
theorem firstErr_zero {α : Type} {e : α → Int} : ∀ {xs : List α}, firstErr e xs = 0 ↔ ∀ x ∈ xs, e x = 0
  | [] => by simp [firstErr]
  | x :: xs => by
    by_cases h : e x = 0
    · simp [firstErr, h, firstErr_zero (xs := xs)]
    · simp [firstErr, h]

noncomputable def listErr (xs : List Int) : Int := if 1024 < xs.length then 4 else firstErr (fun x => if goodD x then 0 else 1) xs

def upD : List Int → List Int
  | [] => []
  | [x] => [x]
  | x :: y :: xs => nodeD x y :: upD xs

theorem upD_length : ∀ (xs : List Int), (upD xs).length = (xs.length + 1) / 2
  | [] => rfl
  | [x] => by simp [upD]
  | x :: y :: xs => by simp only [upD, List.length_cons, upD_length xs]; omega

theorem upD_take_two (xs : List Int) (k : Nat) (h : 2 * k + 1 < xs.length) : upD (xs.take (2 * (k + 1))) = upD (xs.take (2 * k)) ++ [nodeD (xs[2 * k]?.getD default) (xs[2 * k + 1]?.getD default)] := by
  induction k generalizing xs with
  | zero =>
    match xs, h with
    | x :: y :: xs, _ => simp [upD]
    | [x], h => simp at h
    | [], h => simp at h
  | succ k ih =>
    match xs, h with
    | x :: y :: xs, h =>
      have := ih xs (by simp at h; omega)
      have e1 : 2 * (k + 1 + 1) = 2 * (k + 1) + 1 + 1 := by omega
      have e2 : 2 * (k + 1) = 2 * k + 1 + 1 := by omega
      rw [e1, e2]
      simp only [List.take_succ_cons, upD, List.cons_append, List.getElem?_cons_succ]
      rw [e2] at this
      rw [show 2 * k + 1 + 1 = 2 * (k + 1) by omega] at this ⊢
      rw [this]
    | [x], h => simp at h
    | [], h => simp at h

theorem upD_take_last (xs : List Int) (k : Nat) (h : 2 * k + 1 = xs.length) : upD xs = upD (xs.take (2 * k)) ++ [xs[2 * k]?.getD default] := by
  induction k generalizing xs with
  | zero =>
    match xs, h with
    | [x], _ => simp [upD]
    | [], h => simp at h
    | _ :: _ :: _, h => simp at h
  | succ k ih =>
    match xs, h with
    | x :: y :: xs, h =>
      have := ih xs (by simp at h; omega)
      have e2 : 2 * (k + 1) = 2 * k + 1 + 1 := by omega
      rw [e2]
      simp only [List.take_succ_cons, upD, List.cons_append, List.getElem?_cons_succ]
      rw [this]
    | [x], h => simp at h
    | [], h => simp at h

def rootN : Nat → List Int → Int
  | 0, _ => 0
  | n + 1, xs => match xs with
    | [] => 0
    | [x] => x
    | x :: y :: r => rootN n (upD (x :: y :: r))
def rootD (xs : List Int) : Int := rootN (xs.length + 1) xs

theorem rootN_eq : ∀ (n m : Nat) (xs : List Int), xs.length < n → xs.length < m → rootN n xs = rootN m xs
  | 0, _, _, h, _ => by omega
  | _, 0, _, _, h => by omega
  | n + 1, m + 1, [], _, _ => rfl
  | n + 1, m + 1, [x], _, _ => rfl
  | n + 1, m + 1, x :: y :: r, h1, h2 => by
    simp only [rootN]
    have hl := upD_length (x :: y :: r)
    simp only [List.length_cons] at hl h1 h2
    exact rootN_eq n m _ (by omega) (by omega)
theorem rootD_nil : rootD [] = 0 := rfl
theorem rootD_one (x : Int) : rootD [x] = x := rfl
theorem rootD_up (xs : List Int) (h : 2 ≤ xs.length) : rootD xs = rootD (upD xs) := by
  match xs, h with
  | x :: y :: r, _ =>
    unfold rootD
    have hl := upD_length (x :: y :: r)
    simp only [List.length_cons] at hl
    show rootN (r.length + 1 + 1) (upD (x :: y :: r)) = _
    exact rootN_eq _ _ _ (by omega) (by omega)
  | [x], h => simp at h
  | [], h => simp at h
/-- The root, or 0 with the error. -/
noncomputable def rootR (xs : List Int) : Int := if listErr xs = 0 then rootD xs else 0

end Go.Q

namespace Go.Q
open Classical

/-! ### Tables -/

structure Tab where
  number : Int
  p : Int
  width : Int
  rows : List (List Int)
structure Hd where
  number : Int
  p : Int
  count : Int
  width : Int
  root : Int
instance : Inhabited Tab := ⟨⟨0, 0, 0, []⟩⟩
instance : Inhabited Hd := ⟨⟨0, 0, 0, 0, 0⟩⟩

noncomputable def errP (p : Int) : Int := if okP p then 0 else 9
def allP (p : Int) (xs : List Int) : Prop := ∀ x ∈ xs, hasP p x
noncomputable def rowErr (p w : Int) (r : List Int) : Int := if (r.length : Int) ≠ w then 2 else if ¬ allP p r then 9 else 0
noncomputable def checkT (t : Tab) : Int :=
  if t.number < 1 ∨ 2147483647 ≤ t.number then 1 else if ¬ okP t.p then 9 else if t.width < 1 ∨ 64 < t.width then 1 else if 1024 < t.rows.length then 4 else firstErr (rowErr t.p t.width) t.rows

noncomputable def digs (t : Tab) : List Int := if checkT t = 0 then t.rows.map rowD else []
noncomputable def headT (t : Tab) : Hd := if checkT t = 0 then ⟨t.number, t.p, t.rows.length, t.width, rootD (t.rows.map rowD)⟩ else ⟨0, 0, 0, 0, 0⟩
noncomputable def holdsH (h : Hd) (ds : List Int) : Int := if (ds.length : Int) ≠ h.count then 2 else if listErr ds ≠ 0 then listErr ds else if rootD ds ≠ h.root then 13 else 0
noncomputable def verifyH (h : Hd) (ds : List Int) (i : Int) (r : List Int) : Int :=
  if holdsH h ds ≠ 0 then holdsH h ds else if i < 0 ∨ (ds.length : Int) ≤ i then 6 else if ¬ okP h.p then 9 else if (r.length : Int) ≠ h.width then 2 else if ¬ allP h.p r then 9
  else if rowD r ≠ ds[i.toNat]?.getD default then 13 else 0
noncomputable def rowT (t : Tab) (i : Int) : List Int := if checkT t = 0 ∧ 0 ≤ i ∧ i < t.rows.length then t.rows[i.toNat]?.getD default else []
noncomputable def rowTErr (t : Tab) (i : Int) : Int := if checkT t ≠ 0 then checkT t else if i < 0 ∨ (t.rows.length : Int) ≤ i then 6 else 0
def sameT (a b : Tab) : Prop := a.number = b.number ∧ a.p = b.p ∧ a.width = b.width ∧ a.rows = b.rows
noncomputable def newT (n p w : Int) (rows : List (List Int)) : Tab := if checkT ⟨n, p, w, rows⟩ = 0 then ⟨n, p, w, rows⟩ else ⟨0, 0, 0, []⟩

theorem checkT_ok {t : Tab} (h : checkT t = 0) : (1 ≤ t.number ∧ t.number < 2147483647) ∧ okP t.p ∧ (1 ≤ t.width ∧ t.width ≤ 64) ∧ t.rows.length ≤ 1024 ∧ ∀ r ∈ t.rows, (r.length : Int) = t.width ∧ allP t.p r := by
  unfold checkT at h
  split at h
  · omega
  split at h
  · omega
  split at h
  · omega
  split at h
  · omega
  rename_i h1 h2 h3 h4
  refine ⟨by omega, Classical.not_not.1 h2, by omega, by omega, fun r hr => ?_⟩
  have := firstErr_zero.1 h r hr
  unfold rowErr at this
  split at this
  · omega
  split at this
  · omega
  rename_i h5 h6
  exact ⟨Classical.not_not.1 h5, Classical.not_not.1 h6⟩

theorem listErr_digs (rows : List (List Int)) (h : rows.length ≤ 1024) : listErr (rows.map rowD) = 0 := by
  unfold listErr
  rw [if_neg (by simp; omega)]
  apply firstErr_none
  intro x hx
  obtain ⟨r, _, rfl⟩ := List.mem_map.1 hx
  have := rowD_bd r
  rw [if_pos (by unfold goodD; omega)]

theorem list_ext_getD {α : Type} [Inhabited α] {xs ys : List α} (hl : xs.length = ys.length) (h : ∀ j, j < xs.length → xs[j]?.getD default = ys[j]?.getD default) : xs = ys := by
  apply List.ext_getElem hl
  intro j h1 h2
  have := h j h1
  simpa [h1, h2] using this

end Go.Q

namespace Go.Q
theorem getD_mem {α : Type} [Inhabited α] {xs : List α} {k : Nat} (h : k < xs.length) : xs[k]?.getD default ∈ xs := by
  simp [h]
end Go.Q

namespace Go.Q

variable {P : Program} {f : FuncId} {N : Nat} {I0 : Imm} {R : Goal} {g : G} {M : List Res} {k : List Item}

abbrev dTab (t : Tab) : D := dAgg [dInt .i64 t.number, dInt .i64 t.p, dInt .i64 t.width, dRows t.rows]
abbrev dHd (h : Hd) : D := dAgg [dInt .i64 h.number, dInt .i64 h.p, dInt .i64 h.count, dInt .i64 h.width, dInt .i64 h.root]
abbrev fI : Int → List D := fun x => [dInt .i64 x]
abbrev fR : List Int → List D := fun x => [dInts x]

/-- A pointer to a cell that holds a closure that has captured this very pointer. -/
def dKnot (fn : FuncId) : D :=
  ⟨fun I v => ∃ b cs T fz, v = ptr b 0 ∧ I.blk b = some (.cells cs T fz) ∧ cs.toList = [.func (.func fn) #[] #[ptr b 0]],
   fun h ⟨b, cs, T, fz, h1, h2, h3⟩ => ⟨b, cs, T, fz, h1, h.blk _ _ h2, h3⟩⟩

theorem knot_box {fn : FuncId} : ∀ I v, (dKnot fn).rel I v → (dBox [dClo fn [dKnot fn]]).rel I v := by
  rintro I v ⟨b, cs, T, fz, rfl, h2, h3⟩
  refine ⟨⟨b, 0, none⟩, rfl, rfl, cs, T, fz, h2, ?_⟩
  rw [h3]
  exact ⟨⟨#[ptr b 0], rfl, ⟨b, cs, T, fz, rfl, h2, h3⟩, trivial⟩, trivial⟩

theorem run_freezeKnot {s b : Nat} {T : TypeId} {fn : FuncId} {C : Res → List Res} {F : List Res} (hs : look g s = some (dVal (ptr b 0))) (hm : Sel (rCells b T [dClo fn [dVal (ptr b 0)]]) M C F) (h : Run P f N I0 R ((s, dBox [dClo fn [dKnot fn]]) :: g) F k) : Run P f N I0 R g M k := by
  refine run_turn (fun I a w hsl hi => ?_) h
  obtain ⟨o, ⟨cs, ho, hr⟩, hn, hi'⟩ := (hi.perm hm.perm.1).freeze (b := b) rfl
  injection ho with ho
  subst ho
  have hle := Imm.le_add (o := .cells cs T (0, 0)) hn
  refine ⟨_, hle, ⟨hsl.size, hsl.defers, fun j e hj => ?_⟩, hi'⟩
  rw [look_cons] at hj
  split at hj
  · rename_i e1
    subst e1
    injection hj with hj
    subst hj
    have h1 : a.tmps.getD s undef = ptr b 0 := hsl.slot _ _ hs
    rw [h1]
    apply knot_box
    have hcs : cs.toList = [.func (.func fn) #[] #[ptr b 0]] := by
      match hc : cs.toList, hr with
      | [u], hr =>
        obtain ⟨⟨cap, hu, hcap⟩, _⟩ := hr
        match hcc : cap.toList, hcap with
        | [p], hcap =>
          have hp : p = ptr b 0 := hcap.1
          have : cap = #[ptr b 0] := by apply Array.toList_inj.1; rw [hcc, hp]
          rw [hu, this]
    exact ⟨b, cs, T, (0, 0), rfl, by simp [Imm.add], hcs⟩
  · exact e.mono hle (hsl.slot _ _ hj)

/-! ### From a contract that hands over a row to one that lets it be immutable -/

theorem spec_freeze {Ds : List D} {T n : Nat} {α : Type} {f' : α → List D} {xs : List α} (h : Spec P f Ds [] (fun _ : Value => True) (fun v => dVal v) (fun v => [rRow v T n f' xs])) : SpecP P f Ds (dSl n f' xs) := by
  intro I M w vs hv hi
  refine (h I M w vs hv hi).mono ?_
  rintro e w' ⟨v, rfl, s, _, J, h1, h2, h3⟩
  obtain ⟨J', h4, h5, h6⟩ := row_freeze h3
  have hvs : v = s := h2
  subst hvs
  exact ⟨v, rfl, J', h1.trans h4, h5, h6⟩

theorem spec_freeze2 {Ds : List D} {T n : Nat} {α : Type} {f' : α → List D} {xs : List α} {d2 : D} (h : Spec P f Ds [] (fun _ : Value => True) (fun v => dTup [dVal v, d2]) (fun v => [rRow v T n f' xs])) : SpecP P f Ds (dTup [dSl n f' xs, d2]) := by
  intro I M w vs hv hi
  refine (h I M w vs hv hi).mono ?_
  rintro e w' ⟨v, rfl, s, _, J, h1, ⟨cs, h2, h7⟩, h3⟩
  obtain ⟨J', h4, h5, h6⟩ := row_freeze h3
  obtain ⟨u1, u2, hc, g1, g2⟩ := relL2 h7
  have hvs : u1 = s := g1
  subst hvs
  exact ⟨v, rfl, J', h1.trans h4, ⟨cs, h2, by rw [hc]; exact ⟨h5, d2.mono h4 g2, trivial⟩⟩, h6⟩

end Go.Q

namespace Go.Q

variable {P : Program} {f : FuncId} {N : Nat} {I0 : Imm} {R : Goal} {g : G} {M : List Res} {k : List Item}

theorem slots_cast {I J : Imm} {a : Act} {s : Nat} {d d' : D} (hsl : Slots g N I a) (hle : I.le J) (hs : look g s = some d) (hd : ∀ v, d.rel I v → d'.rel J v) : Slots ((s, d') :: g) N J a := by
  refine ⟨hsl.size, hsl.defers, fun j e hj => ?_⟩
  rw [look_cons] at hj
  split at hj
  · rename_i e1
    subst e1
    injection hj with hj
    subst hj
    exact hd _ (hsl.slot _ _ hs)
  · exact e.mono hle (hsl.slot _ _ hj)

theorem runL_freezeRow {ops : Array Oper} {l : List Oper} {s : Nat} {C : Res → List Res} {F : List Res} {α : Type} {T n : Nat} {f' : α → List D} {xs : List α} {v : Value} (hs : look g s = some (dVal v)) (hm : Sel (rRow v T n f' xs) M C F)
    (h : RunL P f N I0 R ((s, dSl n f' xs) :: g) F ops l k) : RunL P f N I0 R g M ops l k := by
  constructor
  intro I a w b cs hb hk hl hsl hi
  obtain ⟨J, hle, hd, hi'⟩ := row_freeze (hi.perm hm.perm.1)
  exact h.go J a w b cs hb hk (hl.trans hle) (slots_cast hsl hle hs (fun u hu => by rw [show u = v from hu]; exact hd)) hi'

theorem relL_upgrade {I : Imm} {d' : D} {v : Value} (hd : d'.rel I v) : ∀ {ds : List D} {cs : List Value} (i : Nat), relL ds I cs → ds[i]? = some (dVal v) → relL (ds.set i d') I cs
  | d :: ds, c :: cs, 0, ⟨h1, h2⟩, h => by simp at h; subst h; rw [show c = v from h1]; exact ⟨hd, h2⟩
  | d :: ds, c :: cs, i + 1, ⟨h1, h2⟩, h => ⟨h1, relL_upgrade hd i h2 (by simpa using h)⟩
  | [], [], i, _, h => by simp at h

/-- A row whose handle lies in a cell of the call's own becomes immutable. -/
theorem run_freezeRowCell {b kk : Nat} {T' : TypeId} {ds : List D} {C C' : Res → List Res} {F F' : List Res} {α : Type} {T n : Nat} {f' : α → List D} {xs : List α} {v : Value} (hm : Sel (rRow v T n f' xs) M C F) (hc : Sel (rCells b T' ds) F C' F') (hk : ds[kk]? = some (dVal v))
    (h : Run P f N I0 R g (C' (rCells b T' (ds.set kk (dSl n f' xs)))) k) : Run P f N I0 R g M k := by
  refine run_turn (fun I a w hsl hi => ?_) h
  obtain ⟨J, hle, hd, hi'⟩ := row_freeze (hi.perm hm.perm.1)
  refine ⟨J, hle, hsl.mono hle, ?_⟩
  have h2 := hi'.perm hc.perm.1
  refine Inv.perm ?_ (hc.perm.2 _)
  refine ⟨h2.os, h2.tape, h2.output, h2.imm, fun r hr => ?_, h2.apart⟩
  rcases List.mem_cons.1 hr with rfl | hr
  · obtain ⟨h3, o, h4, cs, h5, h6⟩ := h2.own _ (List.mem_cons_self ..)
    exact ⟨h3, o, h4, cs, h5, relL_upgrade hd kk h6 hk⟩
  · exact h2.own r (List.mem_cons_of_mem _ hr)

end Go.Q
