/- The types and functions of this seat, as the rules ask for them. -/
import Derived.Test.YtjcbhnlcbdmlfaaProg
import Derived.Test.YtjcbhnlcbdmlfaaQDraw2
set_option linter.unusedVariables false
set_option linter.unusedSimpArgs false
namespace Go.Q
open Go.Proofs
instance : TyMix Go.Proofs.Try.prog := ⟨by kernel_rfl⟩
instance : TyV Go.Proofs.Try.prog 1 false 1 := ⟨by kernel_rfl, by kernel_rfl⟩
instance : TyZ Go.Proofs.Try.prog 1 8 .nilFunc := ⟨by kernel_rfl⟩
instance : TyV Go.Proofs.Try.prog 2 false 1 := ⟨by kernel_rfl, by kernel_rfl⟩
instance : TyInt Go.Proofs.Try.prog 2 .i64 := ⟨by kernel_rfl⟩
instance : TyZ Go.Proofs.Try.prog 2 8 (.int .i64 0) := ⟨by kernel_rfl⟩
instance : TyV Go.Proofs.Try.prog 3 false 1 := ⟨by kernel_rfl, by kernel_rfl⟩
instance : TyInt Go.Proofs.Try.prog 3 .i64 := ⟨by kernel_rfl⟩
instance : TyZ Go.Proofs.Try.prog 3 8 (.int .i64 0) := ⟨by kernel_rfl⟩
instance : TyV Go.Proofs.Try.prog 4 false 1 := ⟨by kernel_rfl, by kernel_rfl⟩
instance : TyBool Go.Proofs.Try.prog 4 := ⟨by kernel_rfl⟩
instance : TyZ Go.Proofs.Try.prog 4 1 (.bool false) := ⟨by kernel_rfl⟩
instance : TyV Go.Proofs.Try.prog 5 false 1 := ⟨by kernel_rfl, by kernel_rfl⟩
instance : TyInt Go.Proofs.Try.prog 5 .u8 := ⟨by kernel_rfl⟩
instance : TyZ Go.Proofs.Try.prog 5 1 (.int .u8 0) := ⟨by kernel_rfl⟩
instance : TyV Go.Proofs.Try.prog 6 false 1 := ⟨by kernel_rfl, by kernel_rfl⟩
instance : TyInt Go.Proofs.Try.prog 6 .u8 := ⟨by kernel_rfl⟩
instance : TyZ Go.Proofs.Try.prog 6 1 (.int .u8 0) := ⟨by kernel_rfl⟩
instance : TyV Go.Proofs.Try.prog 7 true 4 := ⟨by kernel_rfl, by kernel_rfl⟩
instance : TyPl Go.Proofs.Try.prog 7 [(0, 1), (1, 1), (2, 1), (3, 1)] := ⟨by kernel_rfl⟩
instance : TyFld Go.Proofs.Try.prog 7 0 0 0 false := ⟨by kernel_rfl⟩
instance : TyFld Go.Proofs.Try.prog 7 1 1 0 false := ⟨by kernel_rfl⟩
instance : TyFld Go.Proofs.Try.prog 7 2 2 0 false := ⟨by kernel_rfl⟩
instance : TyFld Go.Proofs.Try.prog 7 3 3 0 false := ⟨by kernel_rfl⟩
instance : TyZ Go.Proofs.Try.prog 7 24 (.agg #[(.int .i64 0), (.int .i64 0), (.bool false), (.int .u8 0)]) := ⟨by kernel_rfl⟩
instance : TyV Go.Proofs.Try.prog 8 true 4 := ⟨by kernel_rfl, by kernel_rfl⟩
instance : TyPl Go.Proofs.Try.prog 8 [(0, 1), (1, 1), (2, 1), (3, 1)] := ⟨by kernel_rfl⟩
instance : TyFld Go.Proofs.Try.prog 8 0 0 0 false := ⟨by kernel_rfl⟩
instance : TyFld Go.Proofs.Try.prog 8 1 1 0 false := ⟨by kernel_rfl⟩
instance : TyFld Go.Proofs.Try.prog 8 2 2 0 false := ⟨by kernel_rfl⟩
instance : TyFld Go.Proofs.Try.prog 8 3 3 0 false := ⟨by kernel_rfl⟩
instance : TyZ Go.Proofs.Try.prog 8 24 (.agg #[(.int .i64 0), (.int .i64 0), (.bool false), (.int .u8 0)]) := ⟨by kernel_rfl⟩
instance : TyV Go.Proofs.Try.prog 9 false 1 := ⟨by kernel_rfl, by kernel_rfl⟩
instance : TyStr Go.Proofs.Try.prog 9 := ⟨by kernel_rfl⟩
instance : TyV Go.Proofs.Try.prog 10 false 1 := ⟨by kernel_rfl, by kernel_rfl⟩
instance : TyStr Go.Proofs.Try.prog 10 := ⟨by kernel_rfl⟩
instance : TyV Go.Proofs.Try.prog 11 false 1 := ⟨by kernel_rfl, by kernel_rfl⟩
instance : TyStr Go.Proofs.Try.prog 11 := ⟨by kernel_rfl⟩
instance : TyV Go.Proofs.Try.prog 12 false 1 := ⟨by kernel_rfl, by kernel_rfl⟩
instance : TyInt Go.Proofs.Try.prog 12 .u64 := ⟨by kernel_rfl⟩
instance : TyZ Go.Proofs.Try.prog 12 8 (.int .u64 0) := ⟨by kernel_rfl⟩
instance : TyV Go.Proofs.Try.prog 13 true 2 := ⟨by kernel_rfl, by kernel_rfl⟩
instance : TyPl Go.Proofs.Try.prog 13 [(0, 1), (1, 1)] := ⟨by kernel_rfl⟩
instance : TyFld Go.Proofs.Try.prog 13 0 0 0 false := ⟨by kernel_rfl⟩
instance : TyFld Go.Proofs.Try.prog 13 1 1 0 false := ⟨by kernel_rfl⟩
instance : TyV Go.Proofs.Try.prog 14 true 2 := ⟨by kernel_rfl, by kernel_rfl⟩
instance : TyPl Go.Proofs.Try.prog 14 [(0, 1), (1, 1)] := ⟨by kernel_rfl⟩
instance : TyFld Go.Proofs.Try.prog 14 0 0 0 false := ⟨by kernel_rfl⟩
instance : TyFld Go.Proofs.Try.prog 14 1 1 0 false := ⟨by kernel_rfl⟩
instance : TyV Go.Proofs.Try.prog 15 false 1 := ⟨by kernel_rfl, by kernel_rfl⟩
instance : TyZ Go.Proofs.Try.prog 15 8 (.pointer none) := ⟨by kernel_rfl⟩
instance : TyV Go.Proofs.Try.prog 16 false 1 := ⟨by kernel_rfl, by kernel_rfl⟩
instance : TyZ Go.Proofs.Try.prog 16 8 (.pointer none) := ⟨by kernel_rfl⟩
instance : TyV Go.Proofs.Try.prog 17 false 1 := ⟨by kernel_rfl, by kernel_rfl⟩
instance : TyZ Go.Proofs.Try.prog 17 8 (.pointer none) := ⟨by kernel_rfl⟩
instance : TyV Go.Proofs.Try.prog 18 true 1 := ⟨by kernel_rfl, by kernel_rfl⟩
instance : TyPl Go.Proofs.Try.prog 18 [(0, 1)] := ⟨by kernel_rfl⟩
instance : TyFld Go.Proofs.Try.prog 18 0 0 0 false := ⟨by kernel_rfl⟩
instance : TyZ Go.Proofs.Try.prog 18 8 (.agg #[(.pointer none)]) := ⟨by kernel_rfl⟩
instance : TyV Go.Proofs.Try.prog 19 true 1 := ⟨by kernel_rfl, by kernel_rfl⟩
instance : TyPl Go.Proofs.Try.prog 19 [(0, 1)] := ⟨by kernel_rfl⟩
instance : TyFld Go.Proofs.Try.prog 19 0 0 0 false := ⟨by kernel_rfl⟩
instance : TyZ Go.Proofs.Try.prog 19 8 (.agg #[(.pointer none)]) := ⟨by kernel_rfl⟩
instance : TyV Go.Proofs.Try.prog 20 false 1 := ⟨by kernel_rfl, by kernel_rfl⟩
instance : TyZ Go.Proofs.Try.prog 20 16 .nilIface := ⟨by kernel_rfl⟩
instance : TyV Go.Proofs.Try.prog 21 false 1 := ⟨by kernel_rfl, by kernel_rfl⟩
instance : TyInt Go.Proofs.Try.prog 21 .i32 := ⟨by kernel_rfl⟩
instance : TyZ Go.Proofs.Try.prog 21 4 (.int .i32 0) := ⟨by kernel_rfl⟩
instance : TyV Go.Proofs.Try.prog 22 false 1 := ⟨by kernel_rfl, by kernel_rfl⟩
instance : TyZ Go.Proofs.Try.prog 22 8 .nilFunc := ⟨by kernel_rfl⟩
instance : TyV Go.Proofs.Try.prog 23 true 4 := ⟨by kernel_rfl, by kernel_rfl⟩
instance : TyPl Go.Proofs.Try.prog 23 [(0, 1), (1, 1), (2, 1), (3, 1)] := ⟨by kernel_rfl⟩
instance : TyEqI Go.Proofs.Try.prog 23 4 := ⟨by kernel_rfl, by kernel_rfl, by kernel_rfl⟩
instance : TyFld Go.Proofs.Try.prog 23 0 0 0 false := ⟨by kernel_rfl⟩
instance : TyFld Go.Proofs.Try.prog 23 1 1 0 false := ⟨by kernel_rfl⟩
instance : TyFld Go.Proofs.Try.prog 23 2 2 0 false := ⟨by kernel_rfl⟩
instance : TyFld Go.Proofs.Try.prog 23 3 3 0 false := ⟨by kernel_rfl⟩
instance : TyZ Go.Proofs.Try.prog 23 32 (.agg #[(.int .i64 0), (.int .i64 0), (.int .i64 0), (.int .i64 0)]) := ⟨by kernel_rfl⟩
instance : TyV Go.Proofs.Try.prog 24 true 4 := ⟨by kernel_rfl, by kernel_rfl⟩
instance : TyPl Go.Proofs.Try.prog 24 [(0, 1), (1, 1), (2, 1), (3, 1)] := ⟨by kernel_rfl⟩
instance : TyEqI Go.Proofs.Try.prog 24 4 := ⟨by kernel_rfl, by kernel_rfl, by kernel_rfl⟩
instance : TyFld Go.Proofs.Try.prog 24 0 0 0 false := ⟨by kernel_rfl⟩
instance : TyFld Go.Proofs.Try.prog 24 1 1 0 false := ⟨by kernel_rfl⟩
instance : TyFld Go.Proofs.Try.prog 24 2 2 0 false := ⟨by kernel_rfl⟩
instance : TyFld Go.Proofs.Try.prog 24 3 3 0 false := ⟨by kernel_rfl⟩
instance : TyZ Go.Proofs.Try.prog 24 32 (.agg #[(.int .i64 0), (.int .i64 0), (.int .i64 0), (.int .i64 0)]) := ⟨by kernel_rfl⟩
instance : TyV Go.Proofs.Try.prog 25 false 1 := ⟨by kernel_rfl, by kernel_rfl⟩
instance : TySl Go.Proofs.Try.prog 25 80 := ⟨by kernel_rfl⟩
instance : TyZ Go.Proofs.Try.prog 25 24 (.slice none 0 0) := ⟨by kernel_rfl⟩
instance : TyV Go.Proofs.Try.prog 26 false 1 := ⟨by kernel_rfl, by kernel_rfl⟩
instance : TySl Go.Proofs.Try.prog 26 84 := ⟨by kernel_rfl⟩
instance : TyZ Go.Proofs.Try.prog 26 24 (.slice none 0 0) := ⟨by kernel_rfl⟩
instance : TyV Go.Proofs.Try.prog 27 true 8 := ⟨by kernel_rfl, by kernel_rfl⟩
instance : TyPl Go.Proofs.Try.prog 27 [(0, 1), (1, 4), (5, 1), (6, 1), (7, 1)] := ⟨by kernel_rfl⟩
instance : TyFld Go.Proofs.Try.prog 27 0 0 0 false := ⟨by kernel_rfl⟩
instance : TyFld Go.Proofs.Try.prog 27 1 1 3 true := ⟨by kernel_rfl⟩
instance : TyFld Go.Proofs.Try.prog 27 2 5 0 false := ⟨by kernel_rfl⟩
instance : TyFld Go.Proofs.Try.prog 27 3 6 0 false := ⟨by kernel_rfl⟩
instance : TyFld Go.Proofs.Try.prog 27 4 7 0 false := ⟨by kernel_rfl⟩
instance : TyZ Go.Proofs.Try.prog 27 96 (.agg #[(.int .i64 0), (.int .i64 0), (.int .i64 0), (.int .i64 0), (.int .i64 0), (.bool false), (.slice none 0 0), (.slice none 0 0)]) := ⟨by kernel_rfl⟩
instance : TyV Go.Proofs.Try.prog 28 true 8 := ⟨by kernel_rfl, by kernel_rfl⟩
instance : TyPl Go.Proofs.Try.prog 28 [(0, 1), (1, 4), (5, 1), (6, 1), (7, 1)] := ⟨by kernel_rfl⟩
instance : TyFld Go.Proofs.Try.prog 28 0 0 0 false := ⟨by kernel_rfl⟩
instance : TyFld Go.Proofs.Try.prog 28 1 1 3 true := ⟨by kernel_rfl⟩
instance : TyFld Go.Proofs.Try.prog 28 2 5 0 false := ⟨by kernel_rfl⟩
instance : TyFld Go.Proofs.Try.prog 28 3 6 0 false := ⟨by kernel_rfl⟩
instance : TyFld Go.Proofs.Try.prog 28 4 7 0 false := ⟨by kernel_rfl⟩
instance : TyZ Go.Proofs.Try.prog 28 96 (.agg #[(.int .i64 0), (.int .i64 0), (.int .i64 0), (.int .i64 0), (.int .i64 0), (.bool false), (.slice none 0 0), (.slice none 0 0)]) := ⟨by kernel_rfl⟩
instance : TyV Go.Proofs.Try.prog 29 false 1 := ⟨by kernel_rfl, by kernel_rfl⟩
instance : TyInt Go.Proofs.Try.prog 29 .i64 := ⟨by kernel_rfl⟩
instance : TyZ Go.Proofs.Try.prog 29 8 (.int .i64 0) := ⟨by kernel_rfl⟩
instance : TyV Go.Proofs.Try.prog 31 false 1 := ⟨by kernel_rfl, by kernel_rfl⟩
instance : TyZ Go.Proofs.Try.prog 31 8 .nilFunc := ⟨by kernel_rfl⟩
instance : TyV Go.Proofs.Try.prog 32 false 1 := ⟨by kernel_rfl, by kernel_rfl⟩
instance : TyZ Go.Proofs.Try.prog 32 8 .nilFunc := ⟨by kernel_rfl⟩
instance : TyV Go.Proofs.Try.prog 33 true 1 := ⟨by kernel_rfl, by kernel_rfl⟩
instance : TyPl Go.Proofs.Try.prog 33 [(0, 1)] := ⟨by kernel_rfl⟩
instance : TyEqI Go.Proofs.Try.prog 33 1 := ⟨by kernel_rfl, by kernel_rfl, by kernel_rfl⟩
instance : TyFld Go.Proofs.Try.prog 33 0 0 0 false := ⟨by kernel_rfl⟩
instance : TyZ Go.Proofs.Try.prog 33 8 (.agg #[(.int .i64 0)]) := ⟨by kernel_rfl⟩
instance : TyV Go.Proofs.Try.prog 34 true 1 := ⟨by kernel_rfl, by kernel_rfl⟩
instance : TyPl Go.Proofs.Try.prog 34 [(0, 1)] := ⟨by kernel_rfl⟩
instance : TyEqI Go.Proofs.Try.prog 34 1 := ⟨by kernel_rfl, by kernel_rfl, by kernel_rfl⟩
instance : TyFld Go.Proofs.Try.prog 34 0 0 0 false := ⟨by kernel_rfl⟩
instance : TyZ Go.Proofs.Try.prog 34 8 (.agg #[(.int .i64 0)]) := ⟨by kernel_rfl⟩
instance : TyV Go.Proofs.Try.prog 35 false 1 := ⟨by kernel_rfl, by kernel_rfl⟩
instance : TySl Go.Proofs.Try.prog 35 3 := ⟨by kernel_rfl⟩
instance : TyZ Go.Proofs.Try.prog 35 24 (.slice none 0 0) := ⟨by kernel_rfl⟩
instance : TyV Go.Proofs.Try.prog 36 false 1 := ⟨by kernel_rfl, by kernel_rfl⟩
instance : TySl Go.Proofs.Try.prog 36 35 := ⟨by kernel_rfl⟩
instance : TyZ Go.Proofs.Try.prog 36 24 (.slice none 0 0) := ⟨by kernel_rfl⟩
instance : TyV Go.Proofs.Try.prog 37 true 4 := ⟨by kernel_rfl, by kernel_rfl⟩
instance : TyPl Go.Proofs.Try.prog 37 [(0, 1), (1, 1), (2, 1), (3, 1)] := ⟨by kernel_rfl⟩
instance : TyFld Go.Proofs.Try.prog 37 0 0 0 false := ⟨by kernel_rfl⟩
instance : TyFld Go.Proofs.Try.prog 37 1 1 0 true := ⟨by kernel_rfl⟩
instance : TyFld Go.Proofs.Try.prog 37 2 2 0 false := ⟨by kernel_rfl⟩
instance : TyFld Go.Proofs.Try.prog 37 3 3 0 false := ⟨by kernel_rfl⟩
instance : TyZ Go.Proofs.Try.prog 37 48 (.agg #[(.int .i64 0), (.int .i64 0), (.int .i64 0), (.slice none 0 0)]) := ⟨by kernel_rfl⟩
instance : TyV Go.Proofs.Try.prog 38 true 4 := ⟨by kernel_rfl, by kernel_rfl⟩
instance : TyPl Go.Proofs.Try.prog 38 [(0, 1), (1, 1), (2, 1), (3, 1)] := ⟨by kernel_rfl⟩
instance : TyFld Go.Proofs.Try.prog 38 0 0 0 false := ⟨by kernel_rfl⟩
instance : TyFld Go.Proofs.Try.prog 38 1 1 0 true := ⟨by kernel_rfl⟩
instance : TyFld Go.Proofs.Try.prog 38 2 2 0 false := ⟨by kernel_rfl⟩
instance : TyFld Go.Proofs.Try.prog 38 3 3 0 false := ⟨by kernel_rfl⟩
instance : TyZ Go.Proofs.Try.prog 38 48 (.agg #[(.int .i64 0), (.int .i64 0), (.int .i64 0), (.slice none 0 0)]) := ⟨by kernel_rfl⟩
instance : TyV Go.Proofs.Try.prog 39 false 1 := ⟨by kernel_rfl, by kernel_rfl⟩
instance : TyZ Go.Proofs.Try.prog 39 8 .nilFunc := ⟨by kernel_rfl⟩
instance : TyV Go.Proofs.Try.prog 40 true 8 := ⟨by kernel_rfl, by kernel_rfl⟩
instance : TyPl Go.Proofs.Try.prog 40 [(0, 1), (1, 1), (2, 1), (3, 1), (4, 1), (5, 1), (6, 1), (7, 1)] := ⟨by kernel_rfl⟩
instance : TyFld Go.Proofs.Try.prog 40 0 0 0 false := ⟨by kernel_rfl⟩
instance : TyFld Go.Proofs.Try.prog 40 1 1 0 false := ⟨by kernel_rfl⟩
instance : TyFld Go.Proofs.Try.prog 40 2 2 0 false := ⟨by kernel_rfl⟩
instance : TyFld Go.Proofs.Try.prog 40 3 3 0 false := ⟨by kernel_rfl⟩
instance : TyFld Go.Proofs.Try.prog 40 4 4 0 false := ⟨by kernel_rfl⟩
instance : TyFld Go.Proofs.Try.prog 40 5 5 0 false := ⟨by kernel_rfl⟩
instance : TyFld Go.Proofs.Try.prog 40 6 6 0 false := ⟨by kernel_rfl⟩
instance : TyFld Go.Proofs.Try.prog 40 7 7 0 false := ⟨by kernel_rfl⟩
instance : TyZ Go.Proofs.Try.prog 40 96 (.agg #[(.int .i64 0), (.int .i64 0), (.int .i64 0), (.int .i64 0), (.int .i64 0), (.slice none 0 0), (.slice none 0 0), (.int .i64 0)]) := ⟨by kernel_rfl⟩
instance : TyV Go.Proofs.Try.prog 41 true 8 := ⟨by kernel_rfl, by kernel_rfl⟩
instance : TyPl Go.Proofs.Try.prog 41 [(0, 1), (1, 1), (2, 1), (3, 1), (4, 1), (5, 1), (6, 1), (7, 1)] := ⟨by kernel_rfl⟩
instance : TyFld Go.Proofs.Try.prog 41 0 0 0 false := ⟨by kernel_rfl⟩
instance : TyFld Go.Proofs.Try.prog 41 1 1 0 false := ⟨by kernel_rfl⟩
instance : TyFld Go.Proofs.Try.prog 41 2 2 0 false := ⟨by kernel_rfl⟩
instance : TyFld Go.Proofs.Try.prog 41 3 3 0 false := ⟨by kernel_rfl⟩
instance : TyFld Go.Proofs.Try.prog 41 4 4 0 false := ⟨by kernel_rfl⟩
instance : TyFld Go.Proofs.Try.prog 41 5 5 0 false := ⟨by kernel_rfl⟩
instance : TyFld Go.Proofs.Try.prog 41 6 6 0 false := ⟨by kernel_rfl⟩
instance : TyFld Go.Proofs.Try.prog 41 7 7 0 false := ⟨by kernel_rfl⟩
instance : TyZ Go.Proofs.Try.prog 41 96 (.agg #[(.int .i64 0), (.int .i64 0), (.int .i64 0), (.int .i64 0), (.int .i64 0), (.slice none 0 0), (.slice none 0 0), (.int .i64 0)]) := ⟨by kernel_rfl⟩
instance : TyV Go.Proofs.Try.prog 42 false 1 := ⟨by kernel_rfl, by kernel_rfl⟩
instance : TyZ Go.Proofs.Try.prog 42 8 .nilFunc := ⟨by kernel_rfl⟩
instance : TyV Go.Proofs.Try.prog 43 false 1 := ⟨by kernel_rfl, by kernel_rfl⟩
instance : TyZ Go.Proofs.Try.prog 43 8 .nilFunc := ⟨by kernel_rfl⟩
instance : TyV Go.Proofs.Try.prog 44 false 1 := ⟨by kernel_rfl, by kernel_rfl⟩
instance : TySl Go.Proofs.Try.prog 44 5 := ⟨by kernel_rfl⟩
instance : TyZ Go.Proofs.Try.prog 44 24 (.slice none 0 0) := ⟨by kernel_rfl⟩
instance : TyV Go.Proofs.Try.prog 45 false 1 := ⟨by kernel_rfl, by kernel_rfl⟩
instance : TyZ Go.Proofs.Try.prog 45 8 (.pointer none) := ⟨by kernel_rfl⟩
instance : TyV Go.Proofs.Try.prog 46 false 1 := ⟨by kernel_rfl, by kernel_rfl⟩
instance : TyZ Go.Proofs.Try.prog 46 8 .nilFunc := ⟨by kernel_rfl⟩
instance : TyV Go.Proofs.Try.prog 47 false 1 := ⟨by kernel_rfl, by kernel_rfl⟩
instance : TyZ Go.Proofs.Try.prog 47 8 .nilFunc := ⟨by kernel_rfl⟩
instance : TyV Go.Proofs.Try.prog 48 false 1 := ⟨by kernel_rfl, by kernel_rfl⟩
instance : TyZ Go.Proofs.Try.prog 48 8 .nilFunc := ⟨by kernel_rfl⟩
instance : TyV Go.Proofs.Try.prog 49 false 1 := ⟨by kernel_rfl, by kernel_rfl⟩
instance : TyZ Go.Proofs.Try.prog 49 8 .nilFunc := ⟨by kernel_rfl⟩
instance : TyV Go.Proofs.Try.prog 50 false 1 := ⟨by kernel_rfl, by kernel_rfl⟩
instance : TySl Go.Proofs.Try.prog 50 38 := ⟨by kernel_rfl⟩
instance : TyZ Go.Proofs.Try.prog 50 24 (.slice none 0 0) := ⟨by kernel_rfl⟩
instance : TyV Go.Proofs.Try.prog 51 false 1 := ⟨by kernel_rfl, by kernel_rfl⟩
instance : TyZ Go.Proofs.Try.prog 51 8 .nilFunc := ⟨by kernel_rfl⟩
instance : TyV Go.Proofs.Try.prog 52 false 1 := ⟨by kernel_rfl, by kernel_rfl⟩
instance : TyZ Go.Proofs.Try.prog 52 8 .nilFunc := ⟨by kernel_rfl⟩
instance : TyV Go.Proofs.Try.prog 53 false 1 := ⟨by kernel_rfl, by kernel_rfl⟩
instance : TyZ Go.Proofs.Try.prog 53 8 .nilFunc := ⟨by kernel_rfl⟩
instance : TyV Go.Proofs.Try.prog 54 false 1 := ⟨by kernel_rfl, by kernel_rfl⟩
instance : TyZ Go.Proofs.Try.prog 54 8 .nilFunc := ⟨by kernel_rfl⟩
instance : TyV Go.Proofs.Try.prog 56 false 1 := ⟨by kernel_rfl, by kernel_rfl⟩
instance : TyZ Go.Proofs.Try.prog 56 8 .nilFunc := ⟨by kernel_rfl⟩
instance : TyV Go.Proofs.Try.prog 57 false 1 := ⟨by kernel_rfl, by kernel_rfl⟩
instance : TyZ Go.Proofs.Try.prog 57 8 .nilFunc := ⟨by kernel_rfl⟩
instance : TyV Go.Proofs.Try.prog 59 false 1 := ⟨by kernel_rfl, by kernel_rfl⟩
instance : TyZ Go.Proofs.Try.prog 59 8 .nilFunc := ⟨by kernel_rfl⟩
instance : TyV Go.Proofs.Try.prog 61 false 1 := ⟨by kernel_rfl, by kernel_rfl⟩
instance : TyZ Go.Proofs.Try.prog 61 8 .nilFunc := ⟨by kernel_rfl⟩
instance : TyV Go.Proofs.Try.prog 62 true 2 := ⟨by kernel_rfl, by kernel_rfl⟩
instance : TyPl Go.Proofs.Try.prog 62 [(0, 1), (1, 1)] := ⟨by kernel_rfl⟩
instance : TyEqI Go.Proofs.Try.prog 62 2 := ⟨by kernel_rfl, by kernel_rfl, by kernel_rfl⟩
instance : TyFld Go.Proofs.Try.prog 62 0 0 0 false := ⟨by kernel_rfl⟩
instance : TyFld Go.Proofs.Try.prog 62 1 1 0 false := ⟨by kernel_rfl⟩
instance : TyZ Go.Proofs.Try.prog 62 16 (.agg #[(.int .i64 0), (.int .i64 0)]) := ⟨by kernel_rfl⟩
instance : TyV Go.Proofs.Try.prog 63 true 2 := ⟨by kernel_rfl, by kernel_rfl⟩
instance : TyPl Go.Proofs.Try.prog 63 [(0, 1), (1, 1)] := ⟨by kernel_rfl⟩
instance : TyEqI Go.Proofs.Try.prog 63 2 := ⟨by kernel_rfl, by kernel_rfl, by kernel_rfl⟩
instance : TyFld Go.Proofs.Try.prog 63 0 0 0 false := ⟨by kernel_rfl⟩
instance : TyFld Go.Proofs.Try.prog 63 1 1 0 false := ⟨by kernel_rfl⟩
instance : TyZ Go.Proofs.Try.prog 63 16 (.agg #[(.int .i64 0), (.int .i64 0)]) := ⟨by kernel_rfl⟩
instance : TyV Go.Proofs.Try.prog 64 false 1 := ⟨by kernel_rfl, by kernel_rfl⟩
instance : TySl Go.Proofs.Try.prog 64 63 := ⟨by kernel_rfl⟩
instance : TyZ Go.Proofs.Try.prog 64 24 (.slice none 0 0) := ⟨by kernel_rfl⟩
instance : TyV Go.Proofs.Try.prog 65 false 1 := ⟨by kernel_rfl, by kernel_rfl⟩
instance : TyZ Go.Proofs.Try.prog 65 8 .nilFunc := ⟨by kernel_rfl⟩
instance : TyV Go.Proofs.Try.prog 66 false 1 := ⟨by kernel_rfl, by kernel_rfl⟩
instance : TyZ Go.Proofs.Try.prog 66 8 .nilFunc := ⟨by kernel_rfl⟩
instance : TyV Go.Proofs.Try.prog 67 false 1 := ⟨by kernel_rfl, by kernel_rfl⟩
instance : TyZ Go.Proofs.Try.prog 67 8 .nilFunc := ⟨by kernel_rfl⟩
instance : TyV Go.Proofs.Try.prog 68 false 1 := ⟨by kernel_rfl, by kernel_rfl⟩
instance : TyZ Go.Proofs.Try.prog 68 8 .nilFunc := ⟨by kernel_rfl⟩
instance : TyV Go.Proofs.Try.prog 69 false 1 := ⟨by kernel_rfl, by kernel_rfl⟩
instance : TyZ Go.Proofs.Try.prog 69 8 .nilFunc := ⟨by kernel_rfl⟩
instance : TyV Go.Proofs.Try.prog 70 false 1 := ⟨by kernel_rfl, by kernel_rfl⟩
instance : TyZ Go.Proofs.Try.prog 70 8 .nilFunc := ⟨by kernel_rfl⟩
instance : TyV Go.Proofs.Try.prog 71 true 5 := ⟨by kernel_rfl, by kernel_rfl⟩
instance : TyPl Go.Proofs.Try.prog 71 [(0, 1), (1, 1), (2, 1), (3, 1), (4, 1)] := ⟨by kernel_rfl⟩
instance : TyEqI Go.Proofs.Try.prog 71 5 := ⟨by kernel_rfl, by kernel_rfl, by kernel_rfl⟩
instance : TyFld Go.Proofs.Try.prog 71 0 0 0 false := ⟨by kernel_rfl⟩
instance : TyFld Go.Proofs.Try.prog 71 1 1 0 false := ⟨by kernel_rfl⟩
instance : TyFld Go.Proofs.Try.prog 71 2 2 0 false := ⟨by kernel_rfl⟩
instance : TyFld Go.Proofs.Try.prog 71 3 3 0 false := ⟨by kernel_rfl⟩
instance : TyFld Go.Proofs.Try.prog 71 4 4 0 false := ⟨by kernel_rfl⟩
instance : TyZ Go.Proofs.Try.prog 71 40 (.agg #[(.int .i64 0), (.int .i64 0), (.int .i64 0), (.int .i64 0), (.int .i64 0)]) := ⟨by kernel_rfl⟩
instance : TyV Go.Proofs.Try.prog 72 true 5 := ⟨by kernel_rfl, by kernel_rfl⟩
instance : TyPl Go.Proofs.Try.prog 72 [(0, 1), (1, 1), (2, 1), (3, 1), (4, 1)] := ⟨by kernel_rfl⟩
instance : TyEqI Go.Proofs.Try.prog 72 5 := ⟨by kernel_rfl, by kernel_rfl, by kernel_rfl⟩
instance : TyFld Go.Proofs.Try.prog 72 0 0 0 false := ⟨by kernel_rfl⟩
instance : TyFld Go.Proofs.Try.prog 72 1 1 0 false := ⟨by kernel_rfl⟩
instance : TyFld Go.Proofs.Try.prog 72 2 2 0 false := ⟨by kernel_rfl⟩
instance : TyFld Go.Proofs.Try.prog 72 3 3 0 false := ⟨by kernel_rfl⟩
instance : TyFld Go.Proofs.Try.prog 72 4 4 0 false := ⟨by kernel_rfl⟩
instance : TyZ Go.Proofs.Try.prog 72 40 (.agg #[(.int .i64 0), (.int .i64 0), (.int .i64 0), (.int .i64 0), (.int .i64 0)]) := ⟨by kernel_rfl⟩
instance : TyV Go.Proofs.Try.prog 74 false 1 := ⟨by kernel_rfl, by kernel_rfl⟩
instance : TyZ Go.Proofs.Try.prog 74 8 .nilFunc := ⟨by kernel_rfl⟩
instance : TyV Go.Proofs.Try.prog 76 false 1 := ⟨by kernel_rfl, by kernel_rfl⟩
instance : TyZ Go.Proofs.Try.prog 76 8 .nilFunc := ⟨by kernel_rfl⟩
instance : TyV Go.Proofs.Try.prog 77 false 1 := ⟨by kernel_rfl, by kernel_rfl⟩
instance : TyZ Go.Proofs.Try.prog 77 8 .nilFunc := ⟨by kernel_rfl⟩
instance : TyV Go.Proofs.Try.prog 78 false 1 := ⟨by kernel_rfl, by kernel_rfl⟩
instance : TyZ Go.Proofs.Try.prog 78 8 .nilFunc := ⟨by kernel_rfl⟩
instance : TyV Go.Proofs.Try.prog 79 true 6 := ⟨by kernel_rfl, by kernel_rfl⟩
instance : TyPl Go.Proofs.Try.prog 79 [(0, 5), (5, 1)] := ⟨by kernel_rfl⟩
instance : TyFld Go.Proofs.Try.prog 79 0 0 4 true := ⟨by kernel_rfl⟩
instance : TyFld Go.Proofs.Try.prog 79 1 5 0 false := ⟨by kernel_rfl⟩
instance : TyZ Go.Proofs.Try.prog 79 64 (.agg #[(.int .i64 0), (.int .i64 0), (.int .i64 0), (.int .i64 0), (.int .i64 0), (.slice none 0 0)]) := ⟨by kernel_rfl⟩
instance : TyV Go.Proofs.Try.prog 80 true 6 := ⟨by kernel_rfl, by kernel_rfl⟩
instance : TyPl Go.Proofs.Try.prog 80 [(0, 5), (5, 1)] := ⟨by kernel_rfl⟩
instance : TyFld Go.Proofs.Try.prog 80 0 0 4 true := ⟨by kernel_rfl⟩
instance : TyFld Go.Proofs.Try.prog 80 1 5 0 false := ⟨by kernel_rfl⟩
instance : TyZ Go.Proofs.Try.prog 80 64 (.agg #[(.int .i64 0), (.int .i64 0), (.int .i64 0), (.int .i64 0), (.int .i64 0), (.slice none 0 0)]) := ⟨by kernel_rfl⟩
instance : TyV Go.Proofs.Try.prog 81 false 1 := ⟨by kernel_rfl, by kernel_rfl⟩
instance : TyZ Go.Proofs.Try.prog 81 8 .nilFunc := ⟨by kernel_rfl⟩
instance : TyV Go.Proofs.Try.prog 82 false 1 := ⟨by kernel_rfl, by kernel_rfl⟩
instance : TyZ Go.Proofs.Try.prog 82 8 .nilFunc := ⟨by kernel_rfl⟩
instance : TyV Go.Proofs.Try.prog 83 true 5 := ⟨by kernel_rfl, by kernel_rfl⟩
instance : TyPl Go.Proofs.Try.prog 83 [(0, 1), (1, 1), (2, 1), (3, 1), (4, 1)] := ⟨by kernel_rfl⟩
instance : TyFld Go.Proofs.Try.prog 83 0 0 0 false := ⟨by kernel_rfl⟩
instance : TyFld Go.Proofs.Try.prog 83 1 1 0 false := ⟨by kernel_rfl⟩
instance : TyFld Go.Proofs.Try.prog 83 2 2 0 false := ⟨by kernel_rfl⟩
instance : TyFld Go.Proofs.Try.prog 83 3 3 0 false := ⟨by kernel_rfl⟩
instance : TyFld Go.Proofs.Try.prog 83 4 4 0 false := ⟨by kernel_rfl⟩
instance : TyZ Go.Proofs.Try.prog 83 72 (.agg #[(.int .i64 0), (.int .i64 0), (.int .i64 0), (.slice none 0 0), (.slice none 0 0)]) := ⟨by kernel_rfl⟩
instance : TyV Go.Proofs.Try.prog 84 true 5 := ⟨by kernel_rfl, by kernel_rfl⟩
instance : TyPl Go.Proofs.Try.prog 84 [(0, 1), (1, 1), (2, 1), (3, 1), (4, 1)] := ⟨by kernel_rfl⟩
instance : TyFld Go.Proofs.Try.prog 84 0 0 0 false := ⟨by kernel_rfl⟩
instance : TyFld Go.Proofs.Try.prog 84 1 1 0 false := ⟨by kernel_rfl⟩
instance : TyFld Go.Proofs.Try.prog 84 2 2 0 false := ⟨by kernel_rfl⟩
instance : TyFld Go.Proofs.Try.prog 84 3 3 0 false := ⟨by kernel_rfl⟩
instance : TyFld Go.Proofs.Try.prog 84 4 4 0 false := ⟨by kernel_rfl⟩
instance : TyZ Go.Proofs.Try.prog 84 72 (.agg #[(.int .i64 0), (.int .i64 0), (.int .i64 0), (.slice none 0 0), (.slice none 0 0)]) := ⟨by kernel_rfl⟩
instance : TyV Go.Proofs.Try.prog 85 false 1 := ⟨by kernel_rfl, by kernel_rfl⟩
instance : TyZ Go.Proofs.Try.prog 85 8 .nilFunc := ⟨by kernel_rfl⟩
instance : TyV Go.Proofs.Try.prog 86 false 1 := ⟨by kernel_rfl, by kernel_rfl⟩
instance : TyZ Go.Proofs.Try.prog 86 8 .nilFunc := ⟨by kernel_rfl⟩
instance : TyV Go.Proofs.Try.prog 87 false 1 := ⟨by kernel_rfl, by kernel_rfl⟩
instance : TyZ Go.Proofs.Try.prog 87 8 .nilFunc := ⟨by kernel_rfl⟩
instance : TyV Go.Proofs.Try.prog 88 true 2 := ⟨by kernel_rfl, by kernel_rfl⟩
instance : TyPl Go.Proofs.Try.prog 88 [(0, 1), (1, 1)] := ⟨by kernel_rfl⟩
instance : TyFld Go.Proofs.Try.prog 88 0 0 0 false := ⟨by kernel_rfl⟩
instance : TyFld Go.Proofs.Try.prog 88 1 1 0 false := ⟨by kernel_rfl⟩
instance : TyZ Go.Proofs.Try.prog 88 32 (.agg #[(.slice none 0 0), (.int .i64 0)]) := ⟨by kernel_rfl⟩
instance : TyV Go.Proofs.Try.prog 89 true 2 := ⟨by kernel_rfl, by kernel_rfl⟩
instance : TyPl Go.Proofs.Try.prog 89 [(0, 1), (1, 1)] := ⟨by kernel_rfl⟩
instance : TyFld Go.Proofs.Try.prog 89 0 0 0 false := ⟨by kernel_rfl⟩
instance : TyFld Go.Proofs.Try.prog 89 1 1 0 false := ⟨by kernel_rfl⟩
instance : TyZ Go.Proofs.Try.prog 89 32 (.agg #[(.slice none 0 0), (.int .i64 0)]) := ⟨by kernel_rfl⟩
instance : TyV Go.Proofs.Try.prog 90 false 1 := ⟨by kernel_rfl, by kernel_rfl⟩
instance : TyZ Go.Proofs.Try.prog 90 8 .nilFunc := ⟨by kernel_rfl⟩
instance : TyV Go.Proofs.Try.prog 91 false 1 := ⟨by kernel_rfl, by kernel_rfl⟩
instance : TyZ Go.Proofs.Try.prog 91 8 .nilFunc := ⟨by kernel_rfl⟩
instance : TyV Go.Proofs.Try.prog 92 false 1 := ⟨by kernel_rfl, by kernel_rfl⟩
instance : TyZ Go.Proofs.Try.prog 92 8 .nilFunc := ⟨by kernel_rfl⟩
instance : TyV Go.Proofs.Try.prog 93 true 3 := ⟨by kernel_rfl, by kernel_rfl⟩
instance : TyPl Go.Proofs.Try.prog 93 [(0, 1), (1, 1), (2, 1)] := ⟨by kernel_rfl⟩
instance : TyEqI Go.Proofs.Try.prog 93 3 := ⟨by kernel_rfl, by kernel_rfl, by kernel_rfl⟩
instance : TyFld Go.Proofs.Try.prog 93 0 0 0 false := ⟨by kernel_rfl⟩
instance : TyFld Go.Proofs.Try.prog 93 1 1 0 false := ⟨by kernel_rfl⟩
instance : TyFld Go.Proofs.Try.prog 93 2 2 0 false := ⟨by kernel_rfl⟩
instance : TyZ Go.Proofs.Try.prog 93 24 (.agg #[(.int .i64 0), (.int .i64 0), (.int .i64 0)]) := ⟨by kernel_rfl⟩
instance : TyV Go.Proofs.Try.prog 94 true 3 := ⟨by kernel_rfl, by kernel_rfl⟩
instance : TyPl Go.Proofs.Try.prog 94 [(0, 1), (1, 1), (2, 1)] := ⟨by kernel_rfl⟩
instance : TyEqI Go.Proofs.Try.prog 94 3 := ⟨by kernel_rfl, by kernel_rfl, by kernel_rfl⟩
instance : TyFld Go.Proofs.Try.prog 94 0 0 0 false := ⟨by kernel_rfl⟩
instance : TyFld Go.Proofs.Try.prog 94 1 1 0 false := ⟨by kernel_rfl⟩
instance : TyFld Go.Proofs.Try.prog 94 2 2 0 false := ⟨by kernel_rfl⟩
instance : TyZ Go.Proofs.Try.prog 94 24 (.agg #[(.int .i64 0), (.int .i64 0), (.int .i64 0)]) := ⟨by kernel_rfl⟩
instance : TyV Go.Proofs.Try.prog 95 false 1 := ⟨by kernel_rfl, by kernel_rfl⟩
instance : TyZ Go.Proofs.Try.prog 95 8 .nilFunc := ⟨by kernel_rfl⟩
instance : TyV Go.Proofs.Try.prog 96 false 1 := ⟨by kernel_rfl, by kernel_rfl⟩
instance : TyZ Go.Proofs.Try.prog 96 8 (.pointer none) := ⟨by kernel_rfl⟩
instance : TyV Go.Proofs.Try.prog 97 false 1 := ⟨by kernel_rfl, by kernel_rfl⟩
instance : TyZ Go.Proofs.Try.prog 97 8 .nilFunc := ⟨by kernel_rfl⟩
instance : TyV Go.Proofs.Try.prog 99 false 1 := ⟨by kernel_rfl, by kernel_rfl⟩
instance : TyZ Go.Proofs.Try.prog 99 8 .nilFunc := ⟨by kernel_rfl⟩
instance : TyV Go.Proofs.Try.prog 100 false 1 := ⟨by kernel_rfl, by kernel_rfl⟩
instance : TyZ Go.Proofs.Try.prog 100 8 .nilFunc := ⟨by kernel_rfl⟩
instance : TyV Go.Proofs.Try.prog 102 false 1 := ⟨by kernel_rfl, by kernel_rfl⟩
instance : TyZ Go.Proofs.Try.prog 102 8 .nilFunc := ⟨by kernel_rfl⟩
instance : TyV Go.Proofs.Try.prog 103 false 1 := ⟨by kernel_rfl, by kernel_rfl⟩
instance : TyZ Go.Proofs.Try.prog 103 8 .nilFunc := ⟨by kernel_rfl⟩
instance : TyV Go.Proofs.Try.prog 104 false 1 := ⟨by kernel_rfl, by kernel_rfl⟩
instance : TyZ Go.Proofs.Try.prog 104 8 .nilFunc := ⟨by kernel_rfl⟩
instance : TyV Go.Proofs.Try.prog 105 false 1 := ⟨by kernel_rfl, by kernel_rfl⟩
instance : TyZ Go.Proofs.Try.prog 105 8 .nilFunc := ⟨by kernel_rfl⟩
instance : TyV Go.Proofs.Try.prog 106 false 1 := ⟨by kernel_rfl, by kernel_rfl⟩
instance : TyZ Go.Proofs.Try.prog 106 8 .nilFunc := ⟨by kernel_rfl⟩
instance : TyV Go.Proofs.Try.prog 107 false 1 := ⟨by kernel_rfl, by kernel_rfl⟩
instance : TyZ Go.Proofs.Try.prog 107 8 .nilFunc := ⟨by kernel_rfl⟩
instance : TyV Go.Proofs.Try.prog 108 false 1 := ⟨by kernel_rfl, by kernel_rfl⟩
instance : TyZ Go.Proofs.Try.prog 108 8 .nilFunc := ⟨by kernel_rfl⟩
instance : TyV Go.Proofs.Try.prog 109 false 1 := ⟨by kernel_rfl, by kernel_rfl⟩
instance : TyZ Go.Proofs.Try.prog 109 8 .nilFunc := ⟨by kernel_rfl⟩
instance : TyV Go.Proofs.Try.prog 110 false 1 := ⟨by kernel_rfl, by kernel_rfl⟩
instance : TyZ Go.Proofs.Try.prog 110 8 .nilFunc := ⟨by kernel_rfl⟩
instance : TyV Go.Proofs.Try.prog 111 false 1 := ⟨by kernel_rfl, by kernel_rfl⟩
instance : TyZ Go.Proofs.Try.prog 111 8 .nilFunc := ⟨by kernel_rfl⟩
instance : TyV Go.Proofs.Try.prog 112 false 1 := ⟨by kernel_rfl, by kernel_rfl⟩
instance : TyZ Go.Proofs.Try.prog 112 8 .nilFunc := ⟨by kernel_rfl⟩
instance : TyV Go.Proofs.Try.prog 113 false 1 := ⟨by kernel_rfl, by kernel_rfl⟩
instance : TyZ Go.Proofs.Try.prog 113 8 .nilFunc := ⟨by kernel_rfl⟩
instance : TyV Go.Proofs.Try.prog 114 false 1 := ⟨by kernel_rfl, by kernel_rfl⟩
instance : TyZ Go.Proofs.Try.prog 114 8 .nilFunc := ⟨by kernel_rfl⟩
instance : TyV Go.Proofs.Try.prog 115 false 1 := ⟨by kernel_rfl, by kernel_rfl⟩
instance : TyZ Go.Proofs.Try.prog 115 8 .nilFunc := ⟨by kernel_rfl⟩
instance : TyV Go.Proofs.Try.prog 116 false 1 := ⟨by kernel_rfl, by kernel_rfl⟩
instance : TyZ Go.Proofs.Try.prog 116 8 .nilFunc := ⟨by kernel_rfl⟩
instance : TyV Go.Proofs.Try.prog 117 false 1 := ⟨by kernel_rfl, by kernel_rfl⟩
instance : TyInt Go.Proofs.Try.prog 117 .i64 := ⟨by kernel_rfl⟩
instance : TyZ Go.Proofs.Try.prog 117 8 (.int .i64 0) := ⟨by kernel_rfl⟩
instance : TyV Go.Proofs.Try.prog 119 false 1 := ⟨by kernel_rfl, by kernel_rfl⟩
instance : TyZ Go.Proofs.Try.prog 119 8 .nilFunc := ⟨by kernel_rfl⟩
instance : TyV Go.Proofs.Try.prog 120 false 1 := ⟨by kernel_rfl, by kernel_rfl⟩
instance : TyZ Go.Proofs.Try.prog 120 8 .nilFunc := ⟨by kernel_rfl⟩
instance : TyV Go.Proofs.Try.prog 121 false 1 := ⟨by kernel_rfl, by kernel_rfl⟩
instance : TyZ Go.Proofs.Try.prog 121 8 .nilFunc := ⟨by kernel_rfl⟩
instance : TyV Go.Proofs.Try.prog 122 false 1 := ⟨by kernel_rfl, by kernel_rfl⟩
instance : TyZ Go.Proofs.Try.prog 122 8 .nilFunc := ⟨by kernel_rfl⟩
instance : TyV Go.Proofs.Try.prog 123 false 1 := ⟨by kernel_rfl, by kernel_rfl⟩
instance : TyZ Go.Proofs.Try.prog 123 8 .nilFunc := ⟨by kernel_rfl⟩
instance : TyV Go.Proofs.Try.prog 124 false 1 := ⟨by kernel_rfl, by kernel_rfl⟩
instance : TyZ Go.Proofs.Try.prog 124 8 .nilFunc := ⟨by kernel_rfl⟩
instance : TyV Go.Proofs.Try.prog 125 false 1 := ⟨by kernel_rfl, by kernel_rfl⟩
instance : TyZ Go.Proofs.Try.prog 125 8 .nilFunc := ⟨by kernel_rfl⟩
instance : TyV Go.Proofs.Try.prog 126 false 1 := ⟨by kernel_rfl, by kernel_rfl⟩
instance : TyZ Go.Proofs.Try.prog 126 8 .nilFunc := ⟨by kernel_rfl⟩
instance : TyV Go.Proofs.Try.prog 127 false 1 := ⟨by kernel_rfl, by kernel_rfl⟩
instance : TyZ Go.Proofs.Try.prog 127 8 .nilFunc := ⟨by kernel_rfl⟩
instance : TyV Go.Proofs.Try.prog 128 false 1 := ⟨by kernel_rfl, by kernel_rfl⟩
instance : TyZ Go.Proofs.Try.prog 128 8 .nilFunc := ⟨by kernel_rfl⟩
instance : TyV Go.Proofs.Try.prog 129 false 1 := ⟨by kernel_rfl, by kernel_rfl⟩
instance : TyZ Go.Proofs.Try.prog 129 8 .nilFunc := ⟨by kernel_rfl⟩
instance : TyV Go.Proofs.Try.prog 130 false 1 := ⟨by kernel_rfl, by kernel_rfl⟩
instance : TyZ Go.Proofs.Try.prog 130 8 .nilFunc := ⟨by kernel_rfl⟩
instance : TyV Go.Proofs.Try.prog 131 false 1 := ⟨by kernel_rfl, by kernel_rfl⟩
instance : TyInt Go.Proofs.Try.prog 131 .u64 := ⟨by kernel_rfl⟩
instance : TyZ Go.Proofs.Try.prog 131 8 (.int .u64 0) := ⟨by kernel_rfl⟩
instance : TyV Go.Proofs.Try.prog 132 false 1 := ⟨by kernel_rfl, by kernel_rfl⟩
instance : TyZ Go.Proofs.Try.prog 132 8 .nilFunc := ⟨by kernel_rfl⟩
instance : TyV Go.Proofs.Try.prog 133 false 1 := ⟨by kernel_rfl, by kernel_rfl⟩
instance : TyZ Go.Proofs.Try.prog 133 8 .nilFunc := ⟨by kernel_rfl⟩
instance : TyV Go.Proofs.Try.prog 134 false 1 := ⟨by kernel_rfl, by kernel_rfl⟩
instance : TyZ Go.Proofs.Try.prog 134 8 .nilFunc := ⟨by kernel_rfl⟩
instance : TyV Go.Proofs.Try.prog 135 false 1 := ⟨by kernel_rfl, by kernel_rfl⟩
instance : TyZ Go.Proofs.Try.prog 135 8 .nilFunc := ⟨by kernel_rfl⟩
instance : TyV Go.Proofs.Try.prog 136 false 1 := ⟨by kernel_rfl, by kernel_rfl⟩
instance : TyZ Go.Proofs.Try.prog 136 8 .nilFunc := ⟨by kernel_rfl⟩
instance : TyV Go.Proofs.Try.prog 137 false 1 := ⟨by kernel_rfl, by kernel_rfl⟩
instance : TyZ Go.Proofs.Try.prog 137 8 .nilFunc := ⟨by kernel_rfl⟩
instance : TyV Go.Proofs.Try.prog 138 false 1 := ⟨by kernel_rfl, by kernel_rfl⟩
instance : TyZ Go.Proofs.Try.prog 138 8 .nilFunc := ⟨by kernel_rfl⟩
instance : TyV Go.Proofs.Try.prog 139 false 1 := ⟨by kernel_rfl, by kernel_rfl⟩
instance : TyZ Go.Proofs.Try.prog 139 8 .nilFunc := ⟨by kernel_rfl⟩
instance : TyV Go.Proofs.Try.prog 140 false 1 := ⟨by kernel_rfl, by kernel_rfl⟩
instance : TyZ Go.Proofs.Try.prog 140 8 .nilFunc := ⟨by kernel_rfl⟩
instance : TyV Go.Proofs.Try.prog 141 true 4 := ⟨by kernel_rfl, by kernel_rfl⟩
instance : TyPl Go.Proofs.Try.prog 141 [(0, 1), (1, 1), (2, 1), (3, 1)] := ⟨by kernel_rfl⟩
instance : TyFld Go.Proofs.Try.prog 141 0 0 0 false := ⟨by kernel_rfl⟩
instance : TyFld Go.Proofs.Try.prog 141 1 1 0 false := ⟨by kernel_rfl⟩
instance : TyFld Go.Proofs.Try.prog 141 2 2 0 false := ⟨by kernel_rfl⟩
instance : TyFld Go.Proofs.Try.prog 141 3 3 0 false := ⟨by kernel_rfl⟩
instance : TyV Go.Proofs.Try.prog 142 true 4 := ⟨by kernel_rfl, by kernel_rfl⟩
instance : TyPl Go.Proofs.Try.prog 142 [(0, 1), (1, 1), (2, 1), (3, 1)] := ⟨by kernel_rfl⟩
instance : TyFld Go.Proofs.Try.prog 142 0 0 0 false := ⟨by kernel_rfl⟩
instance : TyFld Go.Proofs.Try.prog 142 1 1 0 false := ⟨by kernel_rfl⟩
instance : TyFld Go.Proofs.Try.prog 142 2 2 0 false := ⟨by kernel_rfl⟩
instance : TyFld Go.Proofs.Try.prog 142 3 3 0 false := ⟨by kernel_rfl⟩
instance : TyV Go.Proofs.Try.prog 143 true 0 := ⟨by kernel_rfl, by kernel_rfl⟩
instance : TyZ Go.Proofs.Try.prog 143 0 (.agg #[]) := ⟨by kernel_rfl⟩
instance : TyV Go.Proofs.Try.prog 144 true 0 := ⟨by kernel_rfl, by kernel_rfl⟩
instance : TyPl Go.Proofs.Try.prog 144 [(0, 0)] := ⟨by kernel_rfl⟩
instance : TyZ Go.Proofs.Try.prog 144 0 (.agg #[]) := ⟨by kernel_rfl⟩
instance : TyV Go.Proofs.Try.prog 145 true 0 := ⟨by kernel_rfl, by kernel_rfl⟩
instance : TyPl Go.Proofs.Try.prog 145 [(0, 0)] := ⟨by kernel_rfl⟩
instance : TyZ Go.Proofs.Try.prog 145 0 (.agg #[]) := ⟨by kernel_rfl⟩
instance : TyV Go.Proofs.Try.prog 146 false 1 := ⟨by kernel_rfl, by kernel_rfl⟩
instance : TyZ Go.Proofs.Try.prog 146 8 .nilFunc := ⟨by kernel_rfl⟩
instance : TyV Go.Proofs.Try.prog 147 false 1 := ⟨by kernel_rfl, by kernel_rfl⟩
instance : TyInt Go.Proofs.Try.prog 147 .u32 := ⟨by kernel_rfl⟩
instance : TyZ Go.Proofs.Try.prog 147 4 (.int .u32 0) := ⟨by kernel_rfl⟩
instance : TyV Go.Proofs.Try.prog 148 false 1 := ⟨by kernel_rfl, by kernel_rfl⟩
instance : TyInt Go.Proofs.Try.prog 148 .u8 := ⟨by kernel_rfl⟩
instance : TyZ Go.Proofs.Try.prog 148 1 (.int .u8 0) := ⟨by kernel_rfl⟩
instance : TyV Go.Proofs.Try.prog 149 false 1 := ⟨by kernel_rfl, by kernel_rfl⟩
instance : TyInt Go.Proofs.Try.prog 149 .u8 := ⟨by kernel_rfl⟩
instance : TyZ Go.Proofs.Try.prog 149 1 (.int .u8 0) := ⟨by kernel_rfl⟩
instance : TyV Go.Proofs.Try.prog 150 false 1 := ⟨by kernel_rfl, by kernel_rfl⟩
instance : TyZ Go.Proofs.Try.prog 150 8 .nilFunc := ⟨by kernel_rfl⟩
instance : TyV Go.Proofs.Try.prog 151 false 1 := ⟨by kernel_rfl, by kernel_rfl⟩
instance : TyZ Go.Proofs.Try.prog 151 8 (.pointer none) := ⟨by kernel_rfl⟩
instance : TyV Go.Proofs.Try.prog 152 false 1 := ⟨by kernel_rfl, by kernel_rfl⟩
instance : TyInt Go.Proofs.Try.prog 152 .i32 := ⟨by kernel_rfl⟩
instance : TyZ Go.Proofs.Try.prog 152 4 (.int .i32 0) := ⟨by kernel_rfl⟩
instance : TyV Go.Proofs.Try.prog 153 false 1 := ⟨by kernel_rfl, by kernel_rfl⟩
instance : TyInt Go.Proofs.Try.prog 153 .i32 := ⟨by kernel_rfl⟩
instance : TyZ Go.Proofs.Try.prog 153 4 (.int .i32 0) := ⟨by kernel_rfl⟩
instance : TyV Go.Proofs.Try.prog 154 true 11 := ⟨by kernel_rfl, by kernel_rfl⟩
instance : TyPl Go.Proofs.Try.prog 154 [(0, 1), (1, 1), (2, 1), (3, 1), (4, 1), (5, 1), (6, 1), (7, 1), (8, 1), (9, 1), (10, 1)] := ⟨by kernel_rfl⟩
instance : TyFld Go.Proofs.Try.prog 154 0 0 0 false := ⟨by kernel_rfl⟩
instance : TyFld Go.Proofs.Try.prog 154 1 1 0 false := ⟨by kernel_rfl⟩
instance : TyFld Go.Proofs.Try.prog 154 2 2 0 false := ⟨by kernel_rfl⟩
instance : TyFld Go.Proofs.Try.prog 154 3 3 0 false := ⟨by kernel_rfl⟩
instance : TyFld Go.Proofs.Try.prog 154 4 4 0 false := ⟨by kernel_rfl⟩
instance : TyFld Go.Proofs.Try.prog 154 5 5 0 false := ⟨by kernel_rfl⟩
instance : TyFld Go.Proofs.Try.prog 154 6 6 0 false := ⟨by kernel_rfl⟩
instance : TyFld Go.Proofs.Try.prog 154 7 7 0 false := ⟨by kernel_rfl⟩
instance : TyFld Go.Proofs.Try.prog 154 8 8 0 false := ⟨by kernel_rfl⟩
instance : TyFld Go.Proofs.Try.prog 154 9 9 0 false := ⟨by kernel_rfl⟩
instance : TyFld Go.Proofs.Try.prog 154 10 10 0 false := ⟨by kernel_rfl⟩
instance : TyZ Go.Proofs.Try.prog 154 48 (.agg #[(.int .u64 0), (.int .u64 0), (.int .u32 0), (.int .u8 0), (.int .u8 0), (.int .u8 0), (.int .u8 0), .nilFunc, (.pointer none), (.int .i32 0), (.int .i32 0)]) := ⟨by kernel_rfl⟩
instance : TyV Go.Proofs.Try.prog 155 true 11 := ⟨by kernel_rfl, by kernel_rfl⟩
instance : TyPl Go.Proofs.Try.prog 155 [(0, 1), (1, 1), (2, 1), (3, 1), (4, 1), (5, 1), (6, 1), (7, 1), (8, 1), (9, 1), (10, 1)] := ⟨by kernel_rfl⟩
instance : TyFld Go.Proofs.Try.prog 155 0 0 0 false := ⟨by kernel_rfl⟩
instance : TyFld Go.Proofs.Try.prog 155 1 1 0 false := ⟨by kernel_rfl⟩
instance : TyFld Go.Proofs.Try.prog 155 2 2 0 false := ⟨by kernel_rfl⟩
instance : TyFld Go.Proofs.Try.prog 155 3 3 0 false := ⟨by kernel_rfl⟩
instance : TyFld Go.Proofs.Try.prog 155 4 4 0 false := ⟨by kernel_rfl⟩
instance : TyFld Go.Proofs.Try.prog 155 5 5 0 false := ⟨by kernel_rfl⟩
instance : TyFld Go.Proofs.Try.prog 155 6 6 0 false := ⟨by kernel_rfl⟩
instance : TyFld Go.Proofs.Try.prog 155 7 7 0 false := ⟨by kernel_rfl⟩
instance : TyFld Go.Proofs.Try.prog 155 8 8 0 false := ⟨by kernel_rfl⟩
instance : TyFld Go.Proofs.Try.prog 155 9 9 0 false := ⟨by kernel_rfl⟩
instance : TyFld Go.Proofs.Try.prog 155 10 10 0 false := ⟨by kernel_rfl⟩
instance : TyZ Go.Proofs.Try.prog 155 48 (.agg #[(.int .u64 0), (.int .u64 0), (.int .u32 0), (.int .u8 0), (.int .u8 0), (.int .u8 0), (.int .u8 0), .nilFunc, (.pointer none), (.int .i32 0), (.int .i32 0)]) := ⟨by kernel_rfl⟩
instance : TyV Go.Proofs.Try.prog 156 false 1 := ⟨by kernel_rfl, by kernel_rfl⟩
instance : TyZ Go.Proofs.Try.prog 156 8 (.pointer none) := ⟨by kernel_rfl⟩
instance : TyFn Go.Proofs.Try.prog 3 := ⟨by kernel_rfl⟩ -- privatefetch/privatefetchlaw30.ServerFull
instance : TyFn Go.Proofs.Try.prog 4 := ⟨by kernel_rfl⟩ -- privatefetch/privatefetchlaw30.ServerLoads
instance : TyFn Go.Proofs.Try.prog 5 := ⟨by kernel_rfl⟩ -- privatefetch/privatefetchlaw30.ServerAnswers
instance : TyFn Go.Proofs.Try.prog 6 := ⟨by kernel_rfl⟩ -- privatefetch/privatefetchlaw30.sane
instance : TyFn Go.Proofs.Try.prog 7 := ⟨by kernel_rfl⟩ -- privatefetch/server.New
instance : TyFn Go.Proofs.Try.prog 8 := ⟨by kernel_rfl⟩ -- privatefetch/server.Load
instance : TyFn Go.Proofs.Try.prog 9 := ⟨by kernel_rfl⟩ -- privatefetch/server.Ask
instance : TyFn Go.Proofs.Try.prog 10 := ⟨by kernel_rfl⟩ -- privatefetch/server.Drop
instance : TyFn Go.Proofs.Try.prog 11 := ⟨by kernel_rfl⟩ -- privatefetch/privatefetchplay.New
instance : TyFn Go.Proofs.Try.prog 12 := ⟨by kernel_rfl⟩ -- (*privatefetch/privatefetchplay.Dice).Scheme
instance : TyFn Go.Proofs.Try.prog 13 := ⟨by kernel_rfl⟩ -- (*privatefetch/privatefetchplay.Dice).Field
instance : TyFn Go.Proofs.Try.prog 14 := ⟨by kernel_rfl⟩ -- (*privatefetch/privatefetchplay.Dice).Table
instance : TyFn Go.Proofs.Try.prog 15 := ⟨by kernel_rfl⟩ -- (*privatefetch/privatefetchplay.Dice).Rows
instance : TyFn Go.Proofs.Try.prog 16 := ⟨by kernel_rfl⟩ -- (*privatefetch/privatefetchplay.Dice).Pick
instance : TyFn Go.Proofs.Try.prog 17 := ⟨by kernel_rfl⟩ -- privatefetch/privatefetchref30.Same
instance : TyFn Go.Proofs.Try.prog 18 := ⟨by kernel_rfl⟩ -- privatefetch/privatefetchref23.Hold
instance : TyFn Go.Proofs.Try.prog 19 := ⟨by kernel_rfl⟩ -- (*privatefetch/privatefetchplay.Dice).Elements
instance : TyFn Go.Proofs.Try.prog 20 := ⟨by kernel_rfl⟩ -- privatefetch/privatefetchref23.Answer
instance : TyFn Go.Proofs.Try.prog 21 := ⟨by kernel_rfl⟩ -- privatefetch/server.Word
instance : TyFn Go.Proofs.Try.prog 22 := ⟨by kernel_rfl⟩ -- privatefetch/privatefetchplay.People
instance : TyFn Go.Proofs.Try.prog 23 := ⟨by kernel_rfl⟩ -- privatefetch/privatefetchref23.Ints
instance : TyFn Go.Proofs.Try.prog 24 := ⟨by kernel_rfl⟩ -- privatefetch/privatefetchref22.Verify
instance : TyFn Go.Proofs.Try.prog 25 := ⟨by kernel_rfl⟩ -- privatefetch/server.Numbers
instance : TyFn Go.Proofs.Try.prog 26 := ⟨by kernel_rfl⟩ -- privatefetch/scheme.Shape
instance : TyFn Go.Proofs.Try.prog 27 := ⟨by kernel_rfl⟩ -- privatefetch/server.Own
instance : TyFn Go.Proofs.Try.prog 28 := ⟨by kernel_rfl⟩ -- privatefetch/table.Head
instance : TyFn Go.Proofs.Try.prog 29 := ⟨by kernel_rfl⟩ -- privatefetch/server.find
instance : TyFn Go.Proofs.Try.prog 30 := ⟨by kernel_rfl⟩ -- privatefetch/scheme.Valid
instance : TyFn Go.Proofs.Try.prog 31 := ⟨by kernel_rfl⟩ -- privatefetch/scheme.Hold
instance : TyFn Go.Proofs.Try.prog 32 := ⟨by kernel_rfl⟩ -- slices.Insert[[]privatefetch/api.Held,privatefetch/api.Held]
instance : TyFn Go.Proofs.Try.prog 33 := ⟨by kernel_rfl⟩ -- privatefetch/field.In
instance : TyFn Go.Proofs.Try.prog 34 := ⟨by kernel_rfl⟩ -- slices.ContainsFunc[[]privatefetch/api.Job,privatefetch/api.Job]
instance : TyFn Go.Proofs.Try.prog 35 := ⟨by kernel_rfl⟩ -- privatefetch/server.Ask$1
instance : TyFn Go.Proofs.Try.prog 36 := ⟨by kernel_rfl⟩ -- privatefetch/server.ownJob
instance : TyFn Go.Proofs.Try.prog 37 := ⟨by kernel_rfl⟩ -- privatefetch/server.Drop$1
instance : TyFn Go.Proofs.Try.prog 38 := ⟨by kernel_rfl⟩ -- slices.Delete[[]privatefetch/api.Held,privatefetch/api.Held]
instance : TyFn Go.Proofs.Try.prog 39 := ⟨by kernel_rfl⟩ -- privatefetch/privatefetchref24.SameRows
instance : TyFn Go.Proofs.Try.prog 40 := ⟨by kernel_rfl⟩ -- privatefetch/privatefetchref14.Check
instance : TyFn Go.Proofs.Try.prog 41 := ⟨by kernel_rfl⟩ -- privatefetch/privatefetchref23.Valid
instance : TyFn Go.Proofs.Try.prog 42 := ⟨by kernel_rfl⟩ -- privatefetch/privatefetchref18.Hold
instance : TyFn Go.Proofs.Try.prog 43 := ⟨by kernel_rfl⟩ -- privatefetch/privatefetchref23.storage
instance : TyFn Go.Proofs.Try.prog 44 := ⟨by kernel_rfl⟩ -- privatefetch/privatefetchref16.Answer
instance : TyFn Go.Proofs.Try.prog 45 := ⟨by kernel_rfl⟩ -- privatefetch/server.word
instance : TyFn Go.Proofs.Try.prog 46 := ⟨by kernel_rfl⟩ -- privatefetch/mark.Sign
instance : TyFn Go.Proofs.Try.prog 47 := ⟨by kernel_rfl⟩ -- slices.Delete[[]privatefetch/api.Job,privatefetch/api.Job]
instance : TyFn Go.Proofs.Try.prog 48 := ⟨by kernel_rfl⟩ -- privatefetch/privatefetchref22.Find
instance : TyFn Go.Proofs.Try.prog 49 := ⟨by kernel_rfl⟩ -- privatefetch/privatefetchref22.Sign
instance : TyFn Go.Proofs.Try.prog 50 := ⟨by kernel_rfl⟩ -- privatefetch/server.withLists
instance : TyFn Go.Proofs.Try.prog 51 := ⟨by kernel_rfl⟩ -- privatefetch/scheme.within
instance : TyFn Go.Proofs.Try.prog 52 := ⟨by kernel_rfl⟩ -- slices.Clone[[]privatefetch/api.Held,privatefetch/api.Held]
instance : TyFn Go.Proofs.Try.prog 53 := ⟨by kernel_rfl⟩ -- slices.Clone[[]privatefetch/api.Job,privatefetch/api.Job]
instance : TyFn Go.Proofs.Try.prog 54 := ⟨by kernel_rfl⟩ -- privatefetch/server.ownRows
instance : TyFn Go.Proofs.Try.prog 55 := ⟨by kernel_rfl⟩ -- privatefetch/table.Digests
instance : TyFn Go.Proofs.Try.prog 56 := ⟨by kernel_rfl⟩ -- privatefetch/merkle.Root
instance : TyFn Go.Proofs.Try.prog 57 := ⟨by kernel_rfl⟩ -- slices.BinarySearchFunc[[]privatefetch/api.Held,privatefetch/api.Held,int]
instance : TyFn Go.Proofs.Try.prog 58 := ⟨by kernel_rfl⟩ -- privatefetch/server.find$1
instance : TyFn Go.Proofs.Try.prog 59 := ⟨by kernel_rfl⟩ -- cmp.Compare[int]
instance : TyFn Go.Proofs.Try.prog 60 := ⟨by kernel_rfl⟩ -- privatefetch/field.Check
instance : TyFn Go.Proofs.Try.prog 61 := ⟨by kernel_rfl⟩ -- privatefetch/table.Check
instance : TyFn Go.Proofs.Try.prog 62 := ⟨by kernel_rfl⟩ -- privatefetch/coded.Hold
instance : TyFn Go.Proofs.Try.prog 63 := ⟨by kernel_rfl⟩ -- privatefetch/scheme.storage
instance : TyFn Go.Proofs.Try.prog 64 := ⟨by kernel_rfl⟩ -- slices.Clone[[]int,int]
instance : TyFn Go.Proofs.Try.prog 66 := ⟨by kernel_rfl⟩ -- slices.rotateRight[privatefetch/api.Held]
instance : TyFn Go.Proofs.Try.prog 67 := ⟨by kernel_rfl⟩ -- privatefetch/residue.Of
instance : TyFn Go.Proofs.Try.prog 68 := ⟨by kernel_rfl⟩ -- (privatefetch/residue.Field).All
instance : TyFn Go.Proofs.Try.prog 69 := ⟨by kernel_rfl⟩ -- slices.IndexFunc[[]privatefetch/api.Job,privatefetch/api.Job]
instance : TyFn Go.Proofs.Try.prog 70 := ⟨by kernel_rfl⟩ -- privatefetch/privatefetchref23.SameRows
instance : TyFn Go.Proofs.Try.prog 71 := ⟨by kernel_rfl⟩ -- privatefetch/privatefetchref03.Check
instance : TyFn Go.Proofs.Try.prog 72 := ⟨by kernel_rfl⟩ -- privatefetch/privatefetchref03.In
instance : TyFn Go.Proofs.Try.prog 73 := ⟨by kernel_rfl⟩ -- privatefetch/privatefetchref23.Shape
instance : TyFn Go.Proofs.Try.prog 74 := ⟨by kernel_rfl⟩ -- privatefetch/privatefetchref18.Check
instance : TyFn Go.Proofs.Try.prog 75 := ⟨by kernel_rfl⟩ -- privatefetch/privatefetchref18.Groups
instance : TyFn Go.Proofs.Try.prog 76 := ⟨by kernel_rfl⟩ -- privatefetch/privatefetchref03.Pow
instance : TyFn Go.Proofs.Try.prog 77 := ⟨by kernel_rfl⟩ -- privatefetch/privatefetchref04.Combine
instance : TyFn Go.Proofs.Try.prog 78 := ⟨by kernel_rfl⟩ -- privatefetch/field.Reduce
instance : TyFn Go.Proofs.Try.prog 79 := ⟨by kernel_rfl⟩ -- privatefetch/mark.within
instance : TyFn Go.Proofs.Try.prog 80 := ⟨by kernel_rfl⟩ -- privatefetch/digest.Row
instance : TyFn Go.Proofs.Try.prog 81 := ⟨by kernel_rfl⟩ -- privatefetch/privatefetchref22.Check
instance : TyFn Go.Proofs.Try.prog 82 := ⟨by kernel_rfl⟩ -- privatefetch/privatefetchref22.number
instance : TyFn Go.Proofs.Try.prog 83 := ⟨by kernel_rfl⟩ -- privatefetch/privatefetchref11.Row
instance : TyFn Go.Proofs.Try.prog 84 := ⟨by kernel_rfl⟩ -- slices.Clone[[][]int,[]int]
instance : TyFn Go.Proofs.Try.prog 85 := ⟨by kernel_rfl⟩ -- privatefetch/merkle.check
instance : TyFn Go.Proofs.Try.prog 86 := ⟨by kernel_rfl⟩ -- privatefetch/merkle.Root$1
instance : TyFn Go.Proofs.Try.prog 87 := ⟨by kernel_rfl⟩ -- privatefetch/merkle.above
instance : TyFn Go.Proofs.Try.prog 88 := ⟨by kernel_rfl⟩ -- cmp.isNaN[int]
instance : TyFn Go.Proofs.Try.prog 89 := ⟨by kernel_rfl⟩ -- privatefetch/coded.Check
instance : TyFn Go.Proofs.Try.prog 90 := ⟨by kernel_rfl⟩ -- privatefetch/coded.wide
instance : TyFn Go.Proofs.Try.prog 91 := ⟨by kernel_rfl⟩ -- privatefetch/coded.groups
instance : TyFn Go.Proofs.Try.prog 92 := ⟨by kernel_rfl⟩ -- (privatefetch/residue.Field).AddTimes
instance : TyFn Go.Proofs.Try.prog 93 := ⟨by kernel_rfl⟩ -- (privatefetch/residue.Field).Power
instance : TyFn Go.Proofs.Try.prog 94 := ⟨by kernel_rfl⟩ -- slices.rotateLeft[privatefetch/api.Held]
instance : TyFn Go.Proofs.Try.prog 95 := ⟨by kernel_rfl⟩ -- slices.ContainsFunc[[]int,int]
instance : TyFn Go.Proofs.Try.prog 96 := ⟨by kernel_rfl⟩ -- (privatefetch/residue.Field).All$1
instance : TyFn Go.Proofs.Try.prog 97 := ⟨by kernel_rfl⟩ -- (privatefetch/residue.Field).Has
instance : TyFn Go.Proofs.Try.prog 98 := ⟨by kernel_rfl⟩ -- privatefetch/digest.mod
instance : TyFn Go.Proofs.Try.prog 99 := ⟨by kernel_rfl⟩ -- privatefetch/privatefetchref11.mod
instance : TyFn Go.Proofs.Try.prog 100 := ⟨by kernel_rfl⟩ -- privatefetch/merkle.proper
instance : TyFn Go.Proofs.Try.prog 101 := ⟨by kernel_rfl⟩ -- privatefetch/digest.Node
instance : TyFn Go.Proofs.Try.prog 102 := ⟨by kernel_rfl⟩ -- privatefetch/coded.groups$1
instance : TyFn Go.Proofs.Try.prog 103 := ⟨by kernel_rfl⟩ -- (privatefetch/residue.Field).Add
instance : TyFn Go.Proofs.Try.prog 104 := ⟨by kernel_rfl⟩ -- (privatefetch/residue.Field).Mul
instance : TyFn Go.Proofs.Try.prog 105 := ⟨by kernel_rfl⟩ -- slices.Reverse[[]privatefetch/api.Held,privatefetch/api.Held]
instance : TyFn Go.Proofs.Try.prog 106 := ⟨by kernel_rfl⟩ -- slices.IndexFunc[[]int,int]
end Go.Q

namespace Go.Q
open Classical

/-- A prime in range, by trial division. -/
def okP (p : Int) : Prop := 2 ≤ p ∧ p ≤ 65521 ∧ ∀ d : Int, 2 ≤ d → d * d ≤ p → p % d ≠ 0
noncomputable def ofP (p : Int) : Int := if okP p then p else 0
def hasP (p x : Int) : Prop := 0 ≤ x ∧ x < p

/-- The index of the first element that is so, or -1. -/
noncomputable def idxF (q : Int → Prop) : List Int → Int
  | [] => -1
  | x :: xs => if q x then 0 else (if idxF q xs < 0 then -1 else idxF q xs + 1)

theorem idxF_none {q : Int → Prop} : ∀ {xs : List Int}, (∀ x ∈ xs, ¬ q x) → idxF q xs = -1
  | [], _ => rfl
  | x :: xs, h => by
    have h1 := h x (List.mem_cons_self ..)
    have h2 := idxF_none (xs := xs) fun y hy => h y (List.mem_cons_of_mem _ hy)
    simp [idxF, h1, h2]

theorem idxF_at {q : Int → Prop} : ∀ {xs : List Int} {i : Nat}, i < xs.length → (∀ j, j < i → ¬ q (xs[j]?.getD default)) → q (xs[i]?.getD default) → idxF q xs = i
  | [], i, h, _, _ => by simp at h
  | x :: xs, 0, _, _, h => by
    have : q x := by simpa using h
    simp [idxF, this]
  | x :: xs, i + 1, hi, hb, h => by
    have h1 : ¬ q x := by simpa using hb 0 (by omega)
    have h2 := idxF_at (xs := xs) (i := i) (by simpa using hi) (fun j hj => by simpa using hb (j + 1) (by omega)) (by simpa using h)
    simp only [idxF, if_neg h1, h2]
    rw [if_neg (by omega)]
    omega

theorem idxF_nonneg {q : Int → Prop} : ∀ {xs : List Int}, 0 ≤ idxF q xs ↔ ∃ x ∈ xs, q x
  | [] => by simp [idxF]
  | x :: xs => by
    have ih := idxF_nonneg (q := q) (xs := xs)
    by_cases h : q x
    · simp [idxF, h]
    · simp only [idxF, if_neg h]
      by_cases h2 : idxF q xs < 0
      · rw [if_pos h2]
        have : ¬ ∃ x ∈ xs, q x := fun he => by have := ih.2 he; omega
        simp [h] at this ⊢
        exact this
      · rw [if_neg h2]
        have : ∃ x ∈ xs, q x := ih.1 (by omega)
        obtain ⟨y, hy, hq⟩ := this
        exact ⟨fun _ => ⟨y, List.mem_cons_of_mem _ hy, hq⟩, fun _ => by omega⟩

end Go.Q

namespace Go.Q
open Classical

/-! ### Digests -/

def modD (x : Int) : Int := x % 2147483647
theorem modD_bd (x : Int) : 0 ≤ modD x ∧ modD x ≤ 2147483646 := by unfold modD; omega
theorem modD_t (x : Int) : (if x.tmod 2147483647 < 0 then x.tmod 2147483647 + 2147483647 else x.tmod 2147483647) = modD x := by
  unfold modD
  by_cases h : 0 ≤ x
  · rw [Int.tmod_eq_emod_of_nonneg h, if_neg (by omega)]
  · have h1 : x.tmod 2147483647 = - ((-x) % 2147483647) := by
      rw [show x = -(-x) by omega, Int.neg_tmod, Int.tmod_eq_emod_of_nonneg (by omega)]; simp
    rw [h1]
    split <;> omega
theorem tmod_bd (x : Int) (n : Int) (h : 0 < n) : -n < x.tmod n ∧ x.tmod n < n := by
  by_cases hx : 0 ≤ x
  · rw [Int.tmod_eq_emod_of_nonneg hx]
    have h1 := Int.emod_nonneg x (show n ≠ 0 by omega)
    have h2 := Int.emod_lt_of_pos x h
    omega
  · have h1 : x.tmod n = - ((-x) % n) := by
      rw [show x = -(-x) by omega, Int.neg_tmod, Int.tmod_eq_emod_of_nonneg (by omega)]; simp
    have h2 := Int.emod_nonneg (-x) (show n ≠ 0 by omega)
    have h3 := Int.emod_lt_of_pos (-x) h
    omega
/-- '(n%k + k) % k' -/
theorem mod_twice (x n : Int) (h : 0 < n) : (x.tmod n + n) % n = x % n := by
  by_cases hx : 0 ≤ x
  · rw [Int.tmod_eq_emod_of_nonneg hx]
    simp
  · have h1 : x.tmod n = - ((-x) % n) := by
      rw [show x = -(-x) by omega, Int.neg_tmod, Int.tmod_eq_emod_of_nonneg (by omega)]; simp
    have e : -((-x) % n) = x + n * ((-x) / n) := by have := Int.emod_add_mul_ediv (-x) n; omega
    rw [h1, Int.add_emod_right, e, Int.add_mul_emod_self_left]

def rowStep (d x : Int) : Int := (d * 1000003 + modD x + 1) % 2147483647
def rowD (xs : List Int) : Int := xs.foldl rowStep 2
theorem rowD_bd (xs : List Int) : 0 ≤ rowD xs ∧ rowD xs ≤ 2147483646 := by
  have key : ∀ (xs : List Int) (d : Int), 0 ≤ d ∧ d ≤ 2147483646 → 0 ≤ xs.foldl rowStep d ∧ xs.foldl rowStep d ≤ 2147483646 := by
    intro xs
    induction xs with
    | nil => intro d h; exact h
    | cons x xs ih => intro d h; exact ih _ (by unfold rowStep; omega)
  exact key xs 2 (by omega)
theorem foldl_take {α β : Type} [Inhabited β] (f : α → β → α) (a : α) (xs : List β) (k : Nat) (h : k < xs.length) : (xs.take (k + 1)).foldl f a = f ((xs.take k).foldl f a) (xs[k]?.getD default) := by
  have h1 : xs[k]? = some xs[k] := by simp [h]
  rw [List.take_add_one, h1]
  simp only [Option.toList_some, List.foldl_append, List.foldl_cons, List.foldl_nil, Option.getD_some]
def nodeD (a b : Int) : Int := (modD a * 1000003 + modD b + 3) % 2147483647
theorem nodeD_bd (a b : Int) : 0 ≤ nodeD a b ∧ nodeD a b ≤ 2147483646 := by unfold nodeD; omega

/-! ### Roots -/

def goodD (x : Int) : Prop := 0 ≤ x ∧ x < 2147483647
/-- The first error of a list's elements. -/
noncomputable def firstErr {α : Type} (e : α → Int) : List α → Int
  | [] => 0
  | x :: xs => if e x ≠ 0 then e x else firstErr e xs
theorem firstErr_none {α : Type} {e : α → Int} : ∀ {xs : List α}, (∀ x ∈ xs, e x = 0) → firstErr e xs = 0
  | [], _ => rfl
  | x :: xs, h => by
    simp [firstErr, h x (List.mem_cons_self ..), firstErr_none fun y hy => h y (List.mem_cons_of_mem _ hy)]
theorem firstErr_at {α : Type} [Inhabited α] {e : α → Int} : ∀ {xs : List α} {i : Nat}, i < xs.length → (∀ j, j < i → e (xs[j]?.getD default) = 0) → e (xs[i]?.getD default) ≠ 0 → firstErr e xs = e (xs[i]?.getD default)
  | [], i, h, _, _ => by simp at h
  | x :: xs, 0, _, _, h => by
    have : e x ≠ 0 := by simpa using h
    simp [firstErr, this]
  | x :: xs, i + 1, hi, hb, h => by
    have h1 : e x = 0 := by simpa using hb 0 (by omega)
    have h2 := firstErr_at (e := e) (xs := xs) (i := i) (by simpa using hi) (fun j hj => by simpa using hb (j + 1) (by omega)) (by simpa using h)
    simp [firstErr, h1, h2]
theorem firstErr_none' {α : Type} [Inhabited α] {e : α → Int} {xs : List α} (h : ∀ j, j < xs.length → e (xs[j]?.getD default) = 0) : firstErr e xs = 0 :=
  firstErr_none fun x hx => by
    obtain ⟨i, hi⟩ := List.getElem?_of_mem hx
    have := h i (List.getElem?_eq_some_iff.1 hi).1
    rwa [hi] at this
theorem firstErr_zero {α : Type} {e : α → Int} : ∀ {xs : List α}, firstErr e xs = 0 ↔ ∀ x ∈ xs, e x = 0
  | [] => by simp [firstErr]
  | x :: xs => by
    by_cases h : e x = 0
    · simp [firstErr, h, firstErr_zero (xs := xs)]
    · simp [firstErr, h]

noncomputable def listErr (xs : List Int) : Int := if 1024 < xs.length then 4 else firstErr (fun x => if goodD x then 0 else 1) xs

def upD : List Int → List Int
  | [] => []
  | [x] => [x]
  | x :: y :: xs => nodeD x y :: upD xs

theorem upD_length : ∀ (xs : List Int), (upD xs).length = (xs.length + 1) / 2
  | [] => rfl
  | [x] => by simp [upD]
  | x :: y :: xs => by simp only [upD, List.length_cons, upD_length xs]; omega

theorem upD_take_two (xs : List Int) (k : Nat) (h : 2 * k + 1 < xs.length) : upD (xs.take (2 * (k + 1))) = upD (xs.take (2 * k)) ++ [nodeD (xs[2 * k]?.getD default) (xs[2 * k + 1]?.getD default)] := by
  induction k generalizing xs with
  | zero =>
    match xs, h with
    | x :: y :: xs, _ => simp [upD]
    | [x], h => simp at h
    | [], h => simp at h
  | succ k ih =>
    match xs, h with
    | x :: y :: xs, h =>
      have := ih xs (by simp at h; omega)
      have e1 : 2 * (k + 1 + 1) = 2 * (k + 1) + 1 + 1 := by omega
      have e2 : 2 * (k + 1) = 2 * k + 1 + 1 := by omega
      rw [e1, e2]
      simp only [List.take_succ_cons, upD, List.cons_append, List.getElem?_cons_succ]
      rw [e2] at this
      rw [show 2 * k + 1 + 1 = 2 * (k + 1) by omega] at this ⊢
      rw [this]
    | [x], h => simp at h
    | [], h => simp at h

theorem upD_take_last (xs : List Int) (k : Nat) (h : 2 * k + 1 = xs.length) : upD xs = upD (xs.take (2 * k)) ++ [xs[2 * k]?.getD default] := by
  induction k generalizing xs with
  | zero =>
    match xs, h with
    | [x], _ => simp [upD]
    | [], h => simp at h
    | _ :: _ :: _, h => simp at h
  | succ k ih =>
    match xs, h with
    | x :: y :: xs, h =>
      have := ih xs (by simp at h; omega)
      have e2 : 2 * (k + 1) = 2 * k + 1 + 1 := by omega
      rw [e2]
      simp only [List.take_succ_cons, upD, List.cons_append, List.getElem?_cons_succ]
      rw [this]
    | [x], h => simp at h
    | [], h => simp at h

def rootN : Nat → List Int → Int
  | 0, _ => 0
  | n + 1, xs => match xs with
    | [] => 0
    | [x] => x
    | x :: y :: r => rootN n (upD (x :: y :: r))
def rootD (xs : List Int) : Int := rootN (xs.length + 1) xs

theorem rootN_eq : ∀ (n m : Nat) (xs : List Int), xs.length < n → xs.length < m → rootN n xs = rootN m xs
  | 0, _, _, h, _ => by omega
  | _, 0, _, _, h => by omega
  | n + 1, m + 1, [], _, _ => rfl
  | n + 1, m + 1, [x], _, _ => rfl
  | n + 1, m + 1, x :: y :: r, h1, h2 => by
    simp only [rootN]
    have hl := upD_length (x :: y :: r)
    simp only [List.length_cons] at hl h1 h2
    exact rootN_eq n m _ (by omega) (by omega)
theorem rootD_nil : rootD [] = 0 := rfl
theorem rootD_one (x : Int) : rootD [x] = x := rfl
theorem rootD_up (xs : List Int) (h : 2 ≤ xs.length) : rootD xs = rootD (upD xs) := by
  match xs, h with
  | x :: y :: r, _ =>
    unfold rootD
    have hl := upD_length (x :: y :: r)
    simp only [List.length_cons] at hl
    show rootN (r.length + 1 + 1) (upD (x :: y :: r)) = _
    exact rootN_eq _ _ _ (by omega) (by omega)
  | [x], h => simp at h
  | [], h => simp at h
/-- The root, or 0 with the error. -/
noncomputable def rootR (xs : List Int) : Int := if listErr xs = 0 then rootD xs else 0

end Go.Q

namespace Go.Q
open Classical

/-! ### Tables -/

structure Tab where
  number : Int
  p : Int
  width : Int
  rows : List (List Int)
structure Hd where
  number : Int
  p : Int
  count : Int
  width : Int
  root : Int
instance : Inhabited Tab := ⟨⟨0, 0, 0, []⟩⟩
instance : Inhabited Hd := ⟨⟨0, 0, 0, 0, 0⟩⟩

noncomputable def errP (p : Int) : Int := if okP p then 0 else 9
def allP (p : Int) (xs : List Int) : Prop := ∀ x ∈ xs, hasP p x
noncomputable def rowErr (p w : Int) (r : List Int) : Int := if (r.length : Int) ≠ w then 2 else if ¬ allP p r then 9 else 0
noncomputable def checkT (t : Tab) : Int :=
  if t.number < 1 ∨ 2147483647 ≤ t.number then 1 else if ¬ okP t.p then 9 else if t.width < 1 ∨ 64 < t.width then 1 else if 1024 < t.rows.length then 4 else firstErr (rowErr t.p t.width) t.rows

noncomputable def digs (t : Tab) : List Int := if checkT t = 0 then t.rows.map rowD else []
noncomputable def headT (t : Tab) : Hd := if checkT t = 0 then ⟨t.number, t.p, t.rows.length, t.width, rootD (t.rows.map rowD)⟩ else ⟨0, 0, 0, 0, 0⟩
noncomputable def holdsH (h : Hd) (ds : List Int) : Int := if (ds.length : Int) ≠ h.count then 2 else if listErr ds ≠ 0 then listErr ds else if rootD ds ≠ h.root then 13 else 0
noncomputable def verifyH (h : Hd) (ds : List Int) (i : Int) (r : List Int) : Int :=
  if holdsH h ds ≠ 0 then holdsH h ds else if i < 0 ∨ (ds.length : Int) ≤ i then 6 else if ¬ okP h.p then 9 else if (r.length : Int) ≠ h.width then 2 else if ¬ allP h.p r then 9
  else if rowD r ≠ ds[i.toNat]?.getD default then 13 else 0
noncomputable def rowT (t : Tab) (i : Int) : List Int := if checkT t = 0 ∧ 0 ≤ i ∧ i < t.rows.length then t.rows[i.toNat]?.getD default else []
noncomputable def rowTErr (t : Tab) (i : Int) : Int := if checkT t ≠ 0 then checkT t else if i < 0 ∨ (t.rows.length : Int) ≤ i then 6 else 0
def sameT (a b : Tab) : Prop := a.number = b.number ∧ a.p = b.p ∧ a.width = b.width ∧ a.rows = b.rows
noncomputable def newT (n p w : Int) (rows : List (List Int)) : Tab := if checkT ⟨n, p, w, rows⟩ = 0 then ⟨n, p, w, rows⟩ else ⟨0, 0, 0, []⟩

theorem checkT_ok {t : Tab} (h : checkT t = 0) : (1 ≤ t.number ∧ t.number < 2147483647) ∧ okP t.p ∧ (1 ≤ t.width ∧ t.width ≤ 64) ∧ t.rows.length ≤ 1024 ∧ ∀ r ∈ t.rows, (r.length : Int) = t.width ∧ allP t.p r := by
  unfold checkT at h
  split at h
  · omega
  split at h
  · omega
  split at h
  · omega
  split at h
  · omega
  rename_i h1 h2 h3 h4
  refine ⟨by omega, Classical.not_not.1 h2, by omega, by omega, fun r hr => ?_⟩
  have := firstErr_zero.1 h r hr
  unfold rowErr at this
  split at this
  · omega
  split at this
  · omega
  rename_i h5 h6
  exact ⟨Classical.not_not.1 h5, Classical.not_not.1 h6⟩

theorem listErr_digs (rows : List (List Int)) (h : rows.length ≤ 1024) : listErr (rows.map rowD) = 0 := by
  unfold listErr
  rw [if_neg (by simp; omega)]
  apply firstErr_none
  intro x hx
  obtain ⟨r, _, rfl⟩ := List.mem_map.1 hx
  have := rowD_bd r
  rw [if_pos (by unfold goodD; omega)]

theorem list_ext_getD {α : Type} [Inhabited α] {xs ys : List α} (hl : xs.length = ys.length) (h : ∀ j, j < xs.length → xs[j]?.getD default = ys[j]?.getD default) : xs = ys := by
  apply List.ext_getElem hl
  intro j h1 h2
  have := h j h1
  simpa [h1, h2] using this

end Go.Q

namespace Go.Q
theorem getD_mem {α : Type} [Inhabited α] {xs : List α} {k : Nat} (h : k < xs.length) : xs[k]?.getD default ∈ xs := by
  simp [h]
end Go.Q

namespace Go.Q

variable {P : Program} {f : FuncId} {N : Nat} {I0 : Imm} {R : Goal} {g : G} {M : List Res} {k : List Item}

abbrev dTab (t : Tab) : D := dAgg [dInt .i64 t.number, dInt .i64 t.p, dInt .i64 t.width, dRows t.rows]
abbrev dHd (h : Hd) : D := dAgg [dInt .i64 h.number, dInt .i64 h.p, dInt .i64 h.count, dInt .i64 h.width, dInt .i64 h.root]
abbrev fI : Int → List D := fun x => [dInt .i64 x]
abbrev fR : List Int → List D := fun x => [dInts x]

/-- A pointer to a cell that holds a closure that has captured this very pointer. -/
def dKnot (fn : FuncId) : D :=
  ⟨fun I v => ∃ b cs T fz, v = ptr b 0 ∧ I.blk b = some (.cells cs T fz) ∧ cs.toList = [.func (.func fn) #[] #[ptr b 0]],
   fun h ⟨b, cs, T, fz, h1, h2, h3⟩ => ⟨b, cs, T, fz, h1, h.blk _ _ h2, h3⟩⟩

theorem knot_box {fn : FuncId} : ∀ I v, (dKnot fn).rel I v → (dBox [dClo fn [dKnot fn]]).rel I v := by
  rintro I v ⟨b, cs, T, fz, rfl, h2, h3⟩
  refine ⟨⟨b, 0, none⟩, rfl, rfl, cs, T, fz, h2, ?_⟩
  rw [h3]
  exact ⟨⟨#[ptr b 0], rfl, ⟨b, cs, T, fz, rfl, h2, h3⟩, trivial⟩, trivial⟩

theorem run_freezeKnot {s b : Nat} {T : TypeId} {fn : FuncId} {C : Res → List Res} {F : List Res} (hs : look g s = some (dVal (ptr b 0))) (hm : Sel (rCells b T [dClo fn [dVal (ptr b 0)]]) M C F) (h : Run P f N I0 R ((s, dBox [dClo fn [dKnot fn]]) :: g) F k) : Run P f N I0 R g M k := by
  refine run_turn (fun I a w hsl hi => ?_) h
  obtain ⟨o, ⟨cs, ho, hr⟩, hn, hi'⟩ := (hi.perm hm.perm.1).freeze (b := b) rfl
  injection ho with ho
  subst ho
  have hle := Imm.le_add (o := .cells cs T (0, 0)) hn
  refine ⟨_, hle, ⟨hsl.size, hsl.defers, fun j e hj => ?_⟩, hi'⟩
  rw [look_cons] at hj
  split at hj
  · rename_i e1
    subst e1
    injection hj with hj
    subst hj
    have h1 : a.tmps.getD s undef = ptr b 0 := hsl.slot _ _ hs
    rw [h1]
    apply knot_box
    have hcs : cs.toList = [.func (.func fn) #[] #[ptr b 0]] := by
      match hc : cs.toList, hr with
      | [u], hr =>
        obtain ⟨⟨cap, hu, hcap⟩, _⟩ := hr
        match hcc : cap.toList, hcap with
        | [p], hcap =>
          have hp : p = ptr b 0 := hcap.1
          have : cap = #[ptr b 0] := by apply Array.toList_inj.1; rw [hcc, hp]
          rw [hu, this]
    exact ⟨b, cs, T, (0, 0), rfl, by simp [Imm.add], hcs⟩
  · exact e.mono hle (hsl.slot _ _ hj)

/-! ### From a contract that hands over a row to one that lets it be immutable -/

theorem spec_freeze {Ds : List D} {T n : Nat} {α : Type} {f' : α → List D} {xs : List α} (h : Spec P f Ds [] (fun _ : Value => True) (fun v => dVal v) (fun v => [rRow v T n f' xs])) : SpecP P f Ds (dSl n f' xs) := by
  intro I M w vs hv hi
  refine (h I M w vs hv hi).mono ?_
  rintro e w' ⟨v, rfl, s, _, J, h1, h2, h3⟩
  obtain ⟨J', h4, h5, h6⟩ := row_freeze h3
  have hvs : v = s := h2
  subst hvs
  exact ⟨v, rfl, J', h1.trans h4, h5, h6⟩

theorem spec_freeze2 {Ds : List D} {T n : Nat} {α : Type} {f' : α → List D} {xs : List α} {d2 : D} (h : Spec P f Ds [] (fun _ : Value => True) (fun v => dTup [dVal v, d2]) (fun v => [rRow v T n f' xs])) : SpecP P f Ds (dTup [dSl n f' xs, d2]) := by
  intro I M w vs hv hi
  refine (h I M w vs hv hi).mono ?_
  rintro e w' ⟨v, rfl, s, _, J, h1, ⟨cs, h2, h7⟩, h3⟩
  obtain ⟨J', h4, h5, h6⟩ := row_freeze h3
  obtain ⟨u1, u2, hc, g1, g2⟩ := relL2 h7
  have hvs : u1 = s := g1
  subst hvs
  exact ⟨v, rfl, J', h1.trans h4, ⟨cs, h2, by rw [hc]; exact ⟨h5, d2.mono h4 g2, trivial⟩⟩, h6⟩

end Go.Q

namespace Go.Q

variable {P : Program} {f : FuncId} {N : Nat} {I0 : Imm} {R : Goal} {g : G} {M : List Res} {k : List Item}

theorem slots_cast {I J : Imm} {a : Act} {s : Nat} {d d' : D} (hsl : Slots g N I a) (hle : I.le J) (hs : look g s = some d) (hd : ∀ v, d.rel I v → d'.rel J v) : Slots ((s, d') :: g) N J a := by
  refine ⟨hsl.size, hsl.defers, fun j e hj => ?_⟩
  rw [look_cons] at hj
  split at hj
  · rename_i e1
    subst e1
    injection hj with hj
    subst hj
    exact hd _ (hsl.slot _ _ hs)
  · exact e.mono hle (hsl.slot _ _ hj)

theorem runL_freezeRow {ops : Array Oper} {l : List Oper} {s : Nat} {C : Res → List Res} {F : List Res} {α : Type} {T n : Nat} {f' : α → List D} {xs : List α} {v : Value} (hs : look g s = some (dVal v)) (hm : Sel (rRow v T n f' xs) M C F)
    (h : RunL P f N I0 R ((s, dSl n f' xs) :: g) F ops l k) : RunL P f N I0 R g M ops l k := by
  constructor
  intro I a w b cs hb hk hl hsl hi
  obtain ⟨J, hle, hd, hi'⟩ := row_freeze (hi.perm hm.perm.1)
  exact h.go J a w b cs hb hk (hl.trans hle) (slots_cast hsl hle hs (fun u hu => by rw [show u = v from hu]; exact hd)) hi'

theorem relL_upgrade {I : Imm} {d' : D} {v : Value} (hd : d'.rel I v) : ∀ {ds : List D} {cs : List Value} (i : Nat), relL ds I cs → ds[i]? = some (dVal v) → relL (ds.set i d') I cs
  | d :: ds, c :: cs, 0, ⟨h1, h2⟩, h => by simp at h; subst h; rw [show c = v from h1]; exact ⟨hd, h2⟩
  | d :: ds, c :: cs, i + 1, ⟨h1, h2⟩, h => ⟨h1, relL_upgrade hd i h2 (by simpa using h)⟩
  | [], [], i, _, h => by simp at h

/-- A row whose handle lies in a cell of the call's own becomes immutable. -/
theorem run_freezeRowCell {b kk : Nat} {T' : TypeId} {ds : List D} {C C' : Res → List Res} {F F' : List Res} {α : Type} {T n : Nat} {f' : α → List D} {xs : List α} {v : Value} (hm : Sel (rRow v T n f' xs) M C F) (hc : Sel (rCells b T' ds) F C' F') (hk : ds[kk]? = some (dVal v))
    (h : Run P f N I0 R g (C' (rCells b T' (ds.set kk (dSl n f' xs)))) k) : Run P f N I0 R g M k := by
  refine run_turn (fun I a w hsl hi => ?_) h
  obtain ⟨J, hle, hd, hi'⟩ := row_freeze (hi.perm hm.perm.1)
  refine ⟨J, hle, hsl.mono hle, ?_⟩
  have h2 := hi'.perm hc.perm.1
  refine Inv.perm ?_ (hc.perm.2 _)
  refine ⟨h2.os, h2.tape, h2.output, h2.imm, fun r hr => ?_, h2.apart⟩
  rcases List.mem_cons.1 hr with rfl | hr
  · obtain ⟨h3, o, h4, cs, h5, h6⟩ := h2.own _ (List.mem_cons_self ..)
    exact ⟨h3, o, h4, cs, h5, relL_upgrade hd kk h6 hk⟩
  · exact h2.own r (List.mem_cons_of_mem _ hr)

end Go.Q

namespace Go.Q

variable {P : Program} {f : FuncId} {N : Nat} {I0 : Imm} {R : Goal} {g : G} {M : List Res} {k : List Item}

theorem d_agg4 {a b c d a' b' c' d' : D} (h1 : ∀ I v, a.rel I v → a'.rel I v) (h2 : ∀ I v, b.rel I v → b'.rel I v) (h3 : ∀ I v, c.rel I v → c'.rel I v) (h4 : ∀ I v, d.rel I v → d'.rel I v) :
    ∀ I v, (dAgg [a, b, c, d]).rel I v → (dAgg [a', b', c', d']).rel I v := by
  rintro I v ⟨cs, e, h⟩
  refine ⟨cs, e, ?_⟩
  match hc : cs.toList, h with
  | [w, x, y, z], h => exact ⟨h1 _ _ h.1, h2 _ _ h.2.1, h3 _ _ h.2.2.1, h4 _ _ h.2.2.2.1, trivial⟩

theorem relL_same {J : Imm} {kk : Nat} {ds : List D} {cs : List Value} {d d' : D} (h6 : relL ds J cs) (hk : ds[kk]? = some d) (hup : ∀ u, d.rel J u → d'.rel J u) : relL (ds.set kk d') J cs := by
  obtain ⟨u, hu, hdu⟩ := relL_get h6 kk d hk
  have h7 := relL_set (d := d') (hup u hdu) kk h6
  have h8 : cs.set kk u = cs := by
    apply List.ext_getElem?
    intro i
    rw [List.getElem?_set]
    split
    · rename_i e; subst e
      split
      · exact hu.symm
      · rename_i e; rw [List.getElem?_eq_none (by omega)]
    · rfl
  rwa [h8] at h7

/-- A row whose handle lies somewhere in a cell of the call's own becomes immutable. -/
theorem run_freezeUp {b kk : Nat} {T' : TypeId} {ds : List D} {C C' : Res → List Res} {F F' : List Res} {α : Type} {T n : Nat} {f' : α → List D} {xs : List α} {v : Value} (d d' : D) (hm : Sel (rRow v T n f' xs) M C F) (hc : Sel (rCells b T' ds) F C' F') (hk : ds[kk]? = some d)
    (hup : ∀ J u, d.rel J u → (dSl n f' xs).rel J v → d'.rel J u)
    (h : Run P f N I0 R g (C' (rCells b T' (ds.set kk d'))) k) : Run P f N I0 R g M k := by
  refine run_turn (fun I a w hsl hi => ?_) h
  obtain ⟨J, hle, hd, hi'⟩ := row_freeze (hi.perm hm.perm.1)
  refine ⟨J, hle, hsl.mono hle, ?_⟩
  have h2 := hi'.perm hc.perm.1
  refine Inv.perm ?_ (hc.perm.2 _)
  refine ⟨h2.os, h2.tape, h2.output, h2.imm, fun r hr => ?_, h2.apart⟩
  rcases List.mem_cons.1 hr with rfl | hr
  · obtain ⟨h3, o, h4, cs, h5, h6⟩ := h2.own _ (List.mem_cons_self ..)
    exact ⟨h3, o, h4, cs, h5, relL_same h6 hk (fun u hu => hup J u hu hd)⟩
  · exact h2.own r (List.mem_cons_of_mem _ hr)

/-- What is known of a cell, told otherwise. -/
theorem run_cellsUp {b kk : Nat} {T' : TypeId} {ds : List D} {C' : Res → List Res} {F' : List Res} (d d' : D) (hc : Sel (rCells b T' ds) M C' F') (hk : ds[kk]? = some d) (hup : ∀ J u, d.rel J u → d'.rel J u)
    (h : Run P f N I0 R g (C' (rCells b T' (ds.set kk d'))) k) : Run P f N I0 R g M k := by
  refine run_turn (fun I a w hsl hi => ?_) h
  refine ⟨I, I.le_refl, hsl, ?_⟩
  have h2 := hi.perm hc.perm.1
  refine Inv.perm ?_ (hc.perm.2 _)
  refine ⟨h2.os, h2.tape, h2.output, h2.imm, fun r hr => ?_, h2.apart⟩
  rcases List.mem_cons.1 hr with rfl | hr
  · obtain ⟨h3, o, h4, cs, h5, h6⟩ := h2.own _ (List.mem_cons_self ..)
    exact ⟨h3, o, h4, cs, h5, relL_same h6 hk (fun u hu => hup I u hu)⟩
  · exact h2.own r (List.mem_cons_of_mem _ hr)

/-- A handle, told by name. -/
def dSlV (v : Value) : D := ⟨fun _ u => u = v ∧ ∃ a n c, u = .slice a n c, fun _ h => h⟩
instance (v : Value) : One (dSlV v) := ⟨fun ⟨_, _, _, _, h⟩ => by rw [h]; exact ⟨rfl, rfl⟩⟩

theorem runL_rowV {ops : Array Oper} {l : List Oper} {s : Nat} {C : Res → List Res} {F : List Res} {α : Type} {T n : Nat} {f' : α → List D} {xs : List α} {v : Value} (hs : look g s = some (dVal v)) (hm : Sel (rRow v T n f' xs) M C F)
    (h : RunL P f N I0 R ((s, dSlV v) :: g) M ops l k) : RunL P f N I0 R g M ops l k := by
  constructor
  intro I a w b cs hb hk hl hsl hi
  refine h.go I a w b cs hb hk hl (slots_cast hsl I.le_refl hs (fun u hu => ⟨hu, ?_⟩)) hi
  rw [show u = v from hu]
  rcases row_cases (hi.perm hm.perm.1) with ⟨e, _⟩ | ⟨b, cap, cs, e, _⟩
  · exact ⟨_, _, _, e⟩
  · exact ⟨_, _, _, e⟩

theorem row_slice {α : Type} {v : Value} {T n : Nat} {f' : α → List D} {xs : List α} {I : Imm} {F : List Res} {w : World} (h : Inv I (rRow v T n f' xs :: F) w) : ∃ a n c, v = .slice a n c := by
  rcases row_cases h with ⟨e, _⟩ | ⟨b, cap, cs, e, _⟩
  · exact ⟨_, _, _, e⟩
  · exact ⟨_, _, _, e⟩

theorem loc_append1V {t e : TypeId} {bytes : Nat} {z : Value} {agg : Bool} {n : Nat} {α : Type} {f' : α → List D} {xs : List α} {v : Value} {x y : Operand} {dst : Option Tmp} {ty : TypeId} {pos : String} {after : Array Edge} {gd : Option (Nat × Bool)} {ds : List D} (e0 : α) [ht : TySl P t e] [hz : TyZ P e bytes z] [hv : TyV P e agg n] [h1 : ∀ x, OneAll (f' x)] (hx : opd g x = some (dSlV v)) (hy : opd g y = some (dSl n (fun l : List D => l) [ds])) (he : f' e0 = ds) (hzn : z.cells.size = n)
    (hb : (xs.length + 1) * bytes ≤ 140737488355328) (hl : xs.length + 1 ≤ lenMax) :
    LocM P ⟨dst, .call ⟨.builtin .append, #[x, y], #[t, t]⟩, ty, pos, after, gd⟩ g N [rRow v e n f' xs] (fun _ : Value => True) (fun v' => dSlV v') (fun v' => [rRow v' e n f' (xs ++ [e0])]) := by
  constructor
  intro F I a w K Q hs hi hK
  subst he
  have hxv : a.eval x = v := (opd_sound hs hx).1
  obtain ⟨ad, cap, hyv, hcap, _, _, hel⟩ := dSl_lit (opd_sound hs hy)
  have hnil : ad = none → [e0] = [] := by
    intro h
    obtain ⟨_, p, hp, _⟩ := hel 0 e0 rfl; rw [h] at hp; cases hp
  obtain ⟨v', w', hr, hi'⟩ := row_append (P := P) (t := t) (ht := ht) (hz := hz) (hv := hv) rfl hzn hi rfl hcap hel hnil (by simpa using hb) (by simpa using hl) ty
  unfold Oper.wp
  have hrun : (execOp a.eval ⟨dst, .call ⟨.builtin .append, #[x, y], #[t, t]⟩, ty, pos, after, gd⟩).run P w = .ok (.value v') w' := by
    simp only [execOp, resolve, invoke, builtin, Sem.run_bind, Sem.run_pure, Result.andThen_ok, List.map_toArray, List.map_cons, List.map_nil, hxv, hyv]
    simp only [List.length_cons, List.length_nil] at hr ⊢
    rw [hr]
    rfl
  rw [hrun]
  exact hK v' v' w' I trivial I.le_refl ⟨rfl, row_slice hi'⟩ hi'

/-! ### Many rows become immutable -/

def rOf {α : Type} (T n : Nat) (f' : α → List D) (p : Value × List α) : Res := rRow p.1 T n f' p.2

theorem rows_freeze {α : Type} {T n : Nat} {f' : α → List D} : ∀ (l : List (Value × List α)) {I : Imm} {F : List Res} {w : World}, Inv I (l.map (rOf T n f') ++ F) w →
    ∃ J, I.le J ∧ (∀ p ∈ l, (dSl n f' p.2).rel J p.1) ∧ Inv J F w
  | [], I, F, w, h => ⟨I, I.le_refl, fun p hp => (by cases hp), h⟩
  | p :: l, I, F, w, h => by
    obtain ⟨J, h1, h2, h3⟩ := row_freeze (show Inv I (rRow p.1 T n f' p.2 :: (l.map (rOf T n f') ++ F)) w from h)
    obtain ⟨K, h4, h5, h6⟩ := rows_freeze l h3
    refine ⟨K, h1.trans h4, fun q hq => ?_, h6⟩
    rcases List.mem_cons.1 hq with rfl | hq
    · exact (dSl n f' q.2).mono h4 h2
    · exact h5 q hq

/-- Elements of an immutable row, told more closely. -/
theorem sl_up {α β : Type} {n : Nat} {f : α → List D} {h : β → List D} {I : Imm} {v : Value} {xs : List α} {ys : List β} (hl : xs.length = ys.length)
    (hup : ∀ (i : Nat) (x : α) (y : β), xs[i]? = some x → ys[i]? = some y → (f x).length = (h y).length ∧ ∀ cs, relL (f x) I cs → relL (h y) I cs) (hr : (dSl n f xs).rel I v) : (dSl n h ys).rel I v := by
  obtain ⟨a, cap, h1, h2, h3, h4, h5⟩ := hr
  rw [hl] at h1 h2 h4
  refine ⟨a, cap, h1, h2, h3, h4, fun i y hy => ?_⟩
  have hi : i < ys.length := (List.getElem?_eq_some_iff.1 hy).1
  have hx : xs[i]? = some (xs[i]'(by omega)) := by simp [hl, hi]
  obtain ⟨e1, e2⟩ := hup i _ y hx hy
  obtain ⟨h6, p, h7, h8, h9, cs, T, fz, h10, h11⟩ := h5 i _ hx
  exact ⟨by omega, p, h7, h8, h9, cs, T, fz, h10, by rw [← e1]; exact e2 _ h11⟩

/-- A row of rows that the call owns, with all of its rows, becomes immutable. -/
theorem spec_freezeRows {f : FuncId} {Ds : List D} {T T' : Nat} {xs : List (List Int)}
    (h : Spec P f Ds [] (fun s : Value × List (Value × List Int) => s.2.map (·.2) = xs) (fun s => dVal s.1) (fun s => rRow s.1 T 1 (fun u => [dSlV u]) (s.2.map (·.1)) :: s.2.map (rOf T' 1 (fun x => [dInt .i64 x])))) : SpecP P f Ds (dRows xs) := by
  intro I M w vs hv hi
  refine (h I M w vs hv hi).mono ?_
  rintro e w' ⟨v, rfl, s, hs, J, h1, h2, h3⟩
  obtain ⟨J', h4, h5, h6⟩ := row_freeze h3
  obtain ⟨K, h7, h8, h9⟩ := rows_freeze s.2 h6
  have hvs : v = s.1 := h2
  subst hvs
  refine ⟨s.1, rfl, K, (h1.trans h4).trans h7, ?_, h9⟩
  refine sl_up (by rw [← hs]; simp) (fun i x y hx hy => ⟨rfl, fun cs hr => ?_⟩) (D.mono _ h7 h5)
  rw [← hs] at hy
  rw [List.getElem?_map] at hx hy
  match hp : s.2[i]?, cs, hr with
  | some p, [u], hr =>
    rw [hp] at hx hy
    simp only [Option.map_some, Option.some.injEq] at hx hy
    subst hx; subst hy
    have := h8 p (List.mem_of_getElem? hp)
    rw [← show u = p.1 from hr.1.1] at this
    exact ⟨this, trivial⟩
  | none, _, _ => rw [hp] at hx; cases hx

/-- The same, but one of its rows stays the call's own. -/
theorem spec_freezeBut {f : FuncId} {Ds : List D} {T T' : Nat} {xs : List (List Int)} (k : Nat) (hk : k < xs.length)
    (h : Spec P f Ds [] (fun s : Value × List (Value × List Int) => s.2.map (·.2) = xs) (fun s => dVal s.1) (fun s => rRow s.1 T 1 (fun u => [dSlV u]) (s.2.map (·.1)) :: s.2.map (rOf T' 1 (fun x => [dInt .i64 x])))) :
    Spec P f Ds [] (fun _ : Value => True) (fun v => dSl 1 (fun d : D => [d]) ((xs.map (fun x => dInts x)).set k (dVal v))) (fun v => [rRow v T' 1 (fun x => [dInt .i64 x]) (xs[k]?.getD default)]) := by
  intro I M w vs hv hi
  refine (h I M w vs hv hi).mono ?_
  rintro e w' ⟨v, rfl, s, hs, J, h1, h2, h3⟩
  obtain ⟨J', h4, h5, h6⟩ := row_freeze h3
  have hlen : s.2.length = xs.length := by rw [← hs]; simp
  have hpk : s.2[k]? = some (s.2[k]'(by omega)) := by simp [hlen, hk]
  generalize s.2[k]'(by omega) = pk at hpk
  have hxk : xs[k]?.getD default = pk.2 := by rw [← hs, List.getElem?_map, hpk]; rfl
  have hsp : s.2 = s.2.take k ++ pk :: s.2.drop (k + 1) := by
    conv => lhs; rw [← List.take_append_drop k s.2]
    congr 1
    rw [List.drop_eq_getElem_cons (by omega)]
    congr 1
    rw [List.getElem?_eq_getElem (by omega)] at hpk
    injection hpk
  have h6' : Inv J' ((s.2.take k ++ s.2.drop (k + 1)).map (rOf T' 1 (fun x => [dInt .i64 x])) ++ (rOf T' 1 (fun x => [dInt .i64 x]) pk :: M)) w' := by
    refine h6.perm ?_
    conv => lhs; rw [hsp]
    simp only [List.append_eq, List.map_append, List.map_cons, List.append_assoc, List.cons_append]
    refine List.Perm.append_left _ ?_
    exact (List.perm_middle).symm
  obtain ⟨K, h7, h8, h9⟩ := rows_freeze _ h6'
  have hvs : v = s.1 := h2
  subst hvs
  refine ⟨s.1, rfl, pk.1, trivial, K, (h1.trans h4).trans h7, ?_, ?_⟩
  · refine sl_up (by simp [hlen]) (fun i x y hx hy => ⟨rfl, fun cs hr => ?_⟩) (D.mono _ h7 h5)
    rw [List.getElem?_map] at hx
    match hp : s.2[i]?, cs, hr with
    | some p, [u], hr =>
      rw [hp] at hx
      simp only [Option.map_some, Option.some.injEq] at hx
      subst hx
      have hu : u = p.1 := hr.1.1
      rw [List.getElem?_set] at hy
      by_cases e : k = i
      · subst e
        rw [if_pos rfl, if_pos (by simp; omega)] at hy
        injection hy with hy
        subst hy
        rw [hpk] at hp
        injection hp with hp
        exact ⟨by rw [hp]; exact hu, trivial⟩
      · rw [if_neg e, List.getElem?_map, ← hs, List.getElem?_map, hp] at hy
        simp only [Option.map_some, Option.some.injEq] at hy
        subst hy
        have hm : p ∈ s.2.take k ++ s.2.drop (k + 1) := by
          by_cases e2 : i < k
          · exact List.mem_append_left _ (List.mem_of_getElem? (i := i) (by rw [List.getElem?_take, if_pos e2]; exact hp))
          · exact List.mem_append_right _ (List.mem_of_getElem? (i := i - (k + 1)) (by rw [List.getElem?_drop, show k + 1 + (i - (k + 1)) = i by omega]; exact hp))
        have := h8 p hm
        rw [← hu] at this
        exact ⟨this, trivial⟩
    | none, _, _ => rw [hp] at hx; cases hx
  · rw [hxk]; exact h9

end Go.Q

namespace Go.Q
open Classical

structure Dk where
  xs : List Int
  k : Nat

def Dk.val (d : Dk) (n : Int) : Int := if n < 1 ∨ d.xs.length ≤ d.k then 0 else (d.xs[d.k]?.getD default) % n
def Dk.next (d : Dk) (n : Int) : Dk := if n < 1 ∨ d.xs.length ≤ d.k then d else ⟨d.xs, d.k + 1⟩

theorem Dk.val_nonneg (d : Dk) (n : Int) : 0 ≤ d.val n := by
  unfold Dk.val
  split
  · omega
  · exact Int.emod_nonneg _ (by omega)
theorem Dk.val_lt (d : Dk) (n : Int) (h : 1 ≤ n) : d.val n < n := by
  unfold Dk.val
  split
  · omega
  · exact Int.emod_lt_of_pos _ (by omega)

def Dk.it (d : Dk) (p : Int) : Nat → Dk
  | 0 => d
  | k + 1 => (d.it p k).next p
def Dk.elems (d : Dk) (p : Int) : Nat → List Int
  | 0 => []
  | k + 1 => d.elems p k ++ [(d.it p k).val p]
def Dk.itR (d : Dk) (p : Int) (w : Nat) : Nat → Dk
  | 0 => d
  | k + 1 => (d.itR p w k).it p w
def Dk.rowsR (d : Dk) (p : Int) (w : Nat) : Nat → List (List Int)
  | 0 => []
  | k + 1 => d.rowsR p w k ++ [(d.itR p w k).elems p w]

theorem Dk.elems_length (d : Dk) (p : Int) : ∀ k, (d.elems p k).length = k
  | 0 => rfl
  | k + 1 => by simp [Dk.elems, Dk.elems_length d p k]
theorem Dk.elems_all (d : Dk) (p : Int) (hp : 1 ≤ p) : ∀ k, allP p (d.elems p k)
  | 0 => fun x hx => by cases hx
  | k + 1 => fun x hx => by
    rcases List.mem_append.1 hx with hx | hx
    · exact Dk.elems_all d p hp k x hx
    · rw [List.mem_singleton] at hx
      subst hx
      exact ⟨Dk.val_nonneg _ _, Dk.val_lt _ _ hp⟩
theorem Dk.rowsR_length (d : Dk) (p : Int) (w : Nat) : ∀ k, (d.rowsR p w k).length = k
  | 0 => rfl
  | k + 1 => by simp [Dk.rowsR, Dk.rowsR_length d p w k]
theorem Dk.rowsR_all (d : Dk) (p : Int) (w : Nat) (hp : 1 ≤ p) : ∀ k, ∀ r ∈ d.rowsR p w k, r.length = w ∧ allP p r
  | 0 => fun x hx => by cases hx
  | k + 1 => fun x hx => by
    rcases List.mem_append.1 hx with hx | hx
    · exact Dk.rowsR_all d p w hp k x hx
    · rw [List.mem_singleton] at hx
      subst hx
      exact ⟨Dk.elems_length _ _ _, Dk.elems_all _ _ hp _⟩

def primes9 : List Int := [2, 3, 5, 7, 11, 13, 17, 257, 65521]
def Dk.fld (d : Dk) : Int := primes9[(d.val 9).toNat]?.getD default

set_option maxRecDepth 20000 in
theorem ok_small : ∀ p ∈ [2, 3, 5, 7, 11, 13, 17, 257, 65521], ∀ e : Nat, e < 256 → 2 ≤ e → e * e ≤ p → p % e ≠ 0 := by decide

theorem okP_nine {p : Int} (h : p ∈ primes9) : okP p := by
  have h1 : ∃ q : Nat, q ∈ [2, 3, 5, 7, 11, 13, 17, 257, 65521] ∧ p = q := by
    simp only [primes9, List.mem_cons, List.not_mem_nil, or_false] at h
    rcases h with h | h | h | h | h | h | h | h | h <;> subst h
    · exact ⟨2, by decide, rfl⟩
    · exact ⟨3, by decide, rfl⟩
    · exact ⟨5, by decide, rfl⟩
    · exact ⟨7, by decide, rfl⟩
    · exact ⟨11, by decide, rfl⟩
    · exact ⟨13, by decide, rfl⟩
    · exact ⟨17, by decide, rfl⟩
    · exact ⟨257, by decide, rfl⟩
    · exact ⟨65521, by decide, rfl⟩
  obtain ⟨q, hq, rfl⟩ := h1
  have hb : ∀ q ∈ [2, 3, 5, 7, 11, 13, 17, 257, 65521], 2 ≤ q ∧ q ≤ 65521 := by decide
  have hb := hb q hq
  refine ⟨by omega, by omega, fun d h2 h3 h4 => ?_⟩
  have hd : d < 256 := by
    by_cases e : d < 256
    · exact e
    · exfalso
      have := Int.mul_le_mul (show (256 : Int) ≤ d by omega) (show (256 : Int) ≤ d by omega) (by omega) (by omega)
      omega
  obtain ⟨e, rfl⟩ := Int.eq_ofNat_of_zero_le (show 0 ≤ d by omega)
  refine ok_small q hq e (by omega) (by omega) (by exact_mod_cast h3) ?_
  have h5 : ((q % e : Nat) : Int) = 0 := by rw [Int.natCast_emod]; exact h4
  exact_mod_cast h5

theorem Dk.fld_mem (d : Dk) : d.fld ∈ primes9 := by
  have h1 := d.val_nonneg 9
  have h2 := d.val_lt 9 (by omega)
  exact getD_mem (xs := primes9) (by show (d.val 9).toNat < 9; omega)
theorem Dk.fld_ok (d : Dk) : okP d.fld := okP_nine d.fld_mem

theorem checkT_zero {t : Tab} (h1 : 1 ≤ t.number ∧ t.number < 2147483647) (h2 : okP t.p) (h3 : 1 ≤ t.width ∧ t.width ≤ 64) (h4 : t.rows.length ≤ 1024) (h5 : ∀ r ∈ t.rows, (r.length : Int) = t.width ∧ allP t.p r) : checkT t = 0 := by
  unfold checkT
  rw [if_neg (by omega), if_neg (by simpa using h2), if_neg (by omega), if_neg (by omega)]
  refine firstErr_zero.2 fun r hr => ?_
  obtain ⟨h6, h7⟩ := h5 r hr
  unfold rowErr
  rw [if_neg (by simpa using h6), if_neg (by simpa using h7)]

/-- The deck after the numbers of a table's field and width, then after its number, then after how many rows it has. -/
def Dk.tabW (d : Dk) : Int := 1 + (d.next 9).val 4
def Dk.tab1 (d : Dk) : Dk := (d.next 9).next 4
def Dk.tabN (d : Dk) : Int := 1 + d.tab1.val 9
def Dk.tab2 (d : Dk) : Dk := d.tab1.next 9
def Dk.tabR (d : Dk) : Int := d.tab2.val 7
def Dk.tab3 (d : Dk) : Dk := d.tab2.next 7
def Dk.tab (d : Dk) : Tab := ⟨d.tabN, d.fld, d.tabW, d.tab3.rowsR d.fld d.tabW.toNat d.tabR.toNat⟩
def Dk.tab4 (d : Dk) : Dk := d.tab3.itR d.fld d.tabW.toNat d.tabR.toNat

theorem Dk.tabW_bd (d : Dk) : 1 ≤ d.tabW ∧ d.tabW ≤ 4 := by
  have h1 := (d.next 9).val_nonneg 4
  have h2 := (d.next 9).val_lt 4 (by omega)
  unfold Dk.tabW; omega
theorem Dk.tabN_bd (d : Dk) : 1 ≤ d.tabN ∧ d.tabN ≤ 9 := by
  have h1 := d.tab1.val_nonneg 9
  have h2 := d.tab1.val_lt 9 (by omega)
  unfold Dk.tabN; omega
theorem Dk.tabR_bd (d : Dk) : 0 ≤ d.tabR ∧ d.tabR ≤ 6 := by
  have h1 := d.tab2.val_nonneg 7
  have h2 := d.tab2.val_lt 7 (by omega)
  unfold Dk.tabR; omega

theorem Dk.tab_rows (d : Dk) : d.tab.rows.length ≤ 6 ∧ ∀ r ∈ d.tab.rows, (r.length : Int) = d.tab.width ∧ allP d.tab.p r := by
  have h1 := d.tabW_bd
  have h2 := d.tabR_bd
  refine ⟨by show (d.tab3.rowsR _ _ _).length ≤ 6; rw [Dk.rowsR_length]; omega, fun r hr => ?_⟩
  obtain ⟨h3, h4⟩ := Dk.rowsR_all _ _ _ (by have := d.fld_ok; unfold okP at this; omega) _ r hr
  exact ⟨by rw [h3]; show _ = d.tabW; omega, h4⟩

theorem Dk.tab_ok (d : Dk) : checkT d.tab = 0 := by
  have h1 := d.tabW_bd
  have h2 := d.tabN_bd
  have h3 := d.tab_rows
  exact checkT_zero (by show _ ∧ d.tabN < _; exact ⟨h2.1, by omega⟩) d.fld_ok (by show _ ∧ d.tabW ≤ _; exact ⟨h1.1, by omega⟩) (by omega) h3.2

theorem Dk.newT_tab (d : Dk) : newT d.tabN d.fld d.tabW (d.tab3.rowsR d.fld d.tabW.toNat d.tabR.toNat) = d.tab := by
  have h := d.tab_ok
  unfold newT
  rw [if_pos (show checkT ⟨d.tabN, d.fld, d.tabW, d.tab3.rowsR d.fld d.tabW.toNat d.tabR.toNat⟩ = 0 from h)]
  rfl

end Go.Q

namespace Go.Q

variable {P : Program} {f : FuncId}

/-- A deck at a place of the heap, of the type T. -/
def rDk (T b : Nat) (d : Dk) : Res := rCells b T [dInts d.xs, dInt .i64 (d.k : Nat)]

theorem spec_freezeK {Ds : List D} {T n : Nat} {α : Type} {f' : α → List D} {xs : List α} {Min : List Res} {r : Res} (h : Spec P f Ds Min (fun _ : Value => True) (fun v => dVal v) (fun v => [rRow v T n f' xs, r])) : Spec P f Ds Min (fun _ : Unit => True) (fun _ => dSl n f' xs) (fun _ => [r]) := by
  intro I M w vs hv hi
  refine (h I M w vs hv hi).mono ?_
  rintro e w' ⟨v, rfl, s, _, J, h1, h2, h3⟩
  obtain ⟨J', h4, h5, h6⟩ := row_freeze h3
  have hvs : v = s := h2
  subst hvs
  exact ⟨v, rfl, (), trivial, J', h1.trans h4, h5, h6⟩

end Go.Q
