/- P6 of the types of the program, as instances (printed by a program). No conditions. -/
import Derived.Test.YtocoehahhohpgaaGreatMa
import Derived.Test.YtocoehahhohpgaaGreatChecked
set_option linter.unusedSimpArgs false
set_option linter.unusedVariables false
namespace Go.Proofs.YtocoehahhohpgaaGreat
open Go Go.Proofs
instance : HasU Tryz.prog 2 (.int .i64) := ⟨Tryz.underlying2⟩
instance : HasU Tryz.prog 3 (.int .i64) := ⟨Tryz.underlying3⟩
instance : HasS Tryz.prog 3 1 := ⟨by kernel_rfl⟩
instance : HasB Tryz.prog 3 8 := ⟨by kernel_rfl⟩
instance : HasZ Tryz.prog 3 (.int .i64 0) := ⟨by kernel_rfl⟩
instance : HasU Tryz.prog 4 (.bool) := ⟨Tryz.underlying4⟩
instance : HasS Tryz.prog 4 1 := ⟨by kernel_rfl⟩
instance : HasB Tryz.prog 4 1 := ⟨by kernel_rfl⟩
instance : HasZ Tryz.prog 4 (.bool false) := ⟨by kernel_rfl⟩
instance : HasU Tryz.prog 9 (.string) := ⟨Tryz.underlying9⟩
instance : HasS Tryz.prog 9 1 := ⟨by kernel_rfl⟩
instance : HasU Tryz.prog 22 (.slice 53) := ⟨Tryz.underlying22⟩
instance : HasU Tryz.prog 23 (.slice 158) := ⟨Tryz.underlying23⟩
instance : HasU Tryz.prog 25 (.struct (Ao Tryz.prog 25)) := ⟨by kernel_rfl⟩
instance : HasF Tryz.prog 25 0 0 := ⟨_, _, 1, Tryz.underlying25, rfl, by kernel_rfl, rfl, rfl⟩
instance : HasF Tryz.prog 25 1 1 := ⟨_, _, 1, Tryz.underlying25, rfl, by kernel_rfl, rfl, rfl⟩
instance : HasF Tryz.prog 25 2 2 := ⟨_, _, 1, Tryz.underlying25, rfl, by kernel_rfl, rfl, rfl⟩
instance : HasF Tryz.prog 25 3 3 := ⟨_, _, 1, Tryz.underlying25, rfl, by kernel_rfl, rfl, rfl⟩
instance : HasL Tryz.prog 25 [(0, 1), (1, 1), (2, 1), (3, 1)] := ⟨_, Tryz.underlying25, fun w => by kernel_rfl⟩
instance : HasS Tryz.prog 25 4 := ⟨by kernel_rfl⟩
instance : HasZ Tryz.prog 25 (.agg #[(.string ⟨#[]⟩), (.int .i64 0), (.slice none 0 0), (.slice none 0 0)]) := ⟨by kernel_rfl⟩
instance : HasU Tryz.prog 26 (.slice 147) := ⟨Tryz.underlying26⟩
instance : HasU Tryz.prog 27 (.slice 56) := ⟨Tryz.underlying27⟩
instance : HasU Tryz.prog 29 (.struct (Ao Tryz.prog 29)) := ⟨by kernel_rfl⟩
instance : HasF Tryz.prog 29 0 0 := ⟨_, _, 1, Tryz.underlying29, rfl, by kernel_rfl, rfl, rfl⟩
instance : HasF Tryz.prog 29 1 1 := ⟨_, _, 1, Tryz.underlying29, rfl, by kernel_rfl, rfl, rfl⟩
instance : HasL Tryz.prog 29 [(0, 1), (1, 1)] := ⟨_, Tryz.underlying29, fun w => by kernel_rfl⟩
instance : HasS Tryz.prog 29 2 := ⟨by kernel_rfl⟩
instance : HasZ Tryz.prog 29 (.agg #[(.slice none 0 0), (.slice none 0 0)]) := ⟨by kernel_rfl⟩
instance : HasU Tryz.prog 30 (.slice 3) := ⟨Tryz.underlying30⟩
instance : HasS Tryz.prog 30 1 := ⟨by kernel_rfl⟩
instance : HasB Tryz.prog 30 24 := ⟨by kernel_rfl⟩
instance : HasZ Tryz.prog 30 (.slice none 0 0) := ⟨by kernel_rfl⟩
instance : HasU Tryz.prog 34 (.slice 44) := ⟨Tryz.underlying34⟩
instance : HasS Tryz.prog 34 1 := ⟨by kernel_rfl⟩
instance : HasZ Tryz.prog 34 (.slice none 0 0) := ⟨by kernel_rfl⟩
instance : HasU Tryz.prog 35 (.int .i64) := ⟨Tryz.underlying35⟩
instance : HasS Tryz.prog 35 1 := ⟨by kernel_rfl⟩
instance : HasZ Tryz.prog 35 (.int .i64 0) := ⟨by kernel_rfl⟩
instance : HasU Tryz.prog 42 (.struct (Ao Tryz.prog 42)) := ⟨by kernel_rfl⟩
instance : HasF Tryz.prog 42 0 0 := ⟨_, _, 1, Tryz.underlying42, rfl, by kernel_rfl, rfl, rfl⟩
instance : HasL Tryz.prog 42 [(0, 1), (1, 1)] := ⟨_, Tryz.underlying42, fun w => by kernel_rfl⟩
instance : HasS Tryz.prog 42 2 := ⟨by kernel_rfl⟩
instance : HasZ Tryz.prog 42 (.agg #[(.int .i64 0), (.int .i64 0)]) := ⟨by kernel_rfl⟩
instance : HasU Tryz.prog 44 (.struct (Ao Tryz.prog 44)) := ⟨by kernel_rfl⟩
instance : HasF Tryz.prog 44 0 0 := ⟨_, _, 1, Tryz.underlying44, rfl, by kernel_rfl, rfl, rfl⟩
instance : HasF Tryz.prog 44 1 1 := ⟨_, _, 1, Tryz.underlying44, rfl, by kernel_rfl, rfl, rfl⟩
instance : HasF Tryz.prog 44 2 2 := ⟨_, _, 2, Tryz.underlying44, rfl, by kernel_rfl, rfl, rfl⟩
instance : HasL Tryz.prog 44 [(0, 1), (1, 1), (2, 2)] := ⟨_, Tryz.underlying44, fun w => by kernel_rfl⟩
instance : HasS Tryz.prog 44 4 := ⟨by kernel_rfl⟩
instance : HasB Tryz.prog 44 48 := ⟨by kernel_rfl⟩
instance : HasZ Tryz.prog 44 (.agg #[(.string ⟨#[]⟩), (.string ⟨#[]⟩), (.int .i64 0), (.int .i64 0)]) := ⟨by kernel_rfl⟩
instance : HasU Tryz.prog 46 (.int .u32) := ⟨Tryz.underlying46⟩
instance : HasS Tryz.prog 46 1 := ⟨by kernel_rfl⟩
instance : HasB Tryz.prog 46 4 := ⟨by kernel_rfl⟩
instance : HasZ Tryz.prog 46 (.int .u32 0) := ⟨by kernel_rfl⟩
instance : HasU Tryz.prog 50 (.slice 154) := ⟨Tryz.underlying50⟩
instance : HasU Tryz.prog 51 (.slice 231) := ⟨Tryz.underlying51⟩
instance : HasU Tryz.prog 53 (.struct (Ao Tryz.prog 53)) := ⟨by kernel_rfl⟩
instance : HasF Tryz.prog 53 0 0 := ⟨_, _, 1, Tryz.underlying53, rfl, by kernel_rfl, rfl, rfl⟩
instance : HasF Tryz.prog 53 1 1 := ⟨_, _, 1, Tryz.underlying53, rfl, by kernel_rfl, rfl, rfl⟩
instance : HasF Tryz.prog 53 2 2 := ⟨_, _, 1, Tryz.underlying53, rfl, by kernel_rfl, rfl, rfl⟩
instance : HasF Tryz.prog 53 3 3 := ⟨_, _, 1, Tryz.underlying53, rfl, by kernel_rfl, rfl, rfl⟩
instance : HasF Tryz.prog 53 4 4 := ⟨_, _, 1, Tryz.underlying53, rfl, by kernel_rfl, rfl, rfl⟩
instance : HasF Tryz.prog 53 5 5 := ⟨_, _, 1, Tryz.underlying53, rfl, by kernel_rfl, rfl, rfl⟩
instance : HasF Tryz.prog 53 6 6 := ⟨_, _, 1, Tryz.underlying53, rfl, by kernel_rfl, rfl, rfl⟩
instance : HasF Tryz.prog 53 7 7 := ⟨_, _, 1, Tryz.underlying53, rfl, by kernel_rfl, rfl, rfl⟩
instance : HasF Tryz.prog 53 8 8 := ⟨_, _, 1, Tryz.underlying53, rfl, by kernel_rfl, rfl, rfl⟩
instance : HasF Tryz.prog 53 9 9 := ⟨_, _, 1, Tryz.underlying53, rfl, by kernel_rfl, rfl, rfl⟩
instance : HasF Tryz.prog 53 10 10 := ⟨_, _, 1, Tryz.underlying53, rfl, by kernel_rfl, rfl, rfl⟩
instance : HasF Tryz.prog 53 11 11 := ⟨_, _, 1, Tryz.underlying53, rfl, by kernel_rfl, rfl, rfl⟩
instance : HasF Tryz.prog 53 12 12 := ⟨_, _, 1, Tryz.underlying53, rfl, by kernel_rfl, rfl, rfl⟩
instance : HasL Tryz.prog 53 [(0, 1), (1, 1), (2, 1), (3, 1), (4, 1), (5, 1), (6, 1), (7, 1), (8, 1), (9, 1), (10, 1), (11, 1), (12, 1)] := ⟨_, Tryz.underlying53, fun w => by kernel_rfl⟩
instance : HasS Tryz.prog 53 13 := ⟨by kernel_rfl⟩
instance : HasB Tryz.prog 53 160 := ⟨by kernel_rfl⟩
instance : HasZ Tryz.prog 53 (.agg #[(.string ⟨#[]⟩), (.int .i64 0), (.int .i64 0), (.int .i64 0), (.int .i64 0), (.slice none 0 0), (.int .i64 0), (.int .i64 0), (.int .i64 0), (.int .i64 0), (.int .i64 0), (.slice none 0 0), (.slice none 0 0)]) := ⟨by kernel_rfl⟩
instance : HasU Tryz.prog 56 (.array 2 9) := ⟨Tryz.underlying56⟩
instance : HasS Tryz.prog 56 2 := ⟨by kernel_rfl⟩
instance : HasB Tryz.prog 56 32 := ⟨by kernel_rfl⟩
instance : HasZ Tryz.prog 56 (.agg #[(.string ⟨#[]⟩), (.string ⟨#[]⟩)]) := ⟨by kernel_rfl⟩
instance : HasU Tryz.prog 59 (.slice 65) := ⟨Tryz.underlying59⟩
instance : HasU Tryz.prog 65 (.struct (Ao Tryz.prog 65)) := ⟨by kernel_rfl⟩
instance : HasF Tryz.prog 65 0 0 := ⟨_, _, 1, Tryz.underlying65, rfl, by kernel_rfl, rfl, rfl⟩
instance : HasF Tryz.prog 65 1 1 := ⟨_, _, 1, Tryz.underlying65, rfl, by kernel_rfl, rfl, rfl⟩
instance : HasL Tryz.prog 65 [(0, 1), (1, 1)] := ⟨_, Tryz.underlying65, fun w => by kernel_rfl⟩
instance : HasS Tryz.prog 65 2 := ⟨by kernel_rfl⟩
instance : HasB Tryz.prog 65 16 := ⟨by kernel_rfl⟩
instance : HasZ Tryz.prog 65 (.agg #[(.int .i64 0), (.int .i64 0)]) := ⟨by kernel_rfl⟩
instance : HasU Tryz.prog 83 (.slice 89) := ⟨Tryz.underlying83⟩
instance : HasL Tryz.prog 89 [(0, 1), (1, 1)] := ⟨_, Tryz.underlying89, fun w => by kernel_rfl⟩
instance : HasS Tryz.prog 89 2 := ⟨by kernel_rfl⟩
instance : HasB Tryz.prog 89 24 := ⟨by kernel_rfl⟩
instance : HasZ Tryz.prog 89 (.agg #[(.string ⟨#[]⟩), (.int .i64 0)]) := ⟨by kernel_rfl⟩
instance : HasU Tryz.prog 90 (.slice 152) := ⟨Tryz.underlying90⟩
instance : HasU Tryz.prog 97 (.array 2 53) := ⟨Tryz.underlying97⟩
instance : HasU Tryz.prog 99 (.slice 185) := ⟨Tryz.underlying99⟩
instance : HasS Tryz.prog 99 1 := ⟨by kernel_rfl⟩
instance : HasZ Tryz.prog 99 (.slice none 0 0) := ⟨by kernel_rfl⟩
instance : HasU Tryz.prog 100 (.array 2 99) := ⟨Tryz.underlying100⟩
instance : HasU Tryz.prog 102 (.struct (Ao Tryz.prog 102)) := ⟨by kernel_rfl⟩
instance : HasF Tryz.prog 102 0 0 := ⟨_, _, 2, Tryz.underlying102, rfl, by kernel_rfl, rfl, rfl⟩
instance : HasF Tryz.prog 102 1 2 := ⟨_, _, 26, Tryz.underlying102, rfl, by kernel_rfl, rfl, rfl⟩
instance : HasF Tryz.prog 102 2 28 := ⟨_, _, 2, Tryz.underlying102, rfl, by kernel_rfl, rfl, rfl⟩
instance : HasL Tryz.prog 102 [(0, 2), (2, 26), (28, 2)] := ⟨_, Tryz.underlying102, fun w => by kernel_rfl⟩
instance : HasS Tryz.prog 102 30 := ⟨by kernel_rfl⟩
instance : HasZ Tryz.prog 102 (.agg #[(.string ⟨#[]⟩), (.string ⟨#[]⟩), (.string ⟨#[]⟩), (.int .i64 0), (.int .i64 0), (.int .i64 0), (.int .i64 0), (.slice none 0 0), (.int .i64 0), (.int .i64 0), (.int .i64 0), (.int .i64 0), (.int .i64 0), (.slice none 0 0), (.slice none 0 0), (.string ⟨#[]⟩), (.int .i64 0), (.int .i64 0), (.int .i64 0), (.int .i64 0), (.slice none 0 0), (.int .i64 0), (.int .i64 0), (.int .i64 0), (.int .i64 0), (.int .i64 0), (.slice none 0 0), (.slice none 0 0), (.slice none 0 0), (.slice none 0 0)]) := ⟨by kernel_rfl⟩
instance : HasU Tryz.prog 110 (.slice 30) := ⟨Tryz.underlying110⟩
instance : HasU Tryz.prog 112 (.struct (Ao Tryz.prog 112)) := ⟨by kernel_rfl⟩
instance : HasF Tryz.prog 112 0 0 := ⟨_, _, 1, Tryz.underlying112, rfl, by kernel_rfl, rfl, rfl⟩
instance : HasF Tryz.prog 112 1 1 := ⟨_, _, 1, Tryz.underlying112, rfl, by kernel_rfl, rfl, rfl⟩
instance : HasF Tryz.prog 112 2 2 := ⟨_, _, 1, Tryz.underlying112, rfl, by kernel_rfl, rfl, rfl⟩
instance : HasL Tryz.prog 112 [(0, 1), (1, 1), (2, 1)] := ⟨_, Tryz.underlying112, fun w => by kernel_rfl⟩
instance : HasS Tryz.prog 112 3 := ⟨by kernel_rfl⟩
instance : HasZ Tryz.prog 112 (.agg #[(.slice none 0 0), (.slice none 0 0), (.slice none 0 0)]) := ⟨by kernel_rfl⟩
instance : HasU Tryz.prog 145 (.slice 160) := ⟨Tryz.underlying145⟩
instance : HasU Tryz.prog 147 (.struct (Ao Tryz.prog 147)) := ⟨by kernel_rfl⟩
instance : HasF Tryz.prog 147 0 0 := ⟨_, _, 1, Tryz.underlying147, rfl, by kernel_rfl, rfl, rfl⟩
instance : HasF Tryz.prog 147 1 1 := ⟨_, _, 1, Tryz.underlying147, rfl, by kernel_rfl, rfl, rfl⟩
instance : HasF Tryz.prog 147 2 2 := ⟨_, _, 1, Tryz.underlying147, rfl, by kernel_rfl, rfl, rfl⟩
instance : HasF Tryz.prog 147 3 3 := ⟨_, _, 1, Tryz.underlying147, rfl, by kernel_rfl, rfl, rfl⟩
instance : HasF Tryz.prog 147 4 4 := ⟨_, _, 1, Tryz.underlying147, rfl, by kernel_rfl, rfl, rfl⟩
instance : HasF Tryz.prog 147 5 5 := ⟨_, _, 1, Tryz.underlying147, rfl, by kernel_rfl, rfl, rfl⟩
instance : HasF Tryz.prog 147 6 6 := ⟨_, _, 1, Tryz.underlying147, rfl, by kernel_rfl, rfl, rfl⟩
instance : HasS Tryz.prog 147 7 := ⟨by kernel_rfl⟩
instance : HasZ Tryz.prog 147 (.agg #[(.string ⟨#[]⟩), (.string ⟨#[]⟩), (.int .i64 0), (.int .i64 0), (.slice none 0 0), (.int .i64 0), (.int .i64 0)]) := ⟨by kernel_rfl⟩
instance : HasU Tryz.prog 154 (.struct (Ao Tryz.prog 154)) := ⟨by kernel_rfl⟩
instance : HasF Tryz.prog 154 0 0 := ⟨_, _, 1, Tryz.underlying154, rfl, by kernel_rfl, rfl, rfl⟩
instance : HasF Tryz.prog 154 1 1 := ⟨_, _, 1, Tryz.underlying154, rfl, by kernel_rfl, rfl, rfl⟩
instance : HasF Tryz.prog 154 2 2 := ⟨_, _, 1, Tryz.underlying154, rfl, by kernel_rfl, rfl, rfl⟩
instance : HasF Tryz.prog 154 3 3 := ⟨_, _, 1, Tryz.underlying154, rfl, by kernel_rfl, rfl, rfl⟩
instance : HasF Tryz.prog 154 4 4 := ⟨_, _, 1, Tryz.underlying154, rfl, by kernel_rfl, rfl, rfl⟩
instance : HasF Tryz.prog 154 5 5 := ⟨_, _, 1, Tryz.underlying154, rfl, by kernel_rfl, rfl, rfl⟩
instance : HasF Tryz.prog 154 6 6 := ⟨_, _, 1, Tryz.underlying154, rfl, by kernel_rfl, rfl, rfl⟩
instance : HasL Tryz.prog 154 [(0, 1), (1, 1), (2, 1), (3, 1), (4, 1), (5, 1), (6, 1)] := ⟨_, Tryz.underlying154, fun w => by kernel_rfl⟩
instance : HasS Tryz.prog 154 7 := ⟨by kernel_rfl⟩
instance : HasZ Tryz.prog 154 (.agg #[(.string ⟨#[]⟩), (.int .i64 0), (.int .i64 0), (.int .i64 0), (.int .i64 0), (.int .i64 0), (.int .i64 0)]) := ⟨by kernel_rfl⟩
instance : HasU Tryz.prog 158 (.struct (Ao Tryz.prog 158)) := ⟨by kernel_rfl⟩
instance : HasF Tryz.prog 158 0 0 := ⟨_, _, 1, Tryz.underlying158, rfl, by kernel_rfl, rfl, rfl⟩
instance : HasF Tryz.prog 158 1 1 := ⟨_, _, 1, Tryz.underlying158, rfl, by kernel_rfl, rfl, rfl⟩
instance : HasF Tryz.prog 158 2 2 := ⟨_, _, 1, Tryz.underlying158, rfl, by kernel_rfl, rfl, rfl⟩
instance : HasF Tryz.prog 158 3 3 := ⟨_, _, 1, Tryz.underlying158, rfl, by kernel_rfl, rfl, rfl⟩
instance : HasS Tryz.prog 158 4 := ⟨by kernel_rfl⟩
instance : HasZ Tryz.prog 158 (.agg #[(.string ⟨#[]⟩), (.int .i64 0), (.int .i64 0), (.int .i64 0)]) := ⟨by kernel_rfl⟩
instance : HasU Tryz.prog 160 (.struct (Ao Tryz.prog 160)) := ⟨by kernel_rfl⟩
instance : HasF Tryz.prog 160 0 0 := ⟨_, _, 1, Tryz.underlying160, rfl, by kernel_rfl, rfl, rfl⟩
instance : HasF Tryz.prog 160 1 1 := ⟨_, _, 1, Tryz.underlying160, rfl, by kernel_rfl, rfl, rfl⟩
instance : HasF Tryz.prog 160 2 2 := ⟨_, _, 1, Tryz.underlying160, rfl, by kernel_rfl, rfl, rfl⟩
instance : HasF Tryz.prog 160 3 3 := ⟨_, _, 1, Tryz.underlying160, rfl, by kernel_rfl, rfl, rfl⟩
instance : HasF Tryz.prog 160 4 4 := ⟨_, _, 1, Tryz.underlying160, rfl, by kernel_rfl, rfl, rfl⟩
instance : HasL Tryz.prog 160 [(0, 1), (1, 1), (2, 1), (3, 1), (4, 1)] := ⟨_, Tryz.underlying160, fun w => by kernel_rfl⟩
instance : HasS Tryz.prog 160 5 := ⟨by kernel_rfl⟩
instance : HasZ Tryz.prog 160 (.agg #[(.string ⟨#[]⟩), (.int .i64 0), (.int .i64 0), (.int .i64 0), (.int .i64 0)]) := ⟨by kernel_rfl⟩
instance : HasU Tryz.prog 170 (.struct (Ao Tryz.prog 170)) := ⟨by kernel_rfl⟩
instance : HasF Tryz.prog 170 0 0 := ⟨_, _, 1, Tryz.underlying170, rfl, by kernel_rfl, rfl, rfl⟩
instance : HasF Tryz.prog 170 1 1 := ⟨_, _, 1, Tryz.underlying170, rfl, by kernel_rfl, rfl, rfl⟩
instance : HasF Tryz.prog 170 2 2 := ⟨_, _, 1, Tryz.underlying170, rfl, by kernel_rfl, rfl, rfl⟩
instance : HasF Tryz.prog 170 3 3 := ⟨_, _, 1, Tryz.underlying170, rfl, by kernel_rfl, rfl, rfl⟩
instance : HasF Tryz.prog 170 4 4 := ⟨_, _, 1, Tryz.underlying170, rfl, by kernel_rfl, rfl, rfl⟩
instance : HasL Tryz.prog 170 [(0, 1), (1, 1), (2, 1), (3, 1), (4, 1)] := ⟨_, Tryz.underlying170, fun w => by kernel_rfl⟩
instance : HasS Tryz.prog 170 5 := ⟨by kernel_rfl⟩
instance : HasZ Tryz.prog 170 (.agg #[(.int .i64 0), (.int .i64 0), (.int .i64 0), (.int .i64 0), (.int .i64 0)]) := ⟨by kernel_rfl⟩
instance : HasU Tryz.prog 180 (.int .u64) := ⟨Tryz.underlying180⟩
instance : HasU Tryz.prog 185 (.struct (Ao Tryz.prog 185)) := ⟨by kernel_rfl⟩
instance : HasF Tryz.prog 185 0 0 := ⟨_, _, 2, Tryz.underlying185, rfl, by kernel_rfl, rfl, rfl⟩
instance : HasF Tryz.prog 185 1 2 := ⟨_, _, 2, Tryz.underlying185, rfl, by kernel_rfl, rfl, rfl⟩
instance : HasF Tryz.prog 185 2 4 := ⟨_, _, 2, Tryz.underlying185, rfl, by kernel_rfl, rfl, rfl⟩
instance : HasF Tryz.prog 185 3 6 := ⟨_, _, 2, Tryz.underlying185, rfl, by kernel_rfl, rfl, rfl⟩
instance : HasL Tryz.prog 185 [(0, 2), (2, 2), (4, 2), (6, 2)] := ⟨_, Tryz.underlying185, fun w => by kernel_rfl⟩
instance : HasS Tryz.prog 185 8 := ⟨by kernel_rfl⟩
instance : HasB Tryz.prog 185 64 := ⟨by kernel_rfl⟩
instance : HasZ Tryz.prog 185 (.agg #[(.int .i64 0), (.int .i64 0), (.int .i64 0), (.int .i64 0), (.int .i64 0), (.int .i64 0), (.int .i64 0), (.int .i64 0)]) := ⟨by kernel_rfl⟩
instance : HasF Tryz.prog 192 0 0 := ⟨_, _, 1, Tryz.underlying192, rfl, by kernel_rfl, rfl, rfl⟩
instance : HasL Tryz.prog 192 [(0, 1)] := ⟨_, Tryz.underlying192, fun w => by kernel_rfl⟩
instance : HasZ Tryz.prog 192 (.agg #[(.int .i64 0)]) := ⟨by kernel_rfl⟩
instance : HasU Tryz.prog 202 (.struct (Ao Tryz.prog 202)) := ⟨by kernel_rfl⟩
instance : HasF Tryz.prog 202 0 0 := ⟨_, _, 1, Tryz.underlying202, rfl, by kernel_rfl, rfl, rfl⟩
instance : HasF Tryz.prog 202 1 1 := ⟨_, _, 1, Tryz.underlying202, rfl, by kernel_rfl, rfl, rfl⟩
instance : HasL Tryz.prog 202 [(0, 1), (1, 1)] := ⟨_, Tryz.underlying202, fun w => by kernel_rfl⟩
instance : HasS Tryz.prog 202 2 := ⟨by kernel_rfl⟩
instance : HasZ Tryz.prog 202 (.agg #[(.int .u64 0), (.int .u64 0)]) := ⟨by kernel_rfl⟩
instance : HasU Tryz.prog 231 (.struct (Ao Tryz.prog 231)) := ⟨by kernel_rfl⟩
instance : HasF Tryz.prog 231 0 0 := ⟨_, _, 1, Tryz.underlying231, rfl, by kernel_rfl, rfl, rfl⟩
instance : HasF Tryz.prog 231 1 1 := ⟨_, _, 1, Tryz.underlying231, rfl, by kernel_rfl, rfl, rfl⟩
instance : HasF Tryz.prog 231 2 2 := ⟨_, _, 1, Tryz.underlying231, rfl, by kernel_rfl, rfl, rfl⟩
instance : HasS Tryz.prog 231 3 := ⟨by kernel_rfl⟩
instance : HasZ Tryz.prog 231 (.agg #[(.string ⟨#[]⟩), (.int .i64 0), (.int .i64 0)]) := ⟨by kernel_rfl⟩
instance : HasU Tryz.prog 234 (.slice 46) := ⟨Tryz.underlying234⟩
instance : HasU Tryz.prog 236 (.struct (Ao Tryz.prog 236)) := ⟨by kernel_rfl⟩
instance : HasF Tryz.prog 236 0 0 := ⟨_, _, 1, Tryz.underlying236, rfl, by kernel_rfl, rfl, rfl⟩
instance : HasF Tryz.prog 236 1 1 := ⟨_, _, 1, Tryz.underlying236, rfl, by kernel_rfl, rfl, rfl⟩
instance : HasL Tryz.prog 236 [(0, 1), (1, 1)] := ⟨_, Tryz.underlying236, fun w => by kernel_rfl⟩
instance : HasS Tryz.prog 236 2 := ⟨by kernel_rfl⟩
instance : HasZ Tryz.prog 236 (.agg #[(.bool false), (.slice none 0 0)]) := ⟨by kernel_rfl⟩
instance : HasU Tryz.prog 238 (.struct (Ao Tryz.prog 238)) := ⟨by kernel_rfl⟩
instance : HasF Tryz.prog 238 0 0 := ⟨_, _, 2, Tryz.underlying238, rfl, by kernel_rfl, rfl, rfl⟩
instance : HasF Tryz.prog 238 1 2 := ⟨_, _, 2, Tryz.underlying238, rfl, by kernel_rfl, rfl, rfl⟩
instance : HasL Tryz.prog 238 [(0, 2), (2, 2)] := ⟨_, Tryz.underlying238, fun w => by kernel_rfl⟩
instance : HasS Tryz.prog 238 4 := ⟨by kernel_rfl⟩
instance : HasZ Tryz.prog 238 (.agg #[(.bool false), (.slice none 0 0), (.bool false), (.slice none 0 0)]) := ⟨by kernel_rfl⟩
instance : HasU Tryz.prog 240 (.struct (Ao Tryz.prog 240)) := ⟨by kernel_rfl⟩
instance : HasF Tryz.prog 240 0 0 := ⟨_, _, 4, Tryz.underlying240, rfl, by kernel_rfl, rfl, rfl⟩
instance : HasF Tryz.prog 240 1 4 := ⟨_, _, 4, Tryz.underlying240, rfl, by kernel_rfl, rfl, rfl⟩
instance : HasF Tryz.prog 240 2 8 := ⟨_, _, 4, Tryz.underlying240, rfl, by kernel_rfl, rfl, rfl⟩
instance : HasF Tryz.prog 240 3 12 := ⟨_, _, 4, Tryz.underlying240, rfl, by kernel_rfl, rfl, rfl⟩
instance : HasL Tryz.prog 240 [(0, 4), (4, 4), (8, 4), (12, 4)] := ⟨_, Tryz.underlying240, fun w => by kernel_rfl⟩
instance : HasS Tryz.prog 240 16 := ⟨by kernel_rfl⟩
instance : HasZ Tryz.prog 240 (.agg #[(.bool false), (.slice none 0 0), (.bool false), (.slice none 0 0), (.bool false), (.slice none 0 0), (.bool false), (.slice none 0 0), (.bool false), (.slice none 0 0), (.bool false), (.slice none 0 0), (.bool false), (.slice none 0 0), (.bool false), (.slice none 0 0)]) := ⟨by kernel_rfl⟩
instance : HasU Tryz.prog 259 (.func #[65, 35] #[65] false) := ⟨Tryz.underlying259⟩
instance : HasS Tryz.prog 259 1 := ⟨by kernel_rfl⟩
instance : HasZ Tryz.prog 259 .nilFunc := ⟨by kernel_rfl⟩
instance : HasU Tryz.prog 316 (.slice 4) := ⟨Tryz.underlying316⟩
instance : HasU Tryz.prog 317 (.map 9 318) := ⟨Tryz.underlying317⟩
instance : HasL Tryz.prog 318 [] := ⟨_, Tryz.underlying318, fun w => by kernel_rfl⟩
instance : HasS Tryz.prog 318 0 := ⟨by kernel_rfl⟩
instance : HasZ Tryz.prog 318 (.agg #[]) := ⟨by kernel_rfl⟩
instance : HasU Tryz.prog 339 (.map 56 318) := ⟨Tryz.underlying339⟩
instance : HasU Tryz.prog 356 (.slice 99) := ⟨Tryz.underlying356⟩
end Go.Proofs.YtocoehahhohpgaaGreat
