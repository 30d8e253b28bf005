/- Ff of the types of the program, as instances (printed by a program). No conditions. -/
import Derived.Test.YtlmppfffalaphaaGreatDoorMa
import Derived.Test.YtlmppfffalaphaaGreatDoorChecked
set_option linter.unusedSimpArgs false
set_option linter.unusedVariables false
namespace Go.Proofs.YtlmppfffalaphaaGreatDoor
open Go Go.Proofs
instance : HasU Tryz.prog 3 (.int .i64) := ⟨Tryz.underlying3⟩
instance : HasS Tryz.prog 3 1 := ⟨by kernel_rfl⟩
instance : HasB Tryz.prog 3 8 := ⟨by kernel_rfl⟩
instance : HasZ Tryz.prog 3 (.int .i64 0) := ⟨by kernel_rfl⟩
instance : HasU Tryz.prog 4 (.bool) := ⟨Tryz.underlying4⟩
instance : HasZ Tryz.prog 4 (.bool false) := ⟨by kernel_rfl⟩
instance : HasU Tryz.prog 5 (.int .u8) := ⟨Tryz.underlying5⟩
instance : HasU Tryz.prog 9 (.string) := ⟨Tryz.underlying9⟩
instance : HasS Tryz.prog 9 1 := ⟨by kernel_rfl⟩
instance : HasB Tryz.prog 9 16 := ⟨by kernel_rfl⟩
instance : HasZ Tryz.prog 9 (.string ⟨#[]⟩) := ⟨by kernel_rfl⟩
instance : HasS Tryz.prog 20 1 := ⟨by kernel_rfl⟩
instance : HasZ Tryz.prog 20 .nilIface := ⟨by kernel_rfl⟩
instance : HasU Tryz.prog 21 (.int .i32) := ⟨Tryz.underlying21⟩
instance : HasU Tryz.prog 22 (.slice 26) := ⟨Tryz.underlying22⟩
instance : HasU Tryz.prog 26 (.struct (Ap Tryz.prog 26)) := ⟨by kernel_rfl⟩
instance : HasF Tryz.prog 26 0 0 := ⟨_, _, 1, Tryz.underlying26, rfl, by kernel_rfl, rfl, rfl⟩
instance : HasF Tryz.prog 26 1 1 := ⟨_, _, 1, Tryz.underlying26, rfl, by kernel_rfl, rfl, rfl⟩
instance : HasL Tryz.prog 26 [(0, 1), (1, 1)] := ⟨_, Tryz.underlying26, fun w => by kernel_rfl⟩
instance : HasS Tryz.prog 26 2 := ⟨by kernel_rfl⟩
instance : HasB Tryz.prog 26 24 := ⟨by kernel_rfl⟩
instance : HasZ Tryz.prog 26 (.agg #[(.int .i64 0), (.string ⟨#[]⟩)]) := ⟨by kernel_rfl⟩
instance : HasU Tryz.prog 29 (.struct (Ap Tryz.prog 29)) := ⟨by kernel_rfl⟩
instance : HasL Tryz.prog 29 [(0, 1), (1, 1)] := ⟨_, Tryz.underlying29, fun w => by kernel_rfl⟩
instance : HasS Tryz.prog 29 2 := ⟨by kernel_rfl⟩
instance : HasZ Tryz.prog 29 (.agg #[(.int .i64 0), (.int .i64 0)]) := ⟨by kernel_rfl⟩
instance : HasU Tryz.prog 49 (.slice 3) := ⟨Tryz.underlying49⟩
instance : HasS Tryz.prog 49 1 := ⟨by kernel_rfl⟩
instance : HasB Tryz.prog 49 24 := ⟨by kernel_rfl⟩
instance : HasZ Tryz.prog 49 (.slice none 0 0) := ⟨by kernel_rfl⟩
instance : HasU Tryz.prog 61 (.slice 9) := ⟨Tryz.underlying61⟩
instance : HasU Tryz.prog 69 (.slice 118) := ⟨Tryz.underlying69⟩
instance : HasU Tryz.prog 70 (.slice 111) := ⟨Tryz.underlying70⟩
instance : HasU Tryz.prog 72 (.struct (Ap Tryz.prog 72)) := ⟨by kernel_rfl⟩
instance : HasF Tryz.prog 72 0 0 := ⟨_, _, 1, Tryz.underlying72, rfl, by kernel_rfl, rfl, rfl⟩
instance : HasF Tryz.prog 72 1 1 := ⟨_, _, 1, Tryz.underlying72, rfl, by kernel_rfl, rfl, rfl⟩
instance : HasL Tryz.prog 72 [(0, 1), (1, 1)] := ⟨_, Tryz.underlying72, fun w => by kernel_rfl⟩
instance : HasS Tryz.prog 72 2 := ⟨by kernel_rfl⟩
instance : HasZ Tryz.prog 72 (.agg #[(.slice none 0 0), (.slice none 0 0)]) := ⟨by kernel_rfl⟩
instance : HasF Tryz.prog 85 0 0 := ⟨_, _, 2, Tryz.underlying85, rfl, by kernel_rfl, rfl, rfl⟩
instance : HasZ Tryz.prog 85 (.agg #[(.pointer none), (.slice none 0 0), (.int .i64 0)]) := ⟨by kernel_rfl⟩
instance : HasU Tryz.prog 98 (.slice 49) := ⟨Tryz.underlying98⟩
instance : HasS Tryz.prog 98 1 := ⟨by kernel_rfl⟩
instance : HasU Tryz.prog 106 (.slice 113) := ⟨Tryz.underlying106⟩
instance : HasS Tryz.prog 106 1 := ⟨by kernel_rfl⟩
instance : HasB Tryz.prog 106 24 := ⟨by kernel_rfl⟩
instance : HasZ Tryz.prog 106 (.slice none 0 0) := ⟨by kernel_rfl⟩
instance : HasU Tryz.prog 109 (.slice 120) := ⟨Tryz.underlying109⟩
instance : HasU Tryz.prog 111 (.struct (Ap Tryz.prog 111)) := ⟨by kernel_rfl⟩
instance : HasF Tryz.prog 111 0 0 := ⟨_, _, 1, Tryz.underlying111, rfl, by kernel_rfl, rfl, rfl⟩
instance : HasF Tryz.prog 111 1 1 := ⟨_, _, 1, Tryz.underlying111, rfl, by kernel_rfl, rfl, rfl⟩
instance : HasF Tryz.prog 111 2 2 := ⟨_, _, 1, Tryz.underlying111, rfl, by kernel_rfl, rfl, rfl⟩
instance : HasL Tryz.prog 111 [(0, 1), (1, 1), (2, 1)] := ⟨_, Tryz.underlying111, fun w => by kernel_rfl⟩
instance : HasS Tryz.prog 111 3 := ⟨by kernel_rfl⟩
instance : HasZ Tryz.prog 111 (.agg #[(.string ⟨#[]⟩), (.slice none 0 0), (.bool false)]) := ⟨by kernel_rfl⟩
instance : HasU Tryz.prog 113 (.struct (Ap Tryz.prog 113)) := ⟨by kernel_rfl⟩
instance : HasF Tryz.prog 113 0 0 := ⟨_, _, 1, Tryz.underlying113, rfl, by kernel_rfl, rfl, rfl⟩
instance : HasF Tryz.prog 113 1 1 := ⟨_, _, 1, Tryz.underlying113, rfl, by kernel_rfl, rfl, rfl⟩
instance : HasL Tryz.prog 113 [(0, 1), (1, 1)] := ⟨_, Tryz.underlying113, fun w => by kernel_rfl⟩
instance : HasS Tryz.prog 113 2 := ⟨by kernel_rfl⟩
instance : HasB Tryz.prog 113 16 := ⟨by kernel_rfl⟩
instance : HasZ Tryz.prog 113 (.agg #[(.int .i64 0), (.int .i64 0)]) := ⟨by kernel_rfl⟩
instance : HasU Tryz.prog 118 (.struct (Ap Tryz.prog 118)) := ⟨by kernel_rfl⟩
instance : HasF Tryz.prog 118 0 0 := ⟨_, _, 1, Tryz.underlying118, rfl, by kernel_rfl, rfl, rfl⟩
instance : HasF Tryz.prog 118 1 1 := ⟨_, _, 1, Tryz.underlying118, rfl, by kernel_rfl, rfl, rfl⟩
instance : HasL Tryz.prog 118 [(0, 1), (1, 1)] := ⟨_, Tryz.underlying118, fun w => by kernel_rfl⟩
instance : HasS Tryz.prog 118 2 := ⟨by kernel_rfl⟩
instance : HasZ Tryz.prog 118 (.agg #[(.string ⟨#[]⟩), (.int .i64 0)]) := ⟨by kernel_rfl⟩
instance : HasU Tryz.prog 120 (.struct (Ap Tryz.prog 120)) := ⟨by kernel_rfl⟩
instance : HasF Tryz.prog 120 0 0 := ⟨_, _, 1, Tryz.underlying120, rfl, by kernel_rfl, rfl, rfl⟩
instance : HasF Tryz.prog 120 1 1 := ⟨_, _, 1, Tryz.underlying120, rfl, by kernel_rfl, rfl, rfl⟩
instance : HasF Tryz.prog 120 2 2 := ⟨_, _, 2, Tryz.underlying120, rfl, by kernel_rfl, rfl, rfl⟩
instance : HasL Tryz.prog 120 [(0, 1), (1, 1), (2, 2)] := ⟨_, Tryz.underlying120, fun w => by kernel_rfl⟩
instance : HasS Tryz.prog 120 4 := ⟨by kernel_rfl⟩
instance : HasZ Tryz.prog 120 (.agg #[(.string ⟨#[]⟩), (.int .i64 0), (.int .i64 0), (.int .i64 0)]) := ⟨by kernel_rfl⟩
instance : HasU Tryz.prog 131 (.slice 20) := ⟨Tryz.underlying131⟩
instance : HasU Tryz.prog 161 (.map 9 4) := ⟨Tryz.underlying161⟩
instance : HasS Tryz.prog 161 1 := ⟨by kernel_rfl⟩
instance : HasZ Tryz.prog 161 (.map none) := ⟨by kernel_rfl⟩
instance : HasU Tryz.prog 163 (.slice 49) := ⟨Tryz.underlying163⟩
instance : HasU Tryz.prog 197 (.int .u64) := ⟨Tryz.underlying197⟩
instance : HasU Tryz.prog 201 (.struct (Ap Tryz.prog 201)) := ⟨by kernel_rfl⟩
instance : HasF Tryz.prog 201 0 0 := ⟨_, _, 1, Tryz.underlying201, rfl, by kernel_rfl, rfl, rfl⟩
instance : HasF Tryz.prog 201 1 1 := ⟨_, _, 1, Tryz.underlying201, rfl, by kernel_rfl, rfl, rfl⟩
instance : HasL Tryz.prog 201 [(0, 1), (1, 1)] := ⟨_, Tryz.underlying201, fun w => by kernel_rfl⟩
instance : HasS Tryz.prog 201 2 := ⟨by kernel_rfl⟩
instance : HasZ Tryz.prog 201 (.agg #[(.int .u64 0), (.int .u64 0)]) := ⟨by kernel_rfl⟩
instance : HasU Tryz.prog 220 (.struct (Ap Tryz.prog 220)) := ⟨by kernel_rfl⟩
instance : HasF Tryz.prog 220 0 0 := ⟨_, _, 1, Tryz.underlying220, rfl, by kernel_rfl, rfl, rfl⟩
instance : HasF Tryz.prog 220 1 1 := ⟨_, _, 1, Tryz.underlying220, rfl, by kernel_rfl, rfl, rfl⟩
instance : HasF Tryz.prog 220 2 2 := ⟨_, _, 1, Tryz.underlying220, rfl, by kernel_rfl, rfl, rfl⟩
instance : HasF Tryz.prog 220 3 3 := ⟨_, _, 1, Tryz.underlying220, rfl, by kernel_rfl, rfl, rfl⟩
instance : HasL Tryz.prog 220 [(0, 1), (1, 1), (2, 1), (3, 1), (4, 1)] := ⟨_, Tryz.underlying220, fun w => by kernel_rfl⟩
instance : HasS Tryz.prog 220 5 := ⟨by kernel_rfl⟩
instance : HasZ Tryz.prog 220 (.agg #[(.slice none 0 0), (.int .i64 0), (.slice none 0 0), (.slice none 0 0), (.bool false)]) := ⟨by kernel_rfl⟩
instance : HasU Tryz.prog 227 (.int .u64) := ⟨Tryz.underlying227⟩
instance : HasU Tryz.prog 305 (.slice 106) := ⟨Tryz.underlying305⟩
end Go.Proofs.YtlmppfffalaphaaGreatDoor
