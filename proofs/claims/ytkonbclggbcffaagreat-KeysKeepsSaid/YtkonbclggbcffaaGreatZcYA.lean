import Derived.Test.YtkonbclggbcffaaGreatZcXC
import Derived.Test.YtkonbclggbcffaaGreatProg
import Derived.KernelRfl
set_option linter.unusedVariables false
set_option linter.unusedSimpArgs false
/- Closed facts on the types of this seat's translation. -/
namespace Go.Sx
open Go Go.Proofs
instance : Mix Tryz.prog := ⟨by kernel_rfl⟩
instance : Und Tryz.prog 2 (.int .i64) := ⟨Tryz.underlying2⟩
instance : Siz Tryz.prog 2 1 := ⟨by kernel_rfl⟩
instance : Byt Tryz.prog 2 8 := ⟨by kernel_rfl⟩
instance : Agg Tryz.prog 2 false := ⟨by kernel_rfl⟩
instance : One Tryz.prog 2 := ⟨by kernel_rfl⟩
instance : Zer Tryz.prog 2 (.int .i64 0) := ⟨by kernel_rfl⟩
instance : Und Tryz.prog 3 (.int .i64) := ⟨Tryz.underlying3⟩
instance : Siz Tryz.prog 3 1 := ⟨by kernel_rfl⟩
instance : Byt Tryz.prog 3 8 := ⟨by kernel_rfl⟩
instance : Agg Tryz.prog 3 false := ⟨by kernel_rfl⟩
instance : One Tryz.prog 3 := ⟨by kernel_rfl⟩
instance : Zer Tryz.prog 3 (.int .i64 0) := ⟨by kernel_rfl⟩
instance : Und Tryz.prog 4 .bool := ⟨Tryz.underlying4⟩
instance : Siz Tryz.prog 4 1 := ⟨by kernel_rfl⟩
instance : Byt Tryz.prog 4 1 := ⟨by kernel_rfl⟩
instance : Agg Tryz.prog 4 false := ⟨by kernel_rfl⟩
instance : One Tryz.prog 4 := ⟨by kernel_rfl⟩
instance : Zer Tryz.prog 4 (.bool false) := ⟨by kernel_rfl⟩
instance : Und Tryz.prog 5 (.int .u8) := ⟨Tryz.underlying5⟩
instance : Siz Tryz.prog 5 1 := ⟨by kernel_rfl⟩
instance : Byt Tryz.prog 5 1 := ⟨by kernel_rfl⟩
instance : Agg Tryz.prog 5 false := ⟨by kernel_rfl⟩
instance : One Tryz.prog 5 := ⟨by kernel_rfl⟩
instance : Zer Tryz.prog 5 (b8 0#8) := ⟨by kernel_rfl⟩
instance : Siz Tryz.prog 7 4 := ⟨by kernel_rfl⟩
instance : Byt Tryz.prog 7 24 := ⟨by kernel_rfl⟩
instance : Agg Tryz.prog 7 true := ⟨by kernel_rfl⟩
instance : Plc Tryz.prog 7 [(0, 1), (1, 1), (2, 1), (3, 1)] := ⟨by kernel_rfl⟩
instance : Ngd Tryz.prog 7 := ⟨by kernel_rfl⟩
instance : Zer Tryz.prog 7 (.agg (List.toArray [(.int .i64 0), (.int .i64 0), (.bool false), (b8 0#8)])) := ⟨by kernel_rfl⟩
instance : Und Tryz.prog 9 .string := ⟨Tryz.underlying9⟩
instance : Siz Tryz.prog 9 1 := ⟨by kernel_rfl⟩
instance : Byt Tryz.prog 9 16 := ⟨by kernel_rfl⟩
instance : Agg Tryz.prog 9 false := ⟨by kernel_rfl⟩
instance : One Tryz.prog 9 := ⟨by kernel_rfl⟩
instance : Zer Tryz.prog 9 (.string .empty) := ⟨by kernel_rfl⟩
instance : Und Tryz.prog 12 (.int .u64) := ⟨Tryz.underlying12⟩
instance : Siz Tryz.prog 12 1 := ⟨by kernel_rfl⟩
instance : Byt Tryz.prog 12 8 := ⟨by kernel_rfl⟩
instance : Agg Tryz.prog 12 false := ⟨by kernel_rfl⟩
instance : One Tryz.prog 12 := ⟨by kernel_rfl⟩
instance : Zer Tryz.prog 12 (b64 0#64) := ⟨by kernel_rfl⟩
instance : Siz Tryz.prog 13 2 := ⟨by kernel_rfl⟩
instance : Byt Tryz.prog 13 24 := ⟨by kernel_rfl⟩
instance : Agg Tryz.prog 13 true := ⟨by kernel_rfl⟩
instance : Plc Tryz.prog 13 [(0, 1), (1, 1)] := ⟨by kernel_rfl⟩
instance : Ngd Tryz.prog 13 := ⟨by kernel_rfl⟩
instance : Zer Tryz.prog 13 (.agg (List.toArray [(.string .empty), (b64 0#64)])) := ⟨by kernel_rfl⟩
instance : Siz Tryz.prog 18 1 := ⟨by kernel_rfl⟩
instance : Byt Tryz.prog 18 8 := ⟨by kernel_rfl⟩
instance : Agg Tryz.prog 18 true := ⟨by kernel_rfl⟩
instance : Plc Tryz.prog 18 [(0, 1)] := ⟨by kernel_rfl⟩
instance : Ngd Tryz.prog 18 := ⟨by kernel_rfl⟩
instance : Zer Tryz.prog 18 (.agg (List.toArray [(.pointer none)])) := ⟨by kernel_rfl⟩
instance : Und Tryz.prog 21 (.int .i32) := ⟨Tryz.underlying21⟩
instance : Siz Tryz.prog 21 1 := ⟨by kernel_rfl⟩
instance : Byt Tryz.prog 21 4 := ⟨by kernel_rfl⟩
instance : Agg Tryz.prog 21 false := ⟨by kernel_rfl⟩
instance : One Tryz.prog 21 := ⟨by kernel_rfl⟩
instance : Zer Tryz.prog 21 (.int .i32 0) := ⟨by kernel_rfl⟩
instance : Und Tryz.prog 22 (.slice 5) := ⟨Tryz.underlying22⟩
instance : Siz Tryz.prog 22 1 := ⟨by kernel_rfl⟩
instance : Byt Tryz.prog 22 24 := ⟨by kernel_rfl⟩
instance : Agg Tryz.prog 22 false := ⟨by kernel_rfl⟩
instance : One Tryz.prog 22 := ⟨by kernel_rfl⟩
instance : Zer Tryz.prog 22 (.slice none 0 0) := ⟨by kernel_rfl⟩
instance : Und Tryz.prog 23 (.slice 22) := ⟨Tryz.underlying23⟩
instance : Siz Tryz.prog 23 1 := ⟨by kernel_rfl⟩
instance : Byt Tryz.prog 23 24 := ⟨by kernel_rfl⟩
instance : Agg Tryz.prog 23 false := ⟨by kernel_rfl⟩
instance : One Tryz.prog 23 := ⟨by kernel_rfl⟩
instance : Zer Tryz.prog 23 (.slice none 0 0) := ⟨by kernel_rfl⟩
instance : Und Tryz.prog 25 (.slice 39) := ⟨Tryz.underlying25⟩
instance : Siz Tryz.prog 25 1 := ⟨by kernel_rfl⟩
instance : Byt Tryz.prog 25 24 := ⟨by kernel_rfl⟩
instance : Agg Tryz.prog 25 false := ⟨by kernel_rfl⟩
instance : One Tryz.prog 25 := ⟨by kernel_rfl⟩
instance : Zer Tryz.prog 25 (.slice none 0 0) := ⟨by kernel_rfl⟩
instance : Und Tryz.prog 26 (.int .i64) := ⟨Tryz.underlying26⟩
instance : Siz Tryz.prog 26 1 := ⟨by kernel_rfl⟩
instance : Byt Tryz.prog 26 8 := ⟨by kernel_rfl⟩
instance : Agg Tryz.prog 26 false := ⟨by kernel_rfl⟩
instance : One Tryz.prog 26 := ⟨by kernel_rfl⟩
instance : Zer Tryz.prog 26 (.int .i64 0) := ⟨by kernel_rfl⟩
instance : Und Tryz.prog 31 (.slice 42) := ⟨Tryz.underlying31⟩
instance : Siz Tryz.prog 31 1 := ⟨by kernel_rfl⟩
instance : Byt Tryz.prog 31 24 := ⟨by kernel_rfl⟩
instance : Agg Tryz.prog 31 false := ⟨by kernel_rfl⟩
instance : One Tryz.prog 31 := ⟨by kernel_rfl⟩
instance : Zer Tryz.prog 31 (.slice none 0 0) := ⟨by kernel_rfl⟩
instance : Und Tryz.prog 35 (.array 32 5) := ⟨Tryz.underlying35⟩
instance : Siz Tryz.prog 35 32 := ⟨by kernel_rfl⟩
instance : Byt Tryz.prog 35 32 := ⟨by kernel_rfl⟩
instance : Agg Tryz.prog 35 true := ⟨by kernel_rfl⟩
instance : Ngd Tryz.prog 35 := ⟨by kernel_rfl⟩
instance : Zer Tryz.prog 35 (.agg (List.toArray [(b8 0#8), (b8 0#8), (b8 0#8), (b8 0#8), (b8 0#8), (b8 0#8), (b8 0#8), (b8 0#8), (b8 0#8), (b8 0#8), (b8 0#8), (b8 0#8), (b8 0#8), (b8 0#8), (b8 0#8), (b8 0#8), (b8 0#8), (b8 0#8), (b8 0#8), (b8 0#8), (b8 0#8), (b8 0#8), (b8 0#8), (b8 0#8), (b8 0#8), (b8 0#8), (b8 0#8), (b8 0#8), (b8 0#8), (b8 0#8), (b8 0#8), (b8 0#8)])) := ⟨by kernel_rfl⟩
instance : Siz Tryz.prog 36 128 := ⟨by kernel_rfl⟩
instance : Byt Tryz.prog 36 128 := ⟨by kernel_rfl⟩
instance : Agg Tryz.prog 36 true := ⟨by kernel_rfl⟩
instance : Plc Tryz.prog 36 [(0, 32), (32, 32), (64, 32), (96, 32)] := ⟨by kernel_rfl⟩
instance : Ngd Tryz.prog 36 := ⟨by kernel_rfl⟩
instance : Siz Tryz.prog 37 128 := ⟨by kernel_rfl⟩
instance : Byt Tryz.prog 37 128 := ⟨by kernel_rfl⟩
instance : Agg Tryz.prog 37 true := ⟨by kernel_rfl⟩
instance : Plc Tryz.prog 37 [(0, 32), (32, 32), (64, 32), (96, 32)] := ⟨by kernel_rfl⟩
instance : Ngd Tryz.prog 37 := ⟨by kernel_rfl⟩
instance : Siz Tryz.prog 38 192 := ⟨by kernel_rfl⟩
instance : Byt Tryz.prog 38 192 := ⟨by kernel_rfl⟩
instance : Agg Tryz.prog 38 true := ⟨by kernel_rfl⟩
instance : Plc Tryz.prog 38 [(0, 128), (128, 32), (160, 32)] := ⟨by kernel_rfl⟩
instance : Ngd Tryz.prog 38 := ⟨by kernel_rfl⟩
instance : Siz Tryz.prog 39 192 := ⟨by kernel_rfl⟩
instance : Byt Tryz.prog 39 192 := ⟨by kernel_rfl⟩
instance : Agg Tryz.prog 39 true := ⟨by kernel_rfl⟩
instance : Plc Tryz.prog 39 [(0, 128), (128, 32), (160, 32)] := ⟨by kernel_rfl⟩
instance : Ngd Tryz.prog 39 := ⟨by kernel_rfl⟩
instance : Siz Tryz.prog 41 192 := ⟨by kernel_rfl⟩
instance : Byt Tryz.prog 41 192 := ⟨by kernel_rfl⟩
instance : Agg Tryz.prog 41 true := ⟨by kernel_rfl⟩
instance : Plc Tryz.prog 41 [(0, 128), (128, 32), (160, 32)] := ⟨by kernel_rfl⟩
instance : Ngd Tryz.prog 41 := ⟨by kernel_rfl⟩
instance : Siz Tryz.prog 42 192 := ⟨by kernel_rfl⟩
instance : Byt Tryz.prog 42 192 := ⟨by kernel_rfl⟩
instance : Agg Tryz.prog 42 true := ⟨by kernel_rfl⟩
instance : Plc Tryz.prog 42 [(0, 128), (128, 32), (160, 32)] := ⟨by kernel_rfl⟩
instance : Ngd Tryz.prog 42 := ⟨by kernel_rfl⟩
instance : Und Tryz.prog 70 (.slice 35) := ⟨Tryz.underlying70⟩
instance : Siz Tryz.prog 70 1 := ⟨by kernel_rfl⟩
instance : Byt Tryz.prog 70 24 := ⟨by kernel_rfl⟩
instance : Agg Tryz.prog 70 false := ⟨by kernel_rfl⟩
instance : One Tryz.prog 70 := ⟨by kernel_rfl⟩
instance : Zer Tryz.prog 70 (.slice none 0 0) := ⟨by kernel_rfl⟩
instance : Und Tryz.prog 74 (.int .u32) := ⟨Tryz.underlying74⟩
instance : Siz Tryz.prog 74 1 := ⟨by kernel_rfl⟩
instance : Byt Tryz.prog 74 4 := ⟨by kernel_rfl⟩
instance : Agg Tryz.prog 74 false := ⟨by kernel_rfl⟩
instance : One Tryz.prog 74 := ⟨by kernel_rfl⟩
instance : Zer Tryz.prog 74 (b32 0#32) := ⟨by kernel_rfl⟩
instance : Und Tryz.prog 75 (.array 8 74) := ⟨Tryz.underlying75⟩
instance : Siz Tryz.prog 75 8 := ⟨by kernel_rfl⟩
instance : Byt Tryz.prog 75 32 := ⟨by kernel_rfl⟩
instance : Agg Tryz.prog 75 true := ⟨by kernel_rfl⟩
instance : Ngd Tryz.prog 75 := ⟨by kernel_rfl⟩
instance : Zer Tryz.prog 75 (.agg (List.toArray [(b32 0#32), (b32 0#32), (b32 0#32), (b32 0#32), (b32 0#32), (b32 0#32), (b32 0#32), (b32 0#32)])) := ⟨by kernel_rfl⟩
instance : Und Tryz.prog 76 (.array 8 74) := ⟨Tryz.underlying76⟩
instance : Siz Tryz.prog 76 8 := ⟨by kernel_rfl⟩
instance : Byt Tryz.prog 76 32 := ⟨by kernel_rfl⟩
instance : Agg Tryz.prog 76 true := ⟨by kernel_rfl⟩
instance : Ngd Tryz.prog 76 := ⟨by kernel_rfl⟩
instance : Zer Tryz.prog 76 (.agg (List.toArray [(b32 0#32), (b32 0#32), (b32 0#32), (b32 0#32), (b32 0#32), (b32 0#32), (b32 0#32), (b32 0#32)])) := ⟨by kernel_rfl⟩
instance : Und Tryz.prog 79 (.int .u64) := ⟨Tryz.underlying79⟩
instance : Siz Tryz.prog 79 1 := ⟨by kernel_rfl⟩
instance : Byt Tryz.prog 79 8 := ⟨by kernel_rfl⟩
instance : Agg Tryz.prog 79 false := ⟨by kernel_rfl⟩
instance : One Tryz.prog 79 := ⟨by kernel_rfl⟩
instance : Zer Tryz.prog 79 (b64 0#64) := ⟨by kernel_rfl⟩
instance : Und Tryz.prog 80 (.array 4 79) := ⟨Tryz.underlying80⟩
instance : Siz Tryz.prog 80 4 := ⟨by kernel_rfl⟩
instance : Byt Tryz.prog 80 32 := ⟨by kernel_rfl⟩
instance : Agg Tryz.prog 80 true := ⟨by kernel_rfl⟩
instance : Ngd Tryz.prog 80 := ⟨by kernel_rfl⟩
instance : Zer Tryz.prog 80 (.agg (List.toArray [(b64 0#64), (b64 0#64), (b64 0#64), (b64 0#64)])) := ⟨by kernel_rfl⟩
instance : Und Tryz.prog 81 (.array 4 79) := ⟨Tryz.underlying81⟩
instance : Siz Tryz.prog 81 4 := ⟨by kernel_rfl⟩
instance : Byt Tryz.prog 81 32 := ⟨by kernel_rfl⟩
instance : Agg Tryz.prog 81 true := ⟨by kernel_rfl⟩
instance : Ngd Tryz.prog 81 := ⟨by kernel_rfl⟩
instance : Zer Tryz.prog 81 (.agg (List.toArray [(b64 0#64), (b64 0#64), (b64 0#64), (b64 0#64)])) := ⟨by kernel_rfl⟩
instance : Siz Tryz.prog 88 8 := ⟨by kernel_rfl⟩
instance : Byt Tryz.prog 88 64 := ⟨by kernel_rfl⟩
instance : Agg Tryz.prog 88 true := ⟨by kernel_rfl⟩
instance : Plc Tryz.prog 88 [(0, 4), (4, 4)] := ⟨by kernel_rfl⟩
instance : Ngd Tryz.prog 88 := ⟨by kernel_rfl⟩
instance : Zer Tryz.prog 88 (.agg (List.toArray [(b64 0#64), (b64 0#64), (b64 0#64), (b64 0#64), (b64 0#64), (b64 0#64), (b64 0#64), (b64 0#64)])) := ⟨by kernel_rfl⟩
instance : Siz Tryz.prog 89 8 := ⟨by kernel_rfl⟩
instance : Byt Tryz.prog 89 64 := ⟨by kernel_rfl⟩
instance : Agg Tryz.prog 89 true := ⟨by kernel_rfl⟩
instance : Plc Tryz.prog 89 [(0, 4), (4, 4)] := ⟨by kernel_rfl⟩
instance : Ngd Tryz.prog 89 := ⟨by kernel_rfl⟩
instance : Zer Tryz.prog 89 (.agg (List.toArray [(b64 0#64), (b64 0#64), (b64 0#64), (b64 0#64), (b64 0#64), (b64 0#64), (b64 0#64), (b64 0#64)])) := ⟨by kernel_rfl⟩
instance : Und Tryz.prog 96 (.slice 9) := ⟨Tryz.underlying96⟩
instance : Siz Tryz.prog 96 1 := ⟨by kernel_rfl⟩
instance : Byt Tryz.prog 96 24 := ⟨by kernel_rfl⟩
instance : Agg Tryz.prog 96 false := ⟨by kernel_rfl⟩
instance : One Tryz.prog 96 := ⟨by kernel_rfl⟩
instance : Zer Tryz.prog 96 (.slice none 0 0) := ⟨by kernel_rfl⟩
instance : Und Tryz.prog 107 (.array 17 79) := ⟨Tryz.underlying107⟩
instance : Siz Tryz.prog 107 17 := ⟨by kernel_rfl⟩
instance : Byt Tryz.prog 107 136 := ⟨by kernel_rfl⟩
instance : Agg Tryz.prog 107 true := ⟨by kernel_rfl⟩
instance : Ngd Tryz.prog 107 := ⟨by kernel_rfl⟩
instance : Zer Tryz.prog 107 (.agg (List.toArray [(b64 0#64), (b64 0#64), (b64 0#64), (b64 0#64), (b64 0#64), (b64 0#64), (b64 0#64), (b64 0#64), (b64 0#64), (b64 0#64), (b64 0#64), (b64 0#64), (b64 0#64), (b64 0#64), (b64 0#64), (b64 0#64), (b64 0#64)])) := ⟨by kernel_rfl⟩
instance : Und Tryz.prog 108 (.int .u64) := ⟨Tryz.underlying108⟩
instance : Siz Tryz.prog 108 1 := ⟨by kernel_rfl⟩
instance : Byt Tryz.prog 108 8 := ⟨by kernel_rfl⟩
instance : Agg Tryz.prog 108 false := ⟨by kernel_rfl⟩
instance : One Tryz.prog 108 := ⟨by kernel_rfl⟩
instance : Zer Tryz.prog 108 (b64 0#64) := ⟨by kernel_rfl⟩
instance : Und Tryz.prog 119 (.slice 81) := ⟨Tryz.underlying119⟩
instance : Siz Tryz.prog 119 1 := ⟨by kernel_rfl⟩
instance : Byt Tryz.prog 119 24 := ⟨by kernel_rfl⟩
instance : Agg Tryz.prog 119 false := ⟨by kernel_rfl⟩
instance : One Tryz.prog 119 := ⟨by kernel_rfl⟩
instance : Zer Tryz.prog 119 (.slice none 0 0) := ⟨by kernel_rfl⟩
instance : Und Tryz.prog 125 (.pointer 147) := ⟨Tryz.underlying125⟩
instance : Siz Tryz.prog 125 1 := ⟨by kernel_rfl⟩
instance : Byt Tryz.prog 125 8 := ⟨by kernel_rfl⟩
instance : Agg Tryz.prog 125 false := ⟨by kernel_rfl⟩
instance : One Tryz.prog 125 := ⟨by kernel_rfl⟩
instance : Zer Tryz.prog 125 (.pointer none) := ⟨by kernel_rfl⟩
instance : Und Tryz.prog 132 (.array 8 79) := ⟨Tryz.underlying132⟩
instance : Siz Tryz.prog 132 8 := ⟨by kernel_rfl⟩
instance : Byt Tryz.prog 132 64 := ⟨by kernel_rfl⟩
instance : Agg Tryz.prog 132 true := ⟨by kernel_rfl⟩
instance : Ngd Tryz.prog 132 := ⟨by kernel_rfl⟩
instance : Zer Tryz.prog 132 (.agg (List.toArray [(b64 0#64), (b64 0#64), (b64 0#64), (b64 0#64), (b64 0#64), (b64 0#64), (b64 0#64), (b64 0#64)])) := ⟨by kernel_rfl⟩
instance : Und Tryz.prog 140 (.pointer 145) := ⟨Tryz.underlying140⟩
instance : Siz Tryz.prog 140 1 := ⟨by kernel_rfl⟩
instance : Byt Tryz.prog 140 8 := ⟨by kernel_rfl⟩
instance : Agg Tryz.prog 140 false := ⟨by kernel_rfl⟩
instance : One Tryz.prog 140 := ⟨by kernel_rfl⟩
instance : Zer Tryz.prog 140 (.pointer none) := ⟨by kernel_rfl⟩
instance : Siz Tryz.prog 142 10 := ⟨by kernel_rfl⟩
instance : Byt Tryz.prog 142 64 := ⟨by kernel_rfl⟩
instance : Agg Tryz.prog 142 true := ⟨by kernel_rfl⟩
instance : Plc Tryz.prog 142 [(0, 8), (8, 1), (9, 1)] := ⟨by kernel_rfl⟩
instance : Ngd Tryz.prog 142 := ⟨by kernel_rfl⟩
instance : Zer Tryz.prog 142 (.agg (List.toArray [(b32 0#32), (b32 0#32), (b32 0#32), (b32 0#32), (b32 0#32), (b32 0#32), (b32 0#32), (b32 0#32), (.slice none 0 0), (.int .i64 0)])) := ⟨by kernel_rfl⟩
instance : Siz Tryz.prog 143 10 := ⟨by kernel_rfl⟩
instance : Byt Tryz.prog 143 64 := ⟨by kernel_rfl⟩
instance : Agg Tryz.prog 143 true := ⟨by kernel_rfl⟩
instance : Plc Tryz.prog 143 [(0, 8), (8, 1), (9, 1)] := ⟨by kernel_rfl⟩
instance : Ngd Tryz.prog 143 := ⟨by kernel_rfl⟩
instance : Zer Tryz.prog 143 (.agg (List.toArray [(b32 0#32), (b32 0#32), (b32 0#32), (b32 0#32), (b32 0#32), (b32 0#32), (b32 0#32), (b32 0#32), (.slice none 0 0), (.int .i64 0)])) := ⟨by kernel_rfl⟩
instance : Siz Tryz.prog 144 10 := ⟨by kernel_rfl⟩
instance : Byt Tryz.prog 144 64 := ⟨by kernel_rfl⟩
instance : Agg Tryz.prog 144 true := ⟨by kernel_rfl⟩
instance : Plc Tryz.prog 144 [(0, 10)] := ⟨by kernel_rfl⟩
instance : Ngd Tryz.prog 144 := ⟨by kernel_rfl⟩
instance : Zer Tryz.prog 144 (.agg (List.toArray [(b32 0#32), (b32 0#32), (b32 0#32), (b32 0#32), (b32 0#32), (b32 0#32), (b32 0#32), (b32 0#32), (.slice none 0 0), (.int .i64 0)])) := ⟨by kernel_rfl⟩
instance : Siz Tryz.prog 145 10 := ⟨by kernel_rfl⟩
instance : Byt Tryz.prog 145 64 := ⟨by kernel_rfl⟩
instance : Agg Tryz.prog 145 true := ⟨by kernel_rfl⟩
instance : Plc Tryz.prog 145 [(0, 10)] := ⟨by kernel_rfl⟩
instance : Ngd Tryz.prog 145 := ⟨by kernel_rfl⟩
instance : Zer Tryz.prog 145 (.agg (List.toArray [(b32 0#32), (b32 0#32), (b32 0#32), (b32 0#32), (b32 0#32), (b32 0#32), (b32 0#32), (b32 0#32), (.slice none 0 0), (.int .i64 0)])) := ⟨by kernel_rfl⟩
instance : Siz Tryz.prog 146 11 := ⟨by kernel_rfl⟩
instance : Byt Tryz.prog 146 88 := ⟨by kernel_rfl⟩
instance : Agg Tryz.prog 146 true := ⟨by kernel_rfl⟩
instance : Plc Tryz.prog 146 [(0, 10), (10, 1)] := ⟨by kernel_rfl⟩
instance : Ngd Tryz.prog 146 := ⟨by kernel_rfl⟩
instance : Zer Tryz.prog 146 (.agg (List.toArray [(b32 0#32), (b32 0#32), (b32 0#32), (b32 0#32), (b32 0#32), (b32 0#32), (b32 0#32), (b32 0#32), (.slice none 0 0), (.int .i64 0), (.slice none 0 0)])) := ⟨by kernel_rfl⟩
instance : Siz Tryz.prog 147 11 := ⟨by kernel_rfl⟩
instance : Byt Tryz.prog 147 88 := ⟨by kernel_rfl⟩
instance : Agg Tryz.prog 147 true := ⟨by kernel_rfl⟩
instance : Plc Tryz.prog 147 [(0, 10), (10, 1)] := ⟨by kernel_rfl⟩
instance : Ngd Tryz.prog 147 := ⟨by kernel_rfl⟩
instance : Zer Tryz.prog 147 (.agg (List.toArray [(b32 0#32), (b32 0#32), (b32 0#32), (b32 0#32), (b32 0#32), (b32 0#32), (b32 0#32), (b32 0#32), (.slice none 0 0), (.int .i64 0), (.slice none 0 0)])) := ⟨by kernel_rfl⟩
instance : Und Tryz.prog 150 (.array 64 74) := ⟨Tryz.underlying150⟩
instance : Siz Tryz.prog 150 64 := ⟨by kernel_rfl⟩
instance : Byt Tryz.prog 150 256 := ⟨by kernel_rfl⟩
instance : Agg Tryz.prog 150 true := ⟨by kernel_rfl⟩
instance : Ngd Tryz.prog 150 := ⟨by kernel_rfl⟩
instance : Zer Tryz.prog 150 (.agg (List.toArray [(b32 0#32), (b32 0#32), (b32 0#32), (b32 0#32), (b32 0#32), (b32 0#32), (b32 0#32), (b32 0#32), (b32 0#32), (b32 0#32), (b32 0#32), (b32 0#32), (b32 0#32), (b32 0#32), (b32 0#32), (b32 0#32), (b32 0#32), (b32 0#32), (b32 0#32), (b32 0#32), (b32 0#32), (b32 0#32), (b32 0#32), (b32 0#32), (b32 0#32), (b32 0#32), (b32 0#32), (b32 0#32), (b32 0#32), (b32 0#32), (b32 0#32), (b32 0#32), (b32 0#32), (b32 0#32), (b32 0#32), (b32 0#32), (b32 0#32), (b32 0#32), (b32 0#32), (b32 0#32), (b32 0#32), (b32 0#32), (b32 0#32), (b32 0#32), (b32 0#32), (b32 0#32), (b32 0#32), (b32 0#32), (b32 0#32), (b32 0#32), (b32 0#32), (b32 0#32), (b32 0#32), (b32 0#32), (b32 0#32), (b32 0#32), (b32 0#32), (b32 0#32), (b32 0#32), (b32 0#32), (b32 0#32), (b32 0#32), (b32 0#32), (b32 0#32)])) := ⟨by kernel_rfl⟩
instance : Und Tryz.prog 159 (.pointer 143) := ⟨Tryz.underlying159⟩
instance : Siz Tryz.prog 159 1 := ⟨by kernel_rfl⟩
instance : Byt Tryz.prog 159 8 := ⟨by kernel_rfl⟩
instance : Agg Tryz.prog 159 false := ⟨by kernel_rfl⟩
instance : One Tryz.prog 159 := ⟨by kernel_rfl⟩
instance : Zer Tryz.prog 159 (.pointer none) := ⟨by kernel_rfl⟩
instance : Siz Tryz.prog 165 4 := ⟨by kernel_rfl⟩
instance : Byt Tryz.prog 165 40 := ⟨by kernel_rfl⟩
instance : Agg Tryz.prog 165 true := ⟨by kernel_rfl⟩
instance : Plc Tryz.prog 165 [(0, 1), (1, 1), (2, 1), (3, 1)] := ⟨by kernel_rfl⟩
instance : Ngd Tryz.prog 165 := ⟨by kernel_rfl⟩
instance : Zer Tryz.prog 165 (.agg (List.toArray [(.pointer none), (.pointer none), (.pointer none), (.string .empty)])) := ⟨by kernel_rfl⟩
instance : Und Tryz.prog 167 (.array 0 16) := ⟨Tryz.underlying167⟩
instance : Siz Tryz.prog 167 0 := ⟨by kernel_rfl⟩
instance : Byt Tryz.prog 167 0 := ⟨by kernel_rfl⟩
instance : Agg Tryz.prog 167 true := ⟨by kernel_rfl⟩
instance : Ngd Tryz.prog 167 := ⟨by kernel_rfl⟩
instance : Zer Tryz.prog 167 (.agg (List.toArray [])) := ⟨by kernel_rfl⟩
instance : Siz Tryz.prog 168 0 := ⟨by kernel_rfl⟩
instance : Byt Tryz.prog 168 0 := ⟨by kernel_rfl⟩
instance : Agg Tryz.prog 168 true := ⟨by kernel_rfl⟩
instance : Plc Tryz.prog 168 [(0, 0)] := ⟨by kernel_rfl⟩
instance : Ngd Tryz.prog 168 := ⟨by kernel_rfl⟩
instance : Zer Tryz.prog 168 (.agg (List.toArray [])) := ⟨by kernel_rfl⟩
instance : Und Tryz.prog 174 (.pointer 5) := ⟨Tryz.underlying174⟩
instance : Siz Tryz.prog 174 1 := ⟨by kernel_rfl⟩
instance : Byt Tryz.prog 174 8 := ⟨by kernel_rfl⟩
instance : Agg Tryz.prog 174 false := ⟨by kernel_rfl⟩
instance : One Tryz.prog 174 := ⟨by kernel_rfl⟩
instance : Zer Tryz.prog 174 (.pointer none) := ⟨by kernel_rfl⟩
instance : Siz Tryz.prog 177 11 := ⟨by kernel_rfl⟩
instance : Byt Tryz.prog 177 48 := ⟨by kernel_rfl⟩
instance : Agg Tryz.prog 177 true := ⟨by kernel_rfl⟩
instance : Plc Tryz.prog 177 [(0, 1), (1, 1), (2, 1), (3, 1), (4, 1), (5, 1), (6, 1), (7, 1), (8, 1), (9, 1), (10, 1)] := ⟨by kernel_rfl⟩
instance : Ngd Tryz.prog 177 := ⟨by kernel_rfl⟩
instance : Zer Tryz.prog 177 (.agg (List.toArray [(b64 0#64), (b64 0#64), (b32 0#32), (b8 0#8), (b8 0#8), (b8 0#8), (b8 0#8), .nilFunc, (.pointer none), (.int .i32 0), (.int .i32 0)])) := ⟨by kernel_rfl⟩
instance : Fld Tryz.prog 36 0 0 32 true := ⟨by kernel_rfl⟩
instance : Fld Tryz.prog 36 1 32 32 true := ⟨by kernel_rfl⟩
instance : Fld Tryz.prog 36 2 64 32 true := ⟨by kernel_rfl⟩
instance : Fld Tryz.prog 36 3 96 32 true := ⟨by kernel_rfl⟩
instance : Fld Tryz.prog 37 0 0 32 true := ⟨by kernel_rfl⟩
instance : Fld Tryz.prog 37 1 32 32 true := ⟨by kernel_rfl⟩
instance : Fld Tryz.prog 37 2 64 32 true := ⟨by kernel_rfl⟩
instance : Fld Tryz.prog 37 3 96 32 true := ⟨by kernel_rfl⟩
instance : Fld Tryz.prog 38 0 0 128 true := ⟨by kernel_rfl⟩
instance : Fld Tryz.prog 38 1 128 32 true := ⟨by kernel_rfl⟩
instance : Fld Tryz.prog 38 2 160 32 true := ⟨by kernel_rfl⟩
instance : Fld Tryz.prog 39 0 0 128 true := ⟨by kernel_rfl⟩
instance : Fld Tryz.prog 39 1 128 32 true := ⟨by kernel_rfl⟩
instance : Fld Tryz.prog 39 2 160 32 true := ⟨by kernel_rfl⟩
instance : Fld Tryz.prog 41 0 0 128 true := ⟨by kernel_rfl⟩
instance : Fld Tryz.prog 41 1 128 32 true := ⟨by kernel_rfl⟩
instance : Fld Tryz.prog 41 2 160 32 true := ⟨by kernel_rfl⟩
instance : Fld Tryz.prog 42 0 0 128 true := ⟨by kernel_rfl⟩
instance : Fld Tryz.prog 42 1 128 32 true := ⟨by kernel_rfl⟩
instance : Fld Tryz.prog 42 2 160 32 true := ⟨by kernel_rfl⟩
instance : Fld Tryz.prog 88 0 0 4 true := ⟨by kernel_rfl⟩
instance : Fld Tryz.prog 88 1 4 4 true := ⟨by kernel_rfl⟩
instance : Fld Tryz.prog 89 0 0 4 true := ⟨by kernel_rfl⟩
instance : Fld Tryz.prog 89 1 4 4 true := ⟨by kernel_rfl⟩
instance : Fld Tryz.prog 142 0 0 8 true := ⟨by kernel_rfl⟩
instance : Fld Tryz.prog 142 1 8 1 false := ⟨by kernel_rfl⟩
instance : Fld Tryz.prog 142 2 9 1 false := ⟨by kernel_rfl⟩
instance : Fld Tryz.prog 143 0 0 8 true := ⟨by kernel_rfl⟩
instance : Fld Tryz.prog 143 1 8 1 false := ⟨by kernel_rfl⟩
instance : Fld Tryz.prog 143 2 9 1 false := ⟨by kernel_rfl⟩
instance : Fld Tryz.prog 144 0 0 10 true := ⟨by kernel_rfl⟩
instance : Fld Tryz.prog 145 0 0 10 true := ⟨by kernel_rfl⟩
instance : Fld Tryz.prog 146 0 0 10 true := ⟨by kernel_rfl⟩
instance : Fld Tryz.prog 146 1 10 1 false := ⟨by kernel_rfl⟩
instance : Fld Tryz.prog 147 0 0 10 true := ⟨by kernel_rfl⟩
instance : Fld Tryz.prog 147 1 10 1 false := ⟨by kernel_rfl⟩
instance : Fld Tryz.prog 165 0 0 1 false := ⟨by kernel_rfl⟩
instance : Fld Tryz.prog 165 1 1 1 false := ⟨by kernel_rfl⟩
instance : Fld Tryz.prog 165 2 2 1 false := ⟨by kernel_rfl⟩
instance : Fld Tryz.prog 165 3 3 1 false := ⟨by kernel_rfl⟩
instance : Fld Tryz.prog 168 0 0 0 true := ⟨by kernel_rfl⟩
instance : Fld Tryz.prog 177 0 0 1 false := ⟨by kernel_rfl⟩
instance : Fld Tryz.prog 177 1 1 1 false := ⟨by kernel_rfl⟩
instance : Fld Tryz.prog 177 2 2 1 false := ⟨by kernel_rfl⟩
instance : Fld Tryz.prog 177 3 3 1 false := ⟨by kernel_rfl⟩
instance : Fld Tryz.prog 177 4 4 1 false := ⟨by kernel_rfl⟩
instance : Fld Tryz.prog 177 5 5 1 false := ⟨by kernel_rfl⟩
instance : Fld Tryz.prog 177 6 6 1 false := ⟨by kernel_rfl⟩
instance : Fld Tryz.prog 177 7 7 1 false := ⟨by kernel_rfl⟩
instance : Fld Tryz.prog 177 8 8 1 false := ⟨by kernel_rfl⟩
instance : Fld Tryz.prog 177 9 9 1 false := ⟨by kernel_rfl⟩
instance : Fld Tryz.prog 177 10 10 1 false := ⟨by kernel_rfl⟩
instance : Mnz Tryz.prog 96 5 := ⟨Tryz.f96, 22, Tryz.func96, by kernel_rfl, rfl, by kernel_rfl, by kernel_rfl, Tryz.underlying22⟩
instance : Cal Tryz.prog 2 := ⟨Tryz.f2, Tryz.func2, by kernel_rfl, rfl⟩
instance : Cal Tryz.prog 3 := ⟨Tryz.f3, Tryz.func3, by kernel_rfl, rfl⟩
instance : Cal Tryz.prog 4 := ⟨Tryz.f4, Tryz.func4, by kernel_rfl, rfl⟩
instance : Cal Tryz.prog 5 := ⟨Tryz.f5, Tryz.func5, by kernel_rfl, rfl⟩
instance : Cal Tryz.prog 6 := ⟨Tryz.f6, Tryz.func6, by kernel_rfl, rfl⟩
instance : Cal Tryz.prog 7 := ⟨Tryz.f7, Tryz.func7, by kernel_rfl, rfl⟩
instance : Cal Tryz.prog 8 := ⟨Tryz.f8, Tryz.func8, by kernel_rfl, rfl⟩
instance : Cal Tryz.prog 9 := ⟨Tryz.f9, Tryz.func9, by kernel_rfl, rfl⟩
instance : Cal Tryz.prog 10 := ⟨Tryz.f10, Tryz.func10, by kernel_rfl, rfl⟩
instance : Cal Tryz.prog 11 := ⟨Tryz.f11, Tryz.func11, by kernel_rfl, rfl⟩
instance : Cal Tryz.prog 12 := ⟨Tryz.f12, Tryz.func12, by kernel_rfl, rfl⟩
instance : Cal Tryz.prog 13 := ⟨Tryz.f13, Tryz.func13, by kernel_rfl, rfl⟩
instance : Cal Tryz.prog 14 := ⟨Tryz.f14, Tryz.func14, by kernel_rfl, rfl⟩
instance : Cal Tryz.prog 15 := ⟨Tryz.f15, Tryz.func15, by kernel_rfl, rfl⟩
instance : Cal Tryz.prog 16 := ⟨Tryz.f16, Tryz.func16, by kernel_rfl, rfl⟩
instance : Cal Tryz.prog 17 := ⟨Tryz.f17, Tryz.func17, by kernel_rfl, rfl⟩
instance : Cal Tryz.prog 18 := ⟨Tryz.f18, Tryz.func18, by kernel_rfl, rfl⟩
instance : Cal Tryz.prog 19 := ⟨Tryz.f19, Tryz.func19, by kernel_rfl, rfl⟩
instance : Cal Tryz.prog 20 := ⟨Tryz.f20, Tryz.func20, by kernel_rfl, rfl⟩
instance : Cal Tryz.prog 21 := ⟨Tryz.f21, Tryz.func21, by kernel_rfl, rfl⟩
instance : Cal Tryz.prog 22 := ⟨Tryz.f22, Tryz.func22, by kernel_rfl, rfl⟩
instance : Cal Tryz.prog 23 := ⟨Tryz.f23, Tryz.func23, by kernel_rfl, rfl⟩
instance : Cal Tryz.prog 24 := ⟨Tryz.f24, Tryz.func24, by kernel_rfl, rfl⟩
instance : Cal Tryz.prog 25 := ⟨Tryz.f25, Tryz.func25, by kernel_rfl, rfl⟩
instance : Cal Tryz.prog 26 := ⟨Tryz.f26, Tryz.func26, by kernel_rfl, rfl⟩
instance : Cal Tryz.prog 27 := ⟨Tryz.f27, Tryz.func27, by kernel_rfl, rfl⟩
instance : Cal Tryz.prog 28 := ⟨Tryz.f28, Tryz.func28, by kernel_rfl, rfl⟩
instance : Cal Tryz.prog 29 := ⟨Tryz.f29, Tryz.func29, by kernel_rfl, rfl⟩
instance : Cal Tryz.prog 30 := ⟨Tryz.f30, Tryz.func30, by kernel_rfl, rfl⟩
instance : Cal Tryz.prog 31 := ⟨Tryz.f31, Tryz.func31, by kernel_rfl, rfl⟩
instance : Cal Tryz.prog 32 := ⟨Tryz.f32, Tryz.func32, by kernel_rfl, rfl⟩
instance : Cal Tryz.prog 33 := ⟨Tryz.f33, Tryz.func33, by kernel_rfl, rfl⟩
instance : Cal Tryz.prog 34 := ⟨Tryz.f34, Tryz.func34, by kernel_rfl, rfl⟩
instance : Cal Tryz.prog 35 := ⟨Tryz.f35, Tryz.func35, by kernel_rfl, rfl⟩
instance : Cal Tryz.prog 36 := ⟨Tryz.f36, Tryz.func36, by kernel_rfl, rfl⟩
instance : Cal Tryz.prog 37 := ⟨Tryz.f37, Tryz.func37, by kernel_rfl, rfl⟩
instance : Cal Tryz.prog 38 := ⟨Tryz.f38, Tryz.func38, by kernel_rfl, rfl⟩
instance : Cal Tryz.prog 39 := ⟨Tryz.f39, Tryz.func39, by kernel_rfl, rfl⟩
instance : Cal Tryz.prog 40 := ⟨Tryz.f40, Tryz.func40, by kernel_rfl, rfl⟩
instance : Cal Tryz.prog 41 := ⟨Tryz.f41, Tryz.func41, by kernel_rfl, rfl⟩
instance : Cal Tryz.prog 42 := ⟨Tryz.f42, Tryz.func42, by kernel_rfl, rfl⟩
instance : Cal Tryz.prog 43 := ⟨Tryz.f43, Tryz.func43, by kernel_rfl, rfl⟩
instance : Cal Tryz.prog 44 := ⟨Tryz.f44, Tryz.func44, by kernel_rfl, rfl⟩
instance : Cal Tryz.prog 45 := ⟨Tryz.f45, Tryz.func45, by kernel_rfl, rfl⟩
instance : Cal Tryz.prog 46 := ⟨Tryz.f46, Tryz.func46, by kernel_rfl, rfl⟩
instance : Cal Tryz.prog 47 := ⟨Tryz.f47, Tryz.func47, by kernel_rfl, rfl⟩
instance : Cal Tryz.prog 48 := ⟨Tryz.f48, Tryz.func48, by kernel_rfl, rfl⟩
instance : Cal Tryz.prog 49 := ⟨Tryz.f49, Tryz.func49, by kernel_rfl, rfl⟩
instance : Cal Tryz.prog 50 := ⟨Tryz.f50, Tryz.func50, by kernel_rfl, rfl⟩
instance : Cal Tryz.prog 51 := ⟨Tryz.f51, Tryz.func51, by kernel_rfl, rfl⟩
instance : Cal Tryz.prog 52 := ⟨Tryz.f52, Tryz.func52, by kernel_rfl, rfl⟩
instance : Cal Tryz.prog 53 := ⟨Tryz.f53, Tryz.func53, by kernel_rfl, rfl⟩
instance : Cal Tryz.prog 54 := ⟨Tryz.f54, Tryz.func54, by kernel_rfl, rfl⟩
instance : Cal Tryz.prog 55 := ⟨Tryz.f55, Tryz.func55, by kernel_rfl, rfl⟩
instance : Cal Tryz.prog 56 := ⟨Tryz.f56, Tryz.func56, by kernel_rfl, rfl⟩
instance : Cal Tryz.prog 57 := ⟨Tryz.f57, Tryz.func57, by kernel_rfl, rfl⟩
instance : Cal Tryz.prog 58 := ⟨Tryz.f58, Tryz.func58, by kernel_rfl, rfl⟩
instance : Cal Tryz.prog 59 := ⟨Tryz.f59, Tryz.func59, by kernel_rfl, rfl⟩
instance : Cal Tryz.prog 60 := ⟨Tryz.f60, Tryz.func60, by kernel_rfl, rfl⟩
instance : Cal Tryz.prog 61 := ⟨Tryz.f61, Tryz.func61, by kernel_rfl, rfl⟩
instance : Cal Tryz.prog 62 := ⟨Tryz.f62, Tryz.func62, by kernel_rfl, rfl⟩
instance : Cal Tryz.prog 63 := ⟨Tryz.f63, Tryz.func63, by kernel_rfl, rfl⟩
instance : Cal Tryz.prog 64 := ⟨Tryz.f64, Tryz.func64, by kernel_rfl, rfl⟩
instance : Cal Tryz.prog 65 := ⟨Tryz.f65, Tryz.func65, by kernel_rfl, rfl⟩
instance : Cal Tryz.prog 66 := ⟨Tryz.f66, Tryz.func66, by kernel_rfl, rfl⟩
instance : Cal Tryz.prog 67 := ⟨Tryz.f67, Tryz.func67, by kernel_rfl, rfl⟩
instance : Cal Tryz.prog 68 := ⟨Tryz.f68, Tryz.func68, by kernel_rfl, rfl⟩
instance : Cal Tryz.prog 69 := ⟨Tryz.f69, Tryz.func69, by kernel_rfl, rfl⟩
instance : Cal Tryz.prog 70 := ⟨Tryz.f70, Tryz.func70, by kernel_rfl, rfl⟩
instance : Cal Tryz.prog 71 := ⟨Tryz.f71, Tryz.func71, by kernel_rfl, rfl⟩
instance : Cal Tryz.prog 72 := ⟨Tryz.f72, Tryz.func72, by kernel_rfl, rfl⟩
instance : Cal Tryz.prog 73 := ⟨Tryz.f73, Tryz.func73, by kernel_rfl, rfl⟩
instance : Cal Tryz.prog 74 := ⟨Tryz.f74, Tryz.func74, by kernel_rfl, rfl⟩
instance : Cal Tryz.prog 75 := ⟨Tryz.f75, Tryz.func75, by kernel_rfl, rfl⟩
instance : Cal Tryz.prog 77 := ⟨Tryz.f77, Tryz.func77, by kernel_rfl, rfl⟩
instance : Cal Tryz.prog 78 := ⟨Tryz.f78, Tryz.func78, by kernel_rfl, rfl⟩
instance : Cal Tryz.prog 79 := ⟨Tryz.f79, Tryz.func79, by kernel_rfl, rfl⟩
instance : Cal Tryz.prog 80 := ⟨Tryz.f80, Tryz.func80, by kernel_rfl, rfl⟩
instance : Cal Tryz.prog 81 := ⟨Tryz.f81, Tryz.func81, by kernel_rfl, rfl⟩
instance : Cal Tryz.prog 82 := ⟨Tryz.f82, Tryz.func82, by kernel_rfl, rfl⟩
instance : Cal Tryz.prog 83 := ⟨Tryz.f83, Tryz.func83, by kernel_rfl, rfl⟩
instance : Cal Tryz.prog 84 := ⟨Tryz.f84, Tryz.func84, by kernel_rfl, rfl⟩
instance : Cal Tryz.prog 85 := ⟨Tryz.f85, Tryz.func85, by kernel_rfl, rfl⟩
instance : Cal Tryz.prog 86 := ⟨Tryz.f86, Tryz.func86, by kernel_rfl, rfl⟩
instance : Cal Tryz.prog 88 := ⟨Tryz.f88, Tryz.func88, by kernel_rfl, rfl⟩
instance : Cal Tryz.prog 89 := ⟨Tryz.f89, Tryz.func89, by kernel_rfl, rfl⟩
instance : Cal Tryz.prog 90 := ⟨Tryz.f90, Tryz.func90, by kernel_rfl, rfl⟩
instance : Cal Tryz.prog 91 := ⟨Tryz.f91, Tryz.func91, by kernel_rfl, rfl⟩
instance : Cal Tryz.prog 92 := ⟨Tryz.f92, Tryz.func92, by kernel_rfl, rfl⟩
instance : Cal Tryz.prog 93 := ⟨Tryz.f93, Tryz.func93, by kernel_rfl, rfl⟩
instance : Cal Tryz.prog 94 := ⟨Tryz.f94, Tryz.func94, by kernel_rfl, rfl⟩
instance : Cal Tryz.prog 95 := ⟨Tryz.f95, Tryz.func95, by kernel_rfl, rfl⟩
instance : Cal Tryz.prog 97 := ⟨Tryz.f97, Tryz.func97, by kernel_rfl, rfl⟩
instance : Cal Tryz.prog 98 := ⟨Tryz.f98, Tryz.func98, by kernel_rfl, rfl⟩
instance : Cal Tryz.prog 99 := ⟨Tryz.f99, Tryz.func99, by kernel_rfl, rfl⟩
instance : Cal Tryz.prog 100 := ⟨Tryz.f100, Tryz.func100, by kernel_rfl, rfl⟩
instance : Cal Tryz.prog 101 := ⟨Tryz.f101, Tryz.func101, by kernel_rfl, rfl⟩
instance : Cal Tryz.prog 102 := ⟨Tryz.f102, Tryz.func102, by kernel_rfl, rfl⟩
instance : Cal Tryz.prog 103 := ⟨Tryz.f103, Tryz.func103, by kernel_rfl, rfl⟩
instance : Cal Tryz.prog 104 := ⟨Tryz.f104, Tryz.func104, by kernel_rfl, rfl⟩
instance : Cal Tryz.prog 105 := ⟨Tryz.f105, Tryz.func105, by kernel_rfl, rfl⟩
instance : Cal Tryz.prog 106 := ⟨Tryz.f106, Tryz.func106, by kernel_rfl, rfl⟩
instance : Cal Tryz.prog 107 := ⟨Tryz.f107, Tryz.func107, by kernel_rfl, rfl⟩
instance : Cal Tryz.prog 108 := ⟨Tryz.f108, Tryz.func108, by kernel_rfl, rfl⟩
instance : Cal Tryz.prog 109 := ⟨Tryz.f109, Tryz.func109, by kernel_rfl, rfl⟩
instance : Cal Tryz.prog 110 := ⟨Tryz.f110, Tryz.func110, by kernel_rfl, rfl⟩
instance : Cal Tryz.prog 111 := ⟨Tryz.f111, Tryz.func111, by kernel_rfl, rfl⟩
instance : Cal Tryz.prog 112 := ⟨Tryz.f112, Tryz.func112, by kernel_rfl, rfl⟩
instance : Cal Tryz.prog 113 := ⟨Tryz.f113, Tryz.func113, by kernel_rfl, rfl⟩
instance : Cal Tryz.prog 114 := ⟨Tryz.f114, Tryz.func114, by kernel_rfl, rfl⟩
instance : Cal Tryz.prog 115 := ⟨Tryz.f115, Tryz.func115, by kernel_rfl, rfl⟩
end Go.Sx

/-
  Contracts of the reference's copies and equality of lists of bytes, and of the codec's padding with its reference. Each list is at most 2^47 bytes long.
-/
namespace Go.Sx
open Go Go.Proofs

theorem Copy_spec (w : World) (p : Option Addr) (n c : Nat) (l : List (BitVec 8)) (hr : RdV w p (bs l)) (hn : l.length = n) (hbig : n ≤ 140737488355328) :
    Spec Tryz.prog 8 #[.slice p n c] w (σ := Ow) (fun _ => True) (fun x => x.sl n) Nob (fun x => [x.ck 5 1 (bs l)]) := by
  refine enter Tryz.func8 rfl rfl (Mem.start w) ?_
  (repeat refine g_seq ?_)
  refine g_region ?_
  refine g_pu rfl rfl rfl (pu_assign rfl rfl) ?_
  refine g_nil ?_
  (repeat refine g_seq ?_)
  refine g_region ?_
  refine g_lo [3] rfl rfl rfl rfl (lo_buildSlice0 rfl) (fun b3 hb3 => ?_)
  refine g_pu rfl rfl rfl (pu_move rfl rfl) ?_
  refine g_own 3 (L := []) (J := []) (c := 0) (s := 1) rfl (by simp) (by omega) ?_
  refine g_append1 3 (bs l) rfl rfl rfl rfl rfl rfl rfl rfl rfl (fun w' hm => hr.mem0 hm) (by rw [bs_length, hn]) (oneCell_bs l) (by omega) (by omega) (fun p' c' => ?_)
  refine g_pu rfl rfl rfl (pu_assign rfl rfl) ?_
  refine g_nil ?_
  exact g_ret1 rfl rfl (fun w' hm => ⟨⟨p', c'⟩, trivial, by simp [Ow.sl], hm.grows [3] ⟨rfl, trivial⟩ rfl⟩)

/-! ## Padding -/
def padE (n : Nat) (z : Int) : Int := if z < 0 ∨ z > 16777216 then 1 else if (n : Int) > z then 2 else 0
def padL (l : List (BitVec 8)) (z : Int) : List (BitVec 8) := if padE l.length z = 0 then l ++ List.replicate (z.toNat - l.length) 0#8 else []

theorem Pad_spec (w : World) (p : Option Addr) (n c : Nat) (l : List (BitVec 8)) (z : Int) (hr : RdV w p (bs l)) (hn : l.length = n) (hbig : n ≤ 140737488355328) :
    Spec Tryz.prog 108 #[.slice p n c, .int .i64 z] w (σ := Ow) (fun _ => True) (fun x => .tuple #[x.sl (padL l z).length, .int .i64 (padE n z)]) Nob (fun x => [x.ck 5 1 (bs (padL l z))]) := by
  refine enter Tryz.func108 rfl rfl (Mem.start w) ?_
  (repeat refine g_seq ?_)
  refine g_region ?_
  refine g_pu rfl rfl rfl (pu_assign rfl rfl) ?_
  refine g_pu rfl rfl rfl (pu_assign rfl rfl) ?_
  refine g_nil ?_
  by_cases h1 : z < 0
  · (repeat refine g_seq ?_)
    refine g_region ?_
    refine g_pu rfl rfl rfl (pu_move rfl rfl) ?_
    first | refine g_pu rfl rfl rfl (pu_lss_t rfl rfl rfl (by omega)) ?_ | refine g_pu rfl rfl rfl (pu_lss_f rfl rfl rfl (by omega)) ?_ | refine g_pu rfl rfl rfl (pu_lss rfl rfl rfl) ?_
    refine g_pu rfl rfl rfl (pu_move rfl rfl) ?_
    first | refine g_pass rfl rfl rfl ?_ | refine g_pu rfl rfl rfl (pu_move rfl rfl) ?_
    first | refine g_pass rfl rfl rfl ?_ | refine g_pu rfl rfl rfl (pu_gtr_t rfl rfl rfl (by omega)) ?_ | refine g_pu rfl rfl rfl (pu_gtr_f rfl rfl rfl (by omega)) ?_ | refine g_pu rfl rfl rfl (pu_gtr rfl rfl rfl) ?_
    first | refine g_pu rfl rfl rfl (pu_pick_t rfl rfl rfl) ?_ | refine g_pu rfl rfl rfl (pu_pick_f rfl rfl rfl) ?_
    refine g_nil ?_
    refine g_cond_t rfl ?_
    (repeat refine g_seq ?_)
    refine g_region ?_
    refine g_pu rfl rfl rfl (pu_assign rfl rfl) ?_
    refine g_pu rfl rfl rfl (pu_assign rfl rfl) ?_
    refine g_nil ?_
    refine g_nilOwn 90 5 1 rfl (g_ret2 rfl rfl rfl (fun w' hm => ?_))
    have hE : padE n z = 1 := by simp [padE, h1]
    have hL : padL l z = [] := by simp [padL, hn, hE]
    exact ⟨⟨none, 0⟩, trivial, by rw [hL, hE]; rfl, by rw [hL]; exact hm.grows [90] ⟨rfl, trivial⟩ rfl⟩
  · by_cases h2 : z > 16777216
    · (repeat refine g_seq ?_)
      refine g_region ?_
      refine g_pu rfl rfl rfl (pu_move rfl rfl) ?_
      first | refine g_pu rfl rfl rfl (pu_lss_t rfl rfl rfl (by omega)) ?_ | refine g_pu rfl rfl rfl (pu_lss_f rfl rfl rfl (by omega)) ?_ | refine g_pu rfl rfl rfl (pu_lss rfl rfl rfl) ?_
      refine g_pu rfl rfl rfl (pu_move rfl rfl) ?_
      first | refine g_pass rfl rfl rfl ?_ | refine g_pu rfl rfl rfl (pu_move rfl rfl) ?_
      first | refine g_pass rfl rfl rfl ?_ | refine g_pu rfl rfl rfl (pu_gtr_t rfl rfl rfl (by omega)) ?_ | refine g_pu rfl rfl rfl (pu_gtr_f rfl rfl rfl (by omega)) ?_ | refine g_pu rfl rfl rfl (pu_gtr rfl rfl rfl) ?_
      first | refine g_pu rfl rfl rfl (pu_pick_t rfl rfl rfl) ?_ | refine g_pu rfl rfl rfl (pu_pick_f rfl rfl rfl) ?_
      refine g_nil ?_
      refine g_cond_t rfl ?_
      (repeat refine g_seq ?_)
      refine g_region ?_
      refine g_pu rfl rfl rfl (pu_assign rfl rfl) ?_
      refine g_pu rfl rfl rfl (pu_assign rfl rfl) ?_
      refine g_nil ?_
      refine g_nilOwn 90 5 1 rfl (g_ret2 rfl rfl rfl (fun w' hm => ?_))
      have hE : padE n z = 1 := by simp [padE, h2]
      have hL : padL l z = [] := by simp [padL, hn, hE]
      exact ⟨⟨none, 0⟩, trivial, by rw [hL, hE]; rfl, by rw [hL]; exact hm.grows [90] ⟨rfl, trivial⟩ rfl⟩
    · (repeat refine g_seq ?_)
      refine g_region ?_
      refine g_pu rfl rfl rfl (pu_move rfl rfl) ?_
      first | refine g_pu rfl rfl rfl (pu_lss_t rfl rfl rfl (by omega)) ?_ | refine g_pu rfl rfl rfl (pu_lss_f rfl rfl rfl (by omega)) ?_ | refine g_pu rfl rfl rfl (pu_lss rfl rfl rfl) ?_
      refine g_pu rfl rfl rfl (pu_move rfl rfl) ?_
      first | refine g_pass rfl rfl rfl ?_ | refine g_pu rfl rfl rfl (pu_move rfl rfl) ?_
      first | refine g_pass rfl rfl rfl ?_ | refine g_pu rfl rfl rfl (pu_gtr_t rfl rfl rfl (by omega)) ?_ | refine g_pu rfl rfl rfl (pu_gtr_f rfl rfl rfl (by omega)) ?_ | refine g_pu rfl rfl rfl (pu_gtr rfl rfl rfl) ?_
      first | refine g_pu rfl rfl rfl (pu_pick_t rfl rfl rfl) ?_ | refine g_pu rfl rfl rfl (pu_pick_f rfl rfl rfl) ?_
      refine g_nil ?_
      refine g_cond_f rfl (g_skip ?_)
      by_cases h3 : (n : Int) > z
      · (repeat refine g_seq ?_)
        refine g_region ?_
        refine g_pu rfl rfl rfl (pu_move rfl rfl) ?_
        first | refine g_pu rfl rfl rfl (pu_len rfl rfl) ?_ | refine g_pu rfl rfl rfl (pu_lenS rfl rfl) ?_
        refine g_pu rfl rfl rfl (pu_move rfl rfl) ?_
        first | refine g_pu rfl rfl rfl (pu_gtr_t rfl rfl rfl (by omega)) ?_ | refine g_pu rfl rfl rfl (pu_gtr_f rfl rfl rfl (by omega)) ?_ | refine g_pu rfl rfl rfl (pu_gtr rfl rfl rfl) ?_
        refine g_nil ?_
        refine g_cond_t rfl ?_
        (repeat refine g_seq ?_)
        refine g_region ?_
        refine g_pu rfl rfl rfl (pu_assign rfl rfl) ?_
        refine g_pu rfl rfl rfl (pu_assign rfl rfl) ?_
        refine g_nil ?_
        refine g_nilOwn 90 5 1 rfl (g_ret2 rfl rfl rfl (fun w' hm => ?_))
        have hE : padE n z = 2 := by simp [padE, h1, h2, h3]
        have hL : padL l z = [] := by simp [padL, hn, hE]
        exact ⟨⟨none, 0⟩, trivial, by rw [hL, hE]; rfl, by rw [hL]; exact hm.grows [90] ⟨rfl, trivial⟩ rfl⟩
      · obtain ⟨k, rfl⟩ := Int.eq_ofNat_of_zero_le (show 0 ≤ z by omega)
        (repeat refine g_seq ?_)
        refine g_region ?_
        refine g_pu rfl rfl rfl (pu_move rfl rfl) ?_
        first | refine g_pu rfl rfl rfl (pu_len rfl rfl) ?_ | refine g_pu rfl rfl rfl (pu_lenS rfl rfl) ?_
        refine g_pu rfl rfl rfl (pu_move rfl rfl) ?_
        first | refine g_pu rfl rfl rfl (pu_gtr_t rfl rfl rfl (by omega)) ?_ | refine g_pu rfl rfl rfl (pu_gtr_f rfl rfl rfl (by omega)) ?_ | refine g_pu rfl rfl rfl (pu_gtr rfl rfl rfl) ?_
        refine g_nil ?_
        refine g_cond_f rfl (g_skip ?_)
        (repeat refine g_seq ?_)
        refine g_region ?_
        refine g_pu rfl rfl rfl (pu_move rfl rfl) ?_
        refine g_lo [18] rfl rfl rfl rfl (lo_make (n := k) (c := k) rfl rfl rfl (by omega) (by omega) (by omega) rfl) (fun b18 hb18 => ?_)
        refine g_pu rfl rfl rfl (pu_assign rfl rfl) ?_
        refine g_nil ?_
        (repeat refine g_seq ?_)
        refine g_region ?_
        refine g_pu rfl rfl rfl (pu_move rfl rfl) ?_
        refine g_pu rfl rfl rfl (pu_move rfl rfl) ?_
        refine g_copy 18 (bs l) rfl rfl rfl rfl rfl rfl rfl (fun w' hm => hr.mem0 hm) (by rw [bs_length, hn]) (by simp) (oneCell_bs l) ?_
        refine g_nil ?_
        (repeat refine g_seq ?_)
        refine g_region ?_
        refine g_pu rfl rfl rfl (pu_move rfl rfl) ?_
        refine g_pu rfl rfl rfl (pu_assign rfl rfl) ?_
        refine g_pu rfl rfl rfl (pu_assign rfl rfl) ?_
        refine g_nil ?_
        have hE : padE n (k : Int) = 0 := by simp [padE]; omega
        have hL : padL l (k : Int) = l ++ List.replicate (k - n) 0#8 := by simp [padL, hn, hE]
        have hmin : Nat.min n k = n := Nat.min_eq_left (by omega)
        have hrow : (List.replicate k (b8 0#8)).take 0 ++ (bs l).take (Nat.min n k) ++ (List.replicate k (b8 0#8)).drop (0 + Nat.min n k) = bs (padL l k) ++ [] := by
          have ht : (bs l).take n = bs l := List.take_of_length_le (by rw [bs_length]; omega)
          rw [hmin, hL, ht]
          simp [bs]
        have hlen : (padL l (k : Int)).length = k := by rw [hL]; simp; omega
        refine g_own 18 (L := bs (padL l k)) (J := []) (c := k) (s := 1) (congrArg (fun L => some (Ck.pt b18 (.cells (List.toArray L) 5 (0, 0)))) hrow) (by simp [bs_length, hlen]) (by omega) ?_
        exact g_ret2 rfl rfl rfl (fun w' hm => ⟨⟨some ⟨b18, 0, none⟩, k⟩, trivial, by rw [hlen, hE]; rfl, hm.grows [18] ⟨rfl, trivial⟩ rfl⟩)

end Go.Sx

/-
  Contracts in the words of 'By': copy, equality, padding. Looks of the codec and of its reference.
-/
namespace Go.Sx
open Go Go.Proofs

theorem Copy_b (w : World) {p : Option Addr} {n : Nat} (c : Nat) {l : List (BitVec 8)} (h : By w p n l) :
    Spec Tryz.prog 8 #[.slice p n c] w (σ := Ow) (fun _ => True) (fun x => x.sl n) Nob (fun x => [x.ck 5 1 (bs l)]) := Copy_spec w p n c l h.rd h.len h.big
end Go.Sx

/-
  Reading a number out of bytes: the codec's way and its reference's way come to the same. The order is 1 or 2, the width 1 to 8.
-/
namespace Go.Sx
open Go Go.Proofs

abbrev ShapeOk (o z : Int) : Prop := (o = 1 ∨ o = 2) ∧ 1 ≤ z ∧ z ≤ 8

theorem shape_b (w : World) (o z : Int) : Spec Tryz.prog 111 #[.int .i64 o, .int .i64 z] w (σ := Unit) (fun _ => True) (fun _ => .int .i64 (if ShapeOk o z then 0 else 1)) Nob (fun _ => []) := by
  refine enter Tryz.func111 rfl rfl (Mem.start w) ?_
  (repeat refine g_seq ?_)
  refine g_region ?_
  refine g_pu rfl rfl rfl (pu_assign rfl rfl) ?_
  refine g_nil ?_
  by_cases h : ShapeOk o z
  · have h1 : 1 ≤ z := h.2.1
    have h2 : z ≤ 8 := h.2.2
    rcases h.1 with h3 | h3 <;> (
      (repeat refine g_seq ?_)
      refine g_region ?_
      refine g_pu rfl rfl rfl (pu_move rfl rfl) ?_
      first | refine g_pu rfl rfl rfl (pu_neq_t rfl rfl rfl (by omega)) ?_ | refine g_pu rfl rfl rfl (pu_neq_f rfl rfl rfl (by omega)) ?_ | refine g_pu rfl rfl rfl (pu_neq rfl rfl rfl) ?_
      refine g_pu rfl rfl rfl (pu_move rfl rfl) ?_
      first | refine g_pass rfl rfl rfl ?_ | refine g_pu rfl rfl rfl (pu_move rfl rfl) ?_
      first | refine g_pass rfl rfl rfl ?_ | refine g_pu rfl rfl rfl (pu_neq_t rfl rfl rfl (by omega)) ?_ | refine g_pu rfl rfl rfl (pu_neq_f rfl rfl rfl (by omega)) ?_ | refine g_pu rfl rfl rfl (pu_neq rfl rfl rfl) ?_
      first | refine g_pu rfl rfl rfl (pu_pick_t rfl rfl rfl) ?_ | refine g_pu rfl rfl rfl (pu_pick_f rfl rfl rfl) ?_
      refine g_pu rfl rfl rfl (pu_move rfl rfl) ?_
      first | refine g_pass rfl rfl rfl ?_ | refine g_pu rfl rfl rfl (pu_move rfl rfl) ?_
      first | refine g_pass rfl rfl rfl ?_ | refine g_pu rfl rfl rfl (pu_lss_t rfl rfl rfl (by omega)) ?_ | refine g_pu rfl rfl rfl (pu_lss_f rfl rfl rfl (by omega)) ?_ | refine g_pu rfl rfl rfl (pu_lss rfl rfl rfl) ?_
      first | refine g_pu rfl rfl rfl (pu_pick_t rfl rfl rfl) ?_ | refine g_pu rfl rfl rfl (pu_pick_f rfl rfl rfl) ?_
      refine g_pu rfl rfl rfl (pu_move rfl rfl) ?_
      first | refine g_pass rfl rfl rfl ?_ | refine g_pu rfl rfl rfl (pu_move rfl rfl) ?_
      first | refine g_pass rfl rfl rfl ?_ | refine g_pu rfl rfl rfl (pu_gtr_t rfl rfl rfl (by omega)) ?_ | refine g_pu rfl rfl rfl (pu_gtr_f rfl rfl rfl (by omega)) ?_ | refine g_pu rfl rfl rfl (pu_gtr rfl rfl rfl) ?_
      first | refine g_pu rfl rfl rfl (pu_pick_t rfl rfl rfl) ?_ | refine g_pu rfl rfl rfl (pu_pick_f rfl rfl rfl) ?_
      refine g_nil ?_
      (repeat refine g_seq ?_)
      refine g_cond_f rfl (g_skip ?_)
      (repeat refine g_seq ?_)
      refine g_region ?_
      refine g_pu rfl rfl rfl (pu_assign rfl rfl) ?_
      refine g_nil ?_
      exact g_ret1 rfl rfl (fun w' hm => ⟨(), trivial, by rw [if_pos h], hm.grows [] trivial rfl⟩))
  · by_cases h1 : o = 1 <;> by_cases h2 : o = 2 <;> by_cases h3 : z < 1 <;> by_cases h4 : z > 8 <;> first | exact absurd ⟨by first | exact .inl h1 | exact .inr h2, by omega, by omega⟩ h | (
      (repeat refine g_seq ?_)
      refine g_region ?_
      refine g_pu rfl rfl rfl (pu_move rfl rfl) ?_
      first | refine g_pu rfl rfl rfl (pu_neq_t rfl rfl rfl (by omega)) ?_ | refine g_pu rfl rfl rfl (pu_neq_f rfl rfl rfl (by omega)) ?_ | refine g_pu rfl rfl rfl (pu_neq rfl rfl rfl) ?_
      refine g_pu rfl rfl rfl (pu_move rfl rfl) ?_
      first | refine g_pass rfl rfl rfl ?_ | refine g_pu rfl rfl rfl (pu_move rfl rfl) ?_
      first | refine g_pass rfl rfl rfl ?_ | refine g_pu rfl rfl rfl (pu_neq_t rfl rfl rfl (by omega)) ?_ | refine g_pu rfl rfl rfl (pu_neq_f rfl rfl rfl (by omega)) ?_ | refine g_pu rfl rfl rfl (pu_neq rfl rfl rfl) ?_
      first | refine g_pu rfl rfl rfl (pu_pick_t rfl rfl rfl) ?_ | refine g_pu rfl rfl rfl (pu_pick_f rfl rfl rfl) ?_
      refine g_pu rfl rfl rfl (pu_move rfl rfl) ?_
      first | refine g_pass rfl rfl rfl ?_ | refine g_pu rfl rfl rfl (pu_move rfl rfl) ?_
      first | refine g_pass rfl rfl rfl ?_ | refine g_pu rfl rfl rfl (pu_lss_t rfl rfl rfl (by omega)) ?_ | refine g_pu rfl rfl rfl (pu_lss_f rfl rfl rfl (by omega)) ?_ | refine g_pu rfl rfl rfl (pu_lss rfl rfl rfl) ?_
      first | refine g_pu rfl rfl rfl (pu_pick_t rfl rfl rfl) ?_ | refine g_pu rfl rfl rfl (pu_pick_f rfl rfl rfl) ?_
      refine g_pu rfl rfl rfl (pu_move rfl rfl) ?_
      first | refine g_pass rfl rfl rfl ?_ | refine g_pu rfl rfl rfl (pu_move rfl rfl) ?_
      first | refine g_pass rfl rfl rfl ?_ | refine g_pu rfl rfl rfl (pu_gtr_t rfl rfl rfl (by omega)) ?_ | refine g_pu rfl rfl rfl (pu_gtr_f rfl rfl rfl (by omega)) ?_ | refine g_pu rfl rfl rfl (pu_gtr rfl rfl rfl) ?_
      first | refine g_pu rfl rfl rfl (pu_pick_t rfl rfl rfl) ?_ | refine g_pu rfl rfl rfl (pu_pick_f rfl rfl rfl) ?_
      refine g_nil ?_
      (repeat refine g_seq ?_)
      refine g_cond_t rfl ?_
      (repeat refine g_seq ?_)
      refine g_region ?_
      refine g_pu rfl rfl rfl (pu_assign rfl rfl) ?_
      refine g_nil ?_
      exact g_ret1 rfl rfl (fun w' hm => ⟨(), trivial, by rw [if_neg h], hm.grows [] trivial rfl⟩))

theorem rshape_b (w : World) (o z : Int) : Spec Tryz.prog 71 #[.int .i64 o, .int .i64 z] w (σ := Unit) (fun _ => True) (fun _ => .bool (decide (ShapeOk o z))) Nob (fun _ => []) := by
  refine enter Tryz.func71 rfl rfl (Mem.start w) ?_
  (repeat refine g_seq ?_)
  refine g_region ?_
  refine g_pu rfl rfl rfl (pu_assign rfl rfl) ?_
  refine g_nil ?_
  by_cases h1 : o = 1 <;> by_cases h2 : o = 2 <;> by_cases h3 : z < 1 <;> by_cases h4 : z > 8 <;> (
    (repeat refine g_seq ?_)
    refine g_region ?_
    refine g_pu rfl rfl rfl (pu_move rfl rfl) ?_
    first | refine g_pu rfl rfl rfl (pu_eql_t rfl rfl rfl (by omega)) ?_ | refine g_pu rfl rfl rfl (pu_eql_f rfl rfl rfl (by omega)) ?_ | refine g_pu rfl rfl rfl (pu_eql rfl rfl rfl) ?_
    refine g_pu rfl rfl rfl (pu_move rfl rfl) ?_
    first | refine g_pass rfl rfl rfl ?_ | refine g_pu rfl rfl rfl (pu_move rfl rfl) ?_
    first | refine g_pass rfl rfl rfl ?_ | refine g_pu rfl rfl rfl (pu_eql_t rfl rfl rfl (by omega)) ?_ | refine g_pu rfl rfl rfl (pu_eql_f rfl rfl rfl (by omega)) ?_ | refine g_pu rfl rfl rfl (pu_eql rfl rfl rfl) ?_
    first | refine g_pu rfl rfl rfl (pu_pick_t rfl rfl rfl) ?_ | refine g_pu rfl rfl rfl (pu_pick_f rfl rfl rfl) ?_
    refine g_pu rfl rfl rfl (pu_move rfl rfl) ?_
    first | refine g_pass rfl rfl rfl ?_ | refine g_pu rfl rfl rfl (pu_move rfl rfl) ?_
    first | refine g_pass rfl rfl rfl ?_ | refine g_pu rfl rfl rfl (pu_geq_t rfl rfl rfl (by omega)) ?_ | refine g_pu rfl rfl rfl (pu_geq_f rfl rfl rfl (by omega)) ?_ | refine g_pu rfl rfl rfl (pu_geq rfl rfl rfl) ?_
    first | refine g_pu rfl rfl rfl (pu_pick_t rfl rfl rfl) ?_ | refine g_pu rfl rfl rfl (pu_pick_f rfl rfl rfl) ?_
    refine g_pu rfl rfl rfl (pu_move rfl rfl) ?_
    first | refine g_pass rfl rfl rfl ?_ | refine g_pu rfl rfl rfl (pu_move rfl rfl) ?_
    first | refine g_pass rfl rfl rfl ?_ | refine g_pu rfl rfl rfl (pu_leq_t rfl rfl rfl (by omega)) ?_ | refine g_pu rfl rfl rfl (pu_leq_f rfl rfl rfl (by omega)) ?_ | refine g_pu rfl rfl rfl (pu_leq rfl rfl rfl) ?_
    first | refine g_pu rfl rfl rfl (pu_pick_t rfl rfl rfl) ?_ | refine g_pu rfl rfl rfl (pu_pick_f rfl rfl rfl) ?_
    refine g_pu rfl rfl rfl (pu_assign rfl rfl) ?_
    refine g_nil ?_
    refine g_ret1 rfl rfl (fun w' hm => ⟨(), trivial, ?_, hm.grows [] trivial rfl⟩)
    first | exact congrArg (fun b => Ending.returned (.bool b)) (decide_eq_true (by unfold ShapeOk; omega)).symm | exact congrArg (fun b => Ending.returned (.bool b)) (decide_eq_false (by unfold ShapeOk; omega)).symm)

/-! ## The plain law -/
def beV (r : List (BitVec 8)) : BitVec 64 := r.foldl (fun n b => (n <<< 8) ||| b.setWidth 64) 0#64
def leV : List (BitVec 8) → BitVec 64
  | [] => 0#64
  | b :: t => b.setWidth 64 + 256#64 * leV t
def win (l : List (BitVec 8)) (t z : Nat) : List (BitVec 8) := (l.drop t).take z
def rdS (o : Int) (s : List (BitVec 8)) : List (BitVec 8) := if o = 2 then s else s.reverse
def getE (o : Int) (n : Nat) (t z : Int) : Int := if ¬ ShapeOk o z ∨ t < 0 then 1 else if (n : Int) < t + z then 2 else 0
def getV (o : Int) (l : List (BitVec 8)) (t z : Int) : BitVec 64 := if getE o l.length t z = 0 then beV (rdS o (win l t.toNat z.toNat)) else 0#64

theorem or_add (n : BitVec 64) (b : BitVec 8) : (n <<< 8) ||| b.setWidth 64 = b.setWidth 64 + 256#64 * n := by
  have h : (n <<< 8) &&& b.setWidth 64 = 0#64 := by
    apply BitVec.eq_of_getLsbD_eq
    intro i hi
    by_cases h : i < 8
    · simp [h]
    · simp [BitVec.getLsbD_of_ge b i (by omega)]
  rw [← BitVec.add_eq_or_of_and_eq_zero _ _ h, BitVec.add_comm]
  congr 1
  rw [BitVec.shiftLeft_eq_mul_twoPow, BitVec.mul_comm]
  rfl
theorem beV_snoc (r : List (BitVec 8)) (b : BitVec 8) : beV (r ++ [b]) = (beV r <<< 8) ||| b.setWidth 64 := by simp [beV]
theorem leV_rev (r : List (BitVec 8)) : leV r = beV r.reverse := by
  induction r with
  | nil => rfl
  | cons b r ih => rw [List.reverse_cons, beV_snoc, or_add, ← ih]; rfl
theorem beV_rev (r : List (BitVec 8)) : beV r = leV r.reverse := by rw [leV_rev, List.reverse_reverse]
theorem leV_snoc (t : List (BitVec 8)) (b : BitVec 8) : leV (t ++ [b]) = leV t + (256#64 ^ t.length) * b.setWidth 64 := by
  induction t with
  | nil => simp [leV]
  | cons a t ih =>
    simp only [List.cons_append, leV, ih, List.length_cons]
    rw [BitVec.mul_add, BitVec.add_assoc, ← BitVec.mul_assoc, BitVec.pow_succ, BitVec.mul_comm (256#64 ^ t.length) 256#64]
theorem win_length {l : List (BitVec 8)} {t z : Nat} (h : t + z ≤ l.length) : (win l t z).length = z := by simp [win]; omega
theorem win_get {l : List (BitVec 8)} {t z i : Nat} (hi : i < z) : (win l t z)[i]? = l[t + i]? := by simp [win, List.getElem?_take, hi]
theorem rdS_length {o : Int} {s : List (BitVec 8)} : (rdS o s).length = s.length := by unfold rdS; split <;> simp
/-- The byte that is read in round i. -/
theorem rdS_get {o : Int} {l : List (BitVec 8)} {t z i : Nat} (h : t + z ≤ l.length) (hi : i < z) : (rdS o (win l t z))[i]? = l[if o = 2 then t + i else t + z - 1 - i]? := by
  unfold rdS
  split
  · exact win_get hi
  · rw [List.getElem?_reverse (by rw [win_length h]; exact hi), win_length h, win_get (by omega)]
    congr 1; omega
theorem rdSr_get {o : Int} {l : List (BitVec 8)} {t z i : Nat} (h : t + z ≤ l.length) (hi : i < z) : (rdS o (win l t z)).reverse[i]? = l[if o = 2 then t + z - 1 - i else t + i]? := by
  rw [List.getElem?_reverse (by rw [rdS_length, win_length h]; exact hi), rdS_length, win_length h, rdS_get h (by omega)]
  split <;> (congr 1; omega)

end Go.Sx

/-
  The reference's way to read a number out of bytes. The order is 1 or 2, the width 1 to 8.
-/
namespace Go.Sx
open Go Go.Proofs

theorem RGet_b (w : World) (o : Int) {p : Option Addr} {n : Nat} (c : Nat) {l : List (BitVec 8)} (t z : Int) (ha : By w p n l) :
    Spec Tryz.prog 56 #[.int .i64 o, .slice p n c, .int .i64 t, .int .i64 z] w (σ := Unit) (fun _ => True) (fun _ => .tuple #[b64 (getV o l t z), .int .i64 (getE o n t z)]) Nob (fun _ => []) := by
  refine enter Tryz.func56 rfl rfl (Mem.start w) ?_
  have hn := ha.len
  have hbig := ha.big
  (repeat refine g_seq ?_)
  refine g_region ?_
  refine g_pu rfl rfl rfl (pu_assign (v := b64 0#64) rfl rfl) ?_
  refine g_pu rfl rfl rfl (pu_assign rfl rfl) ?_
  refine g_nil ?_
  by_cases hs : ShapeOk o z
  · have hz := hs.2
    by_cases ht : t < 0
    · (repeat refine g_seq ?_)
      refine g_region ?_
      refine g_pu rfl rfl rfl (pu_move rfl rfl) ?_
      refine g_pu rfl rfl rfl (pu_move rfl rfl) ?_
      refine g_call [] rfl rfl rfl rfl rfl rfl (fun w' hm => rshape_b w' o z) (fun _ _ => ?_)
      refine g_as (t := 16) (u := .bool true) rfl (by rw [decide_eq_true hs]) rfl ?_
      refine g_pu rfl rfl rfl (pu_not rfl rfl) ?_
      refine g_pu rfl rfl rfl (pu_move rfl rfl) ?_
      first | refine g_pass rfl rfl rfl ?_ | refine g_pu rfl rfl rfl (pu_move rfl rfl) ?_
      first | refine g_pass rfl rfl rfl ?_ | refine g_pu rfl rfl rfl (pu_lss_t rfl rfl rfl (by omega)) ?_ | refine g_pu rfl rfl rfl (pu_lss_f rfl rfl rfl (by omega)) ?_ | refine g_pu rfl rfl rfl (pu_lss rfl rfl rfl) ?_
      first | refine g_pu rfl rfl rfl (pu_pick_t rfl rfl rfl) ?_ | refine g_pu rfl rfl rfl (pu_pick_f rfl rfl rfl) ?_
      refine g_nil ?_
      (repeat refine g_seq ?_)
      refine g_cond_t rfl ?_
      (repeat refine g_seq ?_)
      refine g_region ?_
      refine g_pu rfl rfl rfl (pu_assign (v := b64 0#64) rfl rfl) ?_
      refine g_pu rfl rfl rfl (pu_assign rfl rfl) ?_
      refine g_nil ?_
      refine g_ret2 rfl rfl rfl (fun w' hm => ⟨(), trivial, ?_, hm.grows [] trivial rfl⟩)
      have he : getE o n t z = 1 := by simp [getE, ht]
      simp [getV, hn, he]
    · obtain ⟨t, rfl⟩ := Int.eq_ofNat_of_zero_le (show 0 ≤ t by omega)
      obtain ⟨z, rfl⟩ := Int.eq_ofNat_of_zero_le (show 0 ≤ z by omega)
      (repeat refine g_seq ?_)
      refine g_region ?_
      refine g_pu rfl rfl rfl (pu_move rfl rfl) ?_
      refine g_pu rfl rfl rfl (pu_move rfl rfl) ?_
      refine g_call [] rfl rfl rfl rfl rfl rfl (fun w' hm => rshape_b w' o z) (fun _ _ => ?_)
      refine g_as (t := 16) (u := .bool true) rfl (by rw [decide_eq_true hs]) rfl ?_
      refine g_pu rfl rfl rfl (pu_not rfl rfl) ?_
      refine g_pu rfl rfl rfl (pu_move rfl rfl) ?_
      first | refine g_pass rfl rfl rfl ?_ | refine g_pu rfl rfl rfl (pu_move rfl rfl) ?_
      first | refine g_pass rfl rfl rfl ?_ | refine g_pu rfl rfl rfl (pu_lss_t rfl rfl rfl (by omega)) ?_ | refine g_pu rfl rfl rfl (pu_lss_f rfl rfl rfl (by omega)) ?_ | refine g_pu rfl rfl rfl (pu_lss rfl rfl rfl) ?_
      first | refine g_pu rfl rfl rfl (pu_pick_t rfl rfl rfl) ?_ | refine g_pu rfl rfl rfl (pu_pick_f rfl rfl rfl) ?_
      refine g_nil ?_
      (repeat refine g_seq ?_)
      refine g_cond_f rfl (g_skip ?_)
      by_cases hr : t + z ≤ n
      · (repeat refine g_seq ?_)
        refine g_region ?_
        refine g_pu rfl rfl rfl (pu_move rfl rfl) ?_
        refine g_pu rfl rfl rfl (pu_move rfl rfl) ?_
        first | refine g_pu rfl rfl rfl (pu_len rfl rfl) ?_ | refine g_pu rfl rfl rfl (pu_lenS rfl rfl) ?_
        first | refine g_pu rfl rfl rfl (pu_gtr_t rfl rfl rfl (by omega)) ?_ | refine g_pu rfl rfl rfl (pu_gtr_f rfl rfl rfl (by omega)) ?_ | refine g_pu rfl rfl rfl (pu_gtr rfl rfl rfl) ?_
        refine g_pu rfl rfl rfl (pu_move rfl rfl) ?_
        first | refine g_pass rfl rfl rfl ?_ | refine g_pu rfl rfl rfl (pu_move rfl rfl) ?_
        first | refine g_pass rfl rfl rfl ?_ | refine g_pu rfl rfl rfl (pu_move rfl rfl) ?_
        first | refine g_pass rfl rfl rfl ?_ | refine g_pu rfl rfl rfl (pu_len rfl rfl) ?_ | refine g_pu rfl rfl rfl (pu_lenS rfl rfl) ?_
        first | refine g_pass rfl rfl rfl ?_ | refine g_pu rfl rfl rfl (pu_move rfl rfl) ?_
        first | refine g_pass rfl rfl rfl ?_ | refine g_pu rfl rfl rfl (pu_subI rfl rfl rfl (by omega)) ?_
        first | refine g_pass rfl rfl rfl ?_ | refine g_pu rfl rfl rfl (pu_gtr_t rfl rfl rfl (by omega)) ?_ | refine g_pu rfl rfl rfl (pu_gtr_f rfl rfl rfl (by omega)) ?_ | refine g_pu rfl rfl rfl (pu_gtr rfl rfl rfl) ?_
        first | refine g_pu rfl rfl rfl (pu_pick_t rfl rfl rfl) ?_ | refine g_pu rfl rfl rfl (pu_pick_f rfl rfl rfl) ?_
        refine g_nil ?_
        (repeat refine g_seq ?_)
        refine g_cond_f rfl (g_skip ?_)
        have he : getE o n t z = 0 := by unfold getE; rw [if_neg (by omega), if_neg (by omega)]
        have hv : getV o l t z = beV (rdS o (win l t z)) := by simp [getV, hn, he]
        (repeat refine g_seq ?_)
        refine g_region ?_
        refine g_pu rfl rfl rfl (pu_assign (v := b64 0#64) rfl rfl) ?_
        refine g_nil ?_
        (repeat refine g_seq ?_)
        refine g_region ?_
        refine g_pu rfl rfl rfl (pu_assign (v := b64 1#64) rfl rfl) ?_
        refine g_nil ?_
        (repeat refine g_seq ?_)
        refine g_region ?_
        refine g_pu rfl rfl rfl (pu_assign rfl rfl) ?_
        refine g_nil ?_
        have hul : (rdS o (win l t z)).reverse.length = z := by rw [List.length_reverse, rdS_length, win_length (by omega)]
        refine g_block (g_loop2 (fun (i : Nat) (x : BitVec 64) => [(0, .int .i64 o), (1, .slice p n c), (2, .int .i64 (t : Int)), (3, .int .i64 (z : Int)), (10, b64 x), (11, b64 (256#64 ^ i)), (12, .int .i64 (i : Int))]) (fun _ _ => []) (fun i x => i ≤ z ∧ x = leV ((rdS o (win l t z)).reverse.take i)) (fun i _ => z - i) 0 0#64 ⟨rfl, rfl, rfl, rfl, rfl, rfl, rfl, trivial⟩ trivial (by simp [leV]) ?_)
        intro i x ⟨hi, hx⟩
        by_cases hlt : i < z
        · (repeat refine g_seq ?_)
          refine g_region ?_
          refine g_pu rfl rfl rfl (pu_move rfl rfl) ?_
          refine g_pu rfl rfl rfl (pu_move rfl rfl) ?_
          first | refine g_pu rfl rfl rfl (pu_lss_t rfl rfl rfl (by omega)) ?_ | refine g_pu rfl rfl rfl (pu_lss_f rfl rfl rfl (by omega)) ?_ | refine g_pu rfl rfl rfl (pu_lss rfl rfl rfl) ?_
          refine g_nil ?_
          (repeat refine g_seq ?_)
          refine g_cond_t rfl (g_skip ?_)
          have hl := rdSr_get (o := o) (l := l) (t := t) (z := z) (i := i) (by omega) hlt
          (repeat refine g_seq ?_); refine g_block ?_
          (repeat refine g_seq ?_)
          refine g_region ?_
          refine g_pu rfl rfl rfl (pu_move rfl rfl) ?_
          refine g_pu rfl rfl rfl (pu_move rfl rfl) ?_
          refine g_pu rfl rfl rfl (pu_addI rfl rfl rfl (by omega)) ?_
          refine g_pu rfl rfl rfl (pu_assign rfl rfl) ?_
          refine g_nil ?_
          refine g_seq ?_
          refine g_join (σ := Int) (fun k => [(0, .int .i64 o), (1, .slice p n c), (2, .int .i64 (t : Int)), (3, .int .i64 (z : Int)), (10, b64 x), (11, b64 (256#64 ^ i)), (12, .int .i64 (i : Int)), (13, .int .i64 k)]) (fun _ => []) (fun k => k = if o = 2 then (t : Int) + z - 1 - i else t + i) ?_ (fun k hk => ?_)
          · rcases hs.1 with h1 | h1
            · (repeat refine g_seq ?_)
              refine g_region ?_
              refine g_pu rfl rfl rfl (pu_move rfl rfl) ?_
              first | refine g_pu rfl rfl rfl (pu_eql_t rfl rfl rfl (by omega)) ?_ | refine g_pu rfl rfl rfl (pu_eql_f rfl rfl rfl (by omega)) ?_ | refine g_pu rfl rfl rfl (pu_eql rfl rfl rfl) ?_
              refine g_nil ?_
              (repeat refine g_seq ?_)
              refine g_cond_f rfl (g_skip ?_)
              exact g_meet _ (by rw [if_neg (by omega)]) ⟨rfl, rfl, rfl, rfl, rfl, rfl, rfl, rfl, trivial⟩ trivial
            · (repeat refine g_seq ?_)
              refine g_region ?_
              refine g_pu rfl rfl rfl (pu_move rfl rfl) ?_
              first | refine g_pu rfl rfl rfl (pu_eql_t rfl rfl rfl (by omega)) ?_ | refine g_pu rfl rfl rfl (pu_eql_f rfl rfl rfl (by omega)) ?_ | refine g_pu rfl rfl rfl (pu_eql rfl rfl rfl) ?_
              refine g_nil ?_
              (repeat refine g_seq ?_)
              refine g_cond_t rfl ?_
              (repeat refine g_seq ?_)
              refine g_region ?_
              refine g_pu rfl rfl rfl (pu_move rfl rfl) ?_
              refine g_pu rfl rfl rfl (pu_move rfl rfl) ?_
              refine g_pu rfl rfl rfl (pu_addI rfl rfl rfl (by omega)) ?_
              refine g_pu rfl rfl rfl (pu_subI rfl rfl rfl (by omega)) ?_
              refine g_pu rfl rfl rfl (pu_move rfl rfl) ?_
              refine g_pu rfl rfl rfl (pu_subI rfl rfl rfl (by omega)) ?_
              refine g_pu rfl rfl rfl (pu_assign rfl rfl) ?_
              refine g_nil ?_
              exact g_meet _ (by rw [if_pos h1]) ⟨rfl, rfl, rfl, rfl, rfl, rfl, rfl, rfl, trivial⟩ trivial
          · have hkn : k = ((if o = 2 then t + z - 1 - i else t + i : Nat) : Int) := by rw [hk]; split <;> omega
            have hlt2 : (if o = 2 then t + z - 1 - i else t + i) < n := by split <;> omega
            generalize (if o = 2 then t + z - 1 - i else t + i) = j at hkn hlt2 hl
            have h1 : l[j]? = some l[j] := List.getElem?_eq_getElem (by omega)
            rw [h1] at hl
            (repeat refine g_seq ?_)
            refine g_region ?_
            refine g_pu rfl rfl rfl (pu_move rfl rfl) ?_
            refine g_pu rfl rfl rfl (pu_move rfl rfl) ?_
            refine g_pu rfl rfl rfl (pu_move rfl rfl) ?_
            refine g_pu rfl rfl rfl (pu_move rfl rfl) ?_
            refine g_pu rfl rfl rfl (pu_atB j (fun w' hm => ha.m hm) rfl rfl rfl (by omega) (by omega)) ?_
            refine g_pu rfl rfl rfl (pu_rdB (fun w' hm => ha.m hm) rfl rfl h1) ?_
            refine g_pu rfl rfl rfl (pu_conv8_64 rfl rfl) ?_
            refine g_pu rfl rfl rfl (pu_mul64 rfl rfl rfl) ?_
            refine g_pu rfl rfl rfl (pu_add64 rfl rfl rfl) ?_
            refine g_pu rfl rfl rfl (pu_assign rfl rfl) ?_
            refine g_nil ?_
            (repeat refine g_seq ?_)
            refine g_region ?_
            refine g_pu rfl rfl rfl (pu_move rfl rfl) ?_
            refine g_pu rfl rfl rfl (pu_mul64 (b := 256#64) rfl rfl rfl) ?_
            refine g_pu rfl rfl rfl (pu_assign rfl rfl) ?_
            refine g_nil ?_
            refine g_blk ?_
            (repeat refine g_seq ?_)
            refine g_region ?_
            refine g_pu rfl rfl rfl (pu_move rfl rfl) ?_
            refine g_pu rfl rfl rfl (pu_addI rfl rfl rfl (by omega)) ?_
            refine g_pu rfl rfl rfl (pu_assign rfl rfl) ?_
            refine g_nil ?_
            refine g_round2 (i + 1) _ ⟨by omega, ?_⟩ (by omega) ⟨rfl, rfl, rfl, rfl, rfl, rfl, rfl, trivial⟩ trivial
            rw [List.take_add_one, hl, Option.toList_some, leV_snoc, List.length_take, hul, Nat.min_eq_left (by omega), hx]
        · (repeat refine g_seq ?_)
          refine g_region ?_
          refine g_pu rfl rfl rfl (pu_move rfl rfl) ?_
          refine g_pu rfl rfl rfl (pu_move rfl rfl) ?_
          first | refine g_pu rfl rfl rfl (pu_lss_t rfl rfl rfl (by omega)) ?_ | refine g_pu rfl rfl rfl (pu_lss_f rfl rfl rfl (by omega)) ?_ | refine g_pu rfl rfl rfl (pu_lss rfl rfl rfl) ?_
          refine g_nil ?_
          (repeat refine g_seq ?_)
          refine g_cond_f rfl (g_exit rfl ?_)
          (repeat refine g_seq ?_)
          refine g_region ?_
          refine g_pu rfl rfl rfl (pu_move rfl rfl) ?_
          refine g_pu rfl rfl rfl (pu_assign rfl rfl) ?_
          refine g_pu rfl rfl rfl (pu_assign rfl rfl) ?_
          refine g_nil ?_
          have e : i = z := by omega
          subst e
          rw [List.take_of_length_le (by omega)] at hx
          exact g_ret2 rfl rfl rfl (fun w' hm => ⟨(), trivial, by rw [he, hv, hx, beV_rev], hm.grows [] trivial rfl⟩)
      · have he : getE o n t z = 2 := by unfold getE; rw [if_neg (by omega), if_pos (by omega)]
        by_cases h1 : z > n
        · (repeat refine g_seq ?_)
          refine g_region ?_
          refine g_pu rfl rfl rfl (pu_move rfl rfl) ?_
          refine g_pu rfl rfl rfl (pu_move rfl rfl) ?_
          first | refine g_pu rfl rfl rfl (pu_len rfl rfl) ?_ | refine g_pu rfl rfl rfl (pu_lenS rfl rfl) ?_
          first | refine g_pu rfl rfl rfl (pu_gtr_t rfl rfl rfl (by omega)) ?_ | refine g_pu rfl rfl rfl (pu_gtr_f rfl rfl rfl (by omega)) ?_ | refine g_pu rfl rfl rfl (pu_gtr rfl rfl rfl) ?_
          refine g_pu rfl rfl rfl (pu_move rfl rfl) ?_
          first | refine g_pass rfl rfl rfl ?_ | refine g_pu rfl rfl rfl (pu_move rfl rfl) ?_
          first | refine g_pass rfl rfl rfl ?_ | refine g_pu rfl rfl rfl (pu_move rfl rfl) ?_
          first | refine g_pass rfl rfl rfl ?_ | refine g_pu rfl rfl rfl (pu_len rfl rfl) ?_ | refine g_pu rfl rfl rfl (pu_lenS rfl rfl) ?_
          first | refine g_pass rfl rfl rfl ?_ | refine g_pu rfl rfl rfl (pu_move rfl rfl) ?_
          first | refine g_pass rfl rfl rfl ?_ | refine g_pu rfl rfl rfl (pu_subI rfl rfl rfl (by omega)) ?_
          first | refine g_pass rfl rfl rfl ?_ | refine g_pu rfl rfl rfl (pu_gtr_t rfl rfl rfl (by omega)) ?_ | refine g_pu rfl rfl rfl (pu_gtr_f rfl rfl rfl (by omega)) ?_ | refine g_pu rfl rfl rfl (pu_gtr rfl rfl rfl) ?_
          first | refine g_pu rfl rfl rfl (pu_pick_t rfl rfl rfl) ?_ | refine g_pu rfl rfl rfl (pu_pick_f rfl rfl rfl) ?_
          refine g_nil ?_
          (repeat refine g_seq ?_)
          refine g_cond_t rfl ?_
          (repeat refine g_seq ?_)
          refine g_region ?_
          refine g_pu rfl rfl rfl (pu_assign (v := b64 0#64) rfl rfl) ?_
          refine g_pu rfl rfl rfl (pu_assign rfl rfl) ?_
          refine g_nil ?_
          exact g_ret2 rfl rfl rfl (fun w' hm => ⟨(), trivial, by simp [getV, hn, he], hm.grows [] trivial rfl⟩)
        · (repeat refine g_seq ?_)
          refine g_region ?_
          refine g_pu rfl rfl rfl (pu_move rfl rfl) ?_
          refine g_pu rfl rfl rfl (pu_move rfl rfl) ?_
          first | refine g_pu rfl rfl rfl (pu_len rfl rfl) ?_ | refine g_pu rfl rfl rfl (pu_lenS rfl rfl) ?_
          first | refine g_pu rfl rfl rfl (pu_gtr_t rfl rfl rfl (by omega)) ?_ | refine g_pu rfl rfl rfl (pu_gtr_f rfl rfl rfl (by omega)) ?_ | refine g_pu rfl rfl rfl (pu_gtr rfl rfl rfl) ?_
          refine g_pu rfl rfl rfl (pu_move rfl rfl) ?_
          first | refine g_pass rfl rfl rfl ?_ | refine g_pu rfl rfl rfl (pu_move rfl rfl) ?_
          first | refine g_pass rfl rfl rfl ?_ | refine g_pu rfl rfl rfl (pu_move rfl rfl) ?_
          first | refine g_pass rfl rfl rfl ?_ | refine g_pu rfl rfl rfl (pu_len rfl rfl) ?_ | refine g_pu rfl rfl rfl (pu_lenS rfl rfl) ?_
          first | refine g_pass rfl rfl rfl ?_ | refine g_pu rfl rfl rfl (pu_move rfl rfl) ?_
          first | refine g_pass rfl rfl rfl ?_ | refine g_pu rfl rfl rfl (pu_subI rfl rfl rfl (by omega)) ?_
          first | refine g_pass rfl rfl rfl ?_ | refine g_pu rfl rfl rfl (pu_gtr_t rfl rfl rfl (by omega)) ?_ | refine g_pu rfl rfl rfl (pu_gtr_f rfl rfl rfl (by omega)) ?_ | refine g_pu rfl rfl rfl (pu_gtr rfl rfl rfl) ?_
          first | refine g_pu rfl rfl rfl (pu_pick_t rfl rfl rfl) ?_ | refine g_pu rfl rfl rfl (pu_pick_f rfl rfl rfl) ?_
          refine g_nil ?_
          (repeat refine g_seq ?_)
          refine g_cond_t rfl ?_
          (repeat refine g_seq ?_)
          refine g_region ?_
          refine g_pu rfl rfl rfl (pu_assign (v := b64 0#64) rfl rfl) ?_
          refine g_pu rfl rfl rfl (pu_assign rfl rfl) ?_
          refine g_nil ?_
          exact g_ret2 rfl rfl rfl (fun w' hm => ⟨(), trivial, by simp [getV, hn, he], hm.grows [] trivial rfl⟩)
  · (repeat refine g_seq ?_)
    refine g_region ?_
    refine g_pu rfl rfl rfl (pu_move rfl rfl) ?_
    refine g_pu rfl rfl rfl (pu_move rfl rfl) ?_
    refine g_call [] rfl rfl rfl rfl rfl rfl (fun w' hm => rshape_b w' o z) (fun _ _ => ?_)
    refine g_as (t := 16) (u := .bool false) rfl (by rw [decide_eq_false hs]) rfl ?_
    refine g_pu rfl rfl rfl (pu_not rfl rfl) ?_
    refine g_pu rfl rfl rfl (pu_move rfl rfl) ?_
    first | refine g_pass rfl rfl rfl ?_ | refine g_pu rfl rfl rfl (pu_move rfl rfl) ?_
    first | refine g_pass rfl rfl rfl ?_ | refine g_pu rfl rfl rfl (pu_lss_t rfl rfl rfl (by omega)) ?_ | refine g_pu rfl rfl rfl (pu_lss_f rfl rfl rfl (by omega)) ?_ | refine g_pu rfl rfl rfl (pu_lss rfl rfl rfl) ?_
    first | refine g_pu rfl rfl rfl (pu_pick_t rfl rfl rfl) ?_ | refine g_pu rfl rfl rfl (pu_pick_f rfl rfl rfl) ?_
    refine g_nil ?_
    (repeat refine g_seq ?_)
    refine g_cond_t rfl ?_
    (repeat refine g_seq ?_)
    refine g_region ?_
    refine g_pu rfl rfl rfl (pu_assign (v := b64 0#64) rfl rfl) ?_
    refine g_pu rfl rfl rfl (pu_assign rfl rfl) ?_
    refine g_nil ?_
    refine g_ret2 rfl rfl rfl (fun w' hm => ⟨(), trivial, ?_, hm.grows [] trivial rfl⟩)
    have he : getE o n t z = 1 := by unfold getE; rw [if_pos (.inl hs)]
    simp [getV, hn, he]
end Go.Sx

/-
  Copies of lists of bytes; the place by place turning of lists, of the codec and of its reference. A list of lists takes at most 2^47 bytes.
-/
namespace Go.Sx
open Go Go.Proofs

/-! ## Turning lists by one another -/
theorem ByL.cut {w : World} {p : Option Addr} {n c : Nat} {L : List Value} {ls : List (List (BitVec 8))} (h : ByL w p n L ls) (hc : n ≤ c) (j : Nat) : ByL w (cutp p c j 1) (n - j) (L.drop j) (ls.drop j) := by
  refine ⟨h.rd.cut (by rw [h.len]; exact hc), by rw [List.length_drop, h.len], ⟨by simp [h.els.1], fun i x y hx hy => ?_⟩, by have := h.big; omega⟩
  rw [List.getElem?_drop] at hx hy
  exact h.els.2 _ x y hx hy

end Go.Sx

/-
  The reference's turning of lists by one another. A list of lists takes at most 2^47 bytes.
-/
namespace Go.Sx
open Go Go.Proofs

end Go.Sx

/-
  Writing a number as bytes: the codec's way, its reference's way, and that it is read back.
-/
namespace Go.Sx
open Go Go.Proofs

theorem get_set (m : List (BitVec 8)) (i k : Nat) (x : BitVec 8) (hi : i < m.length) : (m.set i x)[k]? = if i = k then some x else m[k]? := by
  rw [List.getElem?_set]
  split
  · rfl
  · rfl
theorem bs_set (m : List (BitVec 8)) (J : List Value) (i : Nat) (x : BitVec 8) (hi : i < m.length) : (bs m ++ J).set i (b8 x) = bs (m.set i x) ++ J := by
  rw [List.set_append_left _ _ (by rw [bs_length]; exact hi)]
  simp [bs, List.map_set]
theorem bs_load {m : List (BitVec 8)} {J : List Value} {i : Nat} {x : BitVec 8} (h : m[i]? = some x) : (bs m ++ J).toArray[0 + i]? = some (b8 x) := by
  have hi := (List.getElem?_eq_some_iff.1 h).1
  rw [Nat.zero_add, List.getElem?_toArray, List.getElem?_append_left (by rw [bs_length]; exact hi)]
  exact bs_get h

theorem Reverse_b (w : World) (x : Ow) {n : Nat} {l : List (BitVec 8)} (h : Own 5 1 x.p x.c (bs l) w) (hb : ∀ j, At x.p j → j < w.heap.size) (hn : l.length = n) (hbig : n ≤ 140737488355328) :
    Spec Tryz.prog 112 #[x.sl n] w (σ := Unit) (fun _ => True) (fun _ => .tuple #[]) (At x.p) (fun _ => [x.ck 5 1 (bs l.reverse)]) := by
  obtain ⟨p, c⟩ := x
  refine enter Tryz.func112 rfl rfl (Mem.start1 (.fact (At p) (Own 5 1 p c (bs l))) h Own.loc hb) ?_
  (repeat refine g_seq ?_)
  refine g_region ?_
  refine g_pu rfl rfl rfl (pu_move rfl rfl) ?_
  first | refine g_pu rfl rfl rfl (pu_len rfl rfl) ?_ | refine g_pu rfl rfl rfl (pu_lenS rfl rfl) ?_
  refine g_pu rfl rfl rfl (pu_subI rfl rfl rfl (by omega)) ?_
  refine g_pu rfl rfl rfl (pu_assign rfl rfl) ?_
  refine g_pu rfl rfl rfl (pu_assign rfl rfl) ?_
  refine g_nil ?_
  refine g_block (g_loop2 (fun (i : Nat) (m : List (BitVec 8)) => [(0, .slice p n c), (2, .int .i64 (i : Int)), (3, .int .i64 ((n : Int) - 1 - i))]) (fun _ m => [(0, .fact (At p) (Own 5 1 p c (bs m)))])
    (fun i m => 2 * i ≤ n + 1 ∧ m.length = n ∧ ∀ k, k < n → m[k]? = if k < i ∨ n - 1 - k < i then l[n - 1 - k]? else l[k]?) (fun i _ => n - i) 0 l ⟨rfl, rfl, congrArg (fun z => some (Value.int .i64 z)) (by omega), trivial⟩ ⟨rfl, trivial⟩ ⟨by omega, hn, fun k hk => by simp⟩ ?_)
  intro i m ⟨hi, hml, hm⟩
  by_cases hlt : 2 * i + 1 < n
  · (repeat refine g_seq ?_)
    refine g_region ?_
    refine g_pu rfl rfl rfl (pu_move rfl rfl) ?_
    refine g_pu rfl rfl rfl (pu_move rfl rfl) ?_
    first | refine g_pu rfl rfl rfl (pu_lss_t rfl rfl rfl (by omega)) ?_ | refine g_pu rfl rfl rfl (pu_lss_f rfl rfl rfl (by omega)) ?_ | refine g_pu rfl rfl rfl (pu_lss rfl rfl rfl) ?_
    refine g_nil ?_
    (repeat refine g_seq ?_)
    refine g_cond_t rfl (g_skip ?_)
    obtain ⟨j, hj⟩ : ∃ j, j = n - 1 - i := ⟨_, rfl⟩
    have h1 : m[i]? = some m[i] := List.getElem?_eq_getElem (by omega)
    have h2 : m[j]? = some m[j] := List.getElem?_eq_getElem (by omega)
    have h3 := hm i (by omega)
    have h4 := hm j (by omega)
    rw [if_neg (by omega), h1] at h3
    rw [if_neg (by omega), h2] at h4
    generalize m[i] = y at h1 h3
    generalize m[j] = z at h2 h4
    (repeat refine g_seq ?_); refine g_block ?_
    refine g_row 0 rfl (by rw [bs_length]; omega) (fun bb J hp hJ hcap => ?_)
    subst hp
    (repeat refine g_seq ?_)
    refine g_any (13, [2, 3]) ?_
    refine a_pu 0 rfl rfl rfl rfl (pu_move rfl rfl) rfl rfl (by kernel_rfl) ?_
    refine a_pu 1 rfl rfl rfl rfl (pu_move rfl rfl) rfl rfl (by kernel_rfl) ?_
    first | refine a_mv 2 rfl rfl rfl rfl (fun _ => (pu_move rfl rfl)) rfl rfl rfl (by kernel_rfl) (by kernel_rfl) (by kernel_rfl) rfl ?_
    first | refine a_mv 3 rfl rfl rfl rfl (fun _ => (pu_move rfl rfl)) rfl rfl rfl (by kernel_rfl) (by kernel_rfl) (by kernel_rfl) rfl ?_
    refine a_pu 4 rfl rfl rfl rfl (pu_move rfl rfl) rfl rfl (by kernel_rfl) ?_
    refine a_pu 5 rfl rfl rfl rfl (pu_move rfl rfl) rfl rfl (by kernel_rfl) ?_
    refine a_pu 6 rfl rfl rfl rfl (pu_at1 j rfl rfl rfl (by omega) (by omega)) rfl rfl (by kernel_rfl) ?_
    refine a_pu 7 rfl rfl rfl rfl (pu_load 0 rfl rfl rfl (bs_load h2)) rfl rfl (by kernel_rfl) ?_
    refine a_pu 8 rfl rfl rfl rfl (pu_move rfl rfl) rfl rfl (by kernel_rfl) ?_
    refine a_pu 9 rfl rfl rfl rfl (pu_move rfl rfl) rfl rfl (by kernel_rfl) ?_
    refine a_pu 10 rfl rfl rfl rfl (pu_at1 i rfl rfl rfl rfl (by omega)) rfl rfl (by kernel_rfl) ?_
    refine a_pu 11 rfl rfl rfl rfl (pu_load 0 rfl rfl rfl (bs_load h1)) rfl rfl (by kernel_rfl) ?_
    refine a_pu 12 rfl rfl rfl rfl (pu_at1 i rfl rfl rfl rfl (by omega)) rfl rfl (by kernel_rfl) ?_
    refine a_tail [13, 14, 15] (by kernel_rfl) rfl rfl (by kernel_rfl) ?_
    refine g_store 0 (v := b8 z) rfl rfl rfl rfl rfl rfl rfl (by rw [List.length_append, bs_length]; omega) ?_
    rw [Nat.zero_add, bs_set m J i z (by omega)]
    refine g_pu rfl rfl rfl (pu_at1 j rfl rfl rfl (by omega) (by omega)) ?_
    refine g_store 0 (v := b8 y) rfl rfl rfl rfl rfl rfl rfl (by rw [List.length_append, bs_length, List.length_set]; omega) ?_
    rw [Nat.zero_add, bs_set (m.set i z) J j y (by rw [List.length_set]; omega)]
    refine g_nil ?_
    refine g_own 0 (L := bs ((m.set i z).set j y)) (J := J) (c := c) (s := 1) rfl (by simpa [bs_length] using hJ) hcap ?_
    refine g_blk ?_
    (repeat refine g_seq ?_)
    refine g_region ?_
    refine g_pu rfl rfl rfl (pu_move rfl rfl) ?_
    refine g_pu rfl rfl rfl (pu_addI rfl rfl rfl (by omega)) ?_
    refine g_pu rfl rfl rfl (pu_move rfl rfl) ?_
    refine g_pu rfl rfl rfl (pu_subI rfl rfl rfl (by omega)) ?_
    refine g_pu rfl rfl rfl (pu_assign rfl rfl) ?_
    refine g_pu rfl rfl rfl (pu_assign rfl rfl) ?_
    refine g_nil ?_
    refine g_round2 (i + 1) ((m.set i z).set j y) ⟨by omega, by simp [hml], fun k hk => ?_⟩ (by omega) ⟨rfl, rfl, congrArg (fun z => some (Value.int .i64 z)) (by omega), trivial⟩ ⟨rfl, trivial⟩
    rw [get_set _ _ _ _ (by rw [List.length_set]; omega), get_set _ _ _ _ (by omega)]
    by_cases hkj : j = k
    · subst hkj
      rw [if_pos rfl, if_pos (by omega), h3]
      congr 1; omega
    · rw [if_neg hkj]
      by_cases hki : i = k
      · subst hki
        rw [if_pos rfl, if_pos (by omega), h4, hj]
      · rw [if_neg hki, hm k hk]
        by_cases hc : k < i ∨ n - 1 - k < i
        · rw [if_pos hc, if_pos (by omega)]
        · rw [if_neg hc, if_neg (by omega)]
  · (repeat refine g_seq ?_)
    refine g_region ?_
    refine g_pu rfl rfl rfl (pu_move rfl rfl) ?_
    refine g_pu rfl rfl rfl (pu_move rfl rfl) ?_
    first | refine g_pu rfl rfl rfl (pu_lss_t rfl rfl rfl (by omega)) ?_ | refine g_pu rfl rfl rfl (pu_lss_f rfl rfl rfl (by omega)) ?_ | refine g_pu rfl rfl rfl (pu_lss rfl rfl rfl) ?_
    refine g_nil ?_
    (repeat refine g_seq ?_)
    refine g_cond_f rfl (g_exit rfl ?_)
    have e : m = l.reverse := by
      apply List.ext_getElem?
      intro k
      by_cases hk : k < n
      · rw [hm k hk, List.getElem?_reverse (by omega), hn]
        split
        · rfl
        · congr 1; omega
      · rw [List.getElem?_eq_none (by omega), List.getElem?_eq_none (by simp; omega)]
    subst e
    exact g_end0 rfl (fun w' hm => ⟨(), trivial, rfl, hm.grows [0] ⟨rfl, trivial⟩ rfl⟩)
end Go.Sx
