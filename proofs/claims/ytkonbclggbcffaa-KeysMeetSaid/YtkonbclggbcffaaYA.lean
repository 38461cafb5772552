import Derived.Test.YtkonbclggbcffaaXC
import Derived.Test.YtkonbclggbcffaaProg
import Derived.KernelRfl
set_option linter.unusedVariables false
set_option linter.unusedSimpArgs false
/- Closed facts on the types of this seat's translation. -/
namespace Go.Sx
open Go Go.Proofs
instance : Mix Try.prog := ⟨by kernel_rfl⟩
instance : Und Try.prog 2 (.int .i64) := ⟨Try.underlying2⟩
instance : Siz Try.prog 2 1 := ⟨by kernel_rfl⟩
instance : Byt Try.prog 2 8 := ⟨by kernel_rfl⟩
instance : Agg Try.prog 2 false := ⟨by kernel_rfl⟩
instance : One Try.prog 2 := ⟨by kernel_rfl⟩
instance : Zer Try.prog 2 (.int .i64 0) := ⟨by kernel_rfl⟩
instance : Und Try.prog 3 (.int .i64) := ⟨Try.underlying3⟩
instance : Siz Try.prog 3 1 := ⟨by kernel_rfl⟩
instance : Byt Try.prog 3 8 := ⟨by kernel_rfl⟩
instance : Agg Try.prog 3 false := ⟨by kernel_rfl⟩
instance : One Try.prog 3 := ⟨by kernel_rfl⟩
instance : Zer Try.prog 3 (.int .i64 0) := ⟨by kernel_rfl⟩
instance : Und Try.prog 4 .bool := ⟨Try.underlying4⟩
instance : Siz Try.prog 4 1 := ⟨by kernel_rfl⟩
instance : Byt Try.prog 4 1 := ⟨by kernel_rfl⟩
instance : Agg Try.prog 4 false := ⟨by kernel_rfl⟩
instance : One Try.prog 4 := ⟨by kernel_rfl⟩
instance : Zer Try.prog 4 (.bool false) := ⟨by kernel_rfl⟩
instance : Und Try.prog 5 (.int .u8) := ⟨Try.underlying5⟩
instance : Siz Try.prog 5 1 := ⟨by kernel_rfl⟩
instance : Byt Try.prog 5 1 := ⟨by kernel_rfl⟩
instance : Agg Try.prog 5 false := ⟨by kernel_rfl⟩
instance : One Try.prog 5 := ⟨by kernel_rfl⟩
instance : Zer Try.prog 5 (b8 0#8) := ⟨by kernel_rfl⟩
instance : Siz Try.prog 7 4 := ⟨by kernel_rfl⟩
instance : Byt Try.prog 7 24 := ⟨by kernel_rfl⟩
instance : Agg Try.prog 7 true := ⟨by kernel_rfl⟩
instance : Plc Try.prog 7 [(0, 1), (1, 1), (2, 1), (3, 1)] := ⟨by kernel_rfl⟩
instance : Ngd Try.prog 7 := ⟨by kernel_rfl⟩
instance : Zer Try.prog 7 (.agg (List.toArray [(.int .i64 0), (.int .i64 0), (.bool false), (b8 0#8)])) := ⟨by kernel_rfl⟩
instance : Und Try.prog 9 .string := ⟨Try.underlying9⟩
instance : Siz Try.prog 9 1 := ⟨by kernel_rfl⟩
instance : Byt Try.prog 9 16 := ⟨by kernel_rfl⟩
instance : Agg Try.prog 9 false := ⟨by kernel_rfl⟩
instance : One Try.prog 9 := ⟨by kernel_rfl⟩
instance : Zer Try.prog 9 (.string .empty) := ⟨by kernel_rfl⟩
instance : Und Try.prog 12 (.int .u64) := ⟨Try.underlying12⟩
instance : Siz Try.prog 12 1 := ⟨by kernel_rfl⟩
instance : Byt Try.prog 12 8 := ⟨by kernel_rfl⟩
instance : Agg Try.prog 12 false := ⟨by kernel_rfl⟩
instance : One Try.prog 12 := ⟨by kernel_rfl⟩
instance : Zer Try.prog 12 (b64 0#64) := ⟨by kernel_rfl⟩
instance : Siz Try.prog 13 2 := ⟨by kernel_rfl⟩
instance : Byt Try.prog 13 24 := ⟨by kernel_rfl⟩
instance : Agg Try.prog 13 true := ⟨by kernel_rfl⟩
instance : Plc Try.prog 13 [(0, 1), (1, 1)] := ⟨by kernel_rfl⟩
instance : Ngd Try.prog 13 := ⟨by kernel_rfl⟩
instance : Zer Try.prog 13 (.agg (List.toArray [(.string .empty), (b64 0#64)])) := ⟨by kernel_rfl⟩
instance : Siz Try.prog 18 1 := ⟨by kernel_rfl⟩
instance : Byt Try.prog 18 8 := ⟨by kernel_rfl⟩
instance : Agg Try.prog 18 true := ⟨by kernel_rfl⟩
instance : Plc Try.prog 18 [(0, 1)] := ⟨by kernel_rfl⟩
instance : Ngd Try.prog 18 := ⟨by kernel_rfl⟩
instance : Zer Try.prog 18 (.agg (List.toArray [(.pointer none)])) := ⟨by kernel_rfl⟩
instance : Und Try.prog 21 (.int .i32) := ⟨Try.underlying21⟩
instance : Siz Try.prog 21 1 := ⟨by kernel_rfl⟩
instance : Byt Try.prog 21 4 := ⟨by kernel_rfl⟩
instance : Agg Try.prog 21 false := ⟨by kernel_rfl⟩
instance : One Try.prog 21 := ⟨by kernel_rfl⟩
instance : Zer Try.prog 21 (.int .i32 0) := ⟨by kernel_rfl⟩
instance : Und Try.prog 22 (.slice 5) := ⟨Try.underlying22⟩
instance : Siz Try.prog 22 1 := ⟨by kernel_rfl⟩
instance : Byt Try.prog 22 24 := ⟨by kernel_rfl⟩
instance : Agg Try.prog 22 false := ⟨by kernel_rfl⟩
instance : One Try.prog 22 := ⟨by kernel_rfl⟩
instance : Zer Try.prog 22 (.slice none 0 0) := ⟨by kernel_rfl⟩
instance : Und Try.prog 24 (.array 32 5) := ⟨Try.underlying24⟩
instance : Siz Try.prog 24 32 := ⟨by kernel_rfl⟩
instance : Byt Try.prog 24 32 := ⟨by kernel_rfl⟩
instance : Agg Try.prog 24 true := ⟨by kernel_rfl⟩
instance : Ngd Try.prog 24 := ⟨by kernel_rfl⟩
instance : Zer Try.prog 24 (.agg (List.toArray [(b8 0#8), (b8 0#8), (b8 0#8), (b8 0#8), (b8 0#8), (b8 0#8), (b8 0#8), (b8 0#8), (b8 0#8), (b8 0#8), (b8 0#8), (b8 0#8), (b8 0#8), (b8 0#8), (b8 0#8), (b8 0#8), (b8 0#8), (b8 0#8), (b8 0#8), (b8 0#8), (b8 0#8), (b8 0#8), (b8 0#8), (b8 0#8), (b8 0#8), (b8 0#8), (b8 0#8), (b8 0#8), (b8 0#8), (b8 0#8), (b8 0#8), (b8 0#8)])) := ⟨by kernel_rfl⟩
instance : Siz Try.prog 25 128 := ⟨by kernel_rfl⟩
instance : Byt Try.prog 25 128 := ⟨by kernel_rfl⟩
instance : Agg Try.prog 25 true := ⟨by kernel_rfl⟩
instance : Plc Try.prog 25 [(0, 32), (32, 32), (64, 32), (96, 32)] := ⟨by kernel_rfl⟩
instance : Ngd Try.prog 25 := ⟨by kernel_rfl⟩
instance : Siz Try.prog 26 128 := ⟨by kernel_rfl⟩
instance : Byt Try.prog 26 128 := ⟨by kernel_rfl⟩
instance : Agg Try.prog 26 true := ⟨by kernel_rfl⟩
instance : Plc Try.prog 26 [(0, 32), (32, 32), (64, 32), (96, 32)] := ⟨by kernel_rfl⟩
instance : Ngd Try.prog 26 := ⟨by kernel_rfl⟩
instance : Und Try.prog 27 (.int .i64) := ⟨Try.underlying27⟩
instance : Siz Try.prog 27 1 := ⟨by kernel_rfl⟩
instance : Byt Try.prog 27 8 := ⟨by kernel_rfl⟩
instance : Agg Try.prog 27 false := ⟨by kernel_rfl⟩
instance : One Try.prog 27 := ⟨by kernel_rfl⟩
instance : Zer Try.prog 27 (.int .i64 0) := ⟨by kernel_rfl⟩
instance : Und Try.prog 34 (.slice 22) := ⟨Try.underlying34⟩
instance : Siz Try.prog 34 1 := ⟨by kernel_rfl⟩
instance : Byt Try.prog 34 24 := ⟨by kernel_rfl⟩
instance : Agg Try.prog 34 false := ⟨by kernel_rfl⟩
instance : One Try.prog 34 := ⟨by kernel_rfl⟩
instance : Zer Try.prog 34 (.slice none 0 0) := ⟨by kernel_rfl⟩
instance : Und Try.prog 37 (.slice 43) := ⟨Try.underlying37⟩
instance : Siz Try.prog 37 1 := ⟨by kernel_rfl⟩
instance : Byt Try.prog 37 24 := ⟨by kernel_rfl⟩
instance : Agg Try.prog 37 false := ⟨by kernel_rfl⟩
instance : One Try.prog 37 := ⟨by kernel_rfl⟩
instance : Zer Try.prog 37 (.slice none 0 0) := ⟨by kernel_rfl⟩
instance : Siz Try.prog 42 192 := ⟨by kernel_rfl⟩
instance : Byt Try.prog 42 192 := ⟨by kernel_rfl⟩
instance : Agg Try.prog 42 true := ⟨by kernel_rfl⟩
instance : Plc Try.prog 42 [(0, 128), (128, 32), (160, 32)] := ⟨by kernel_rfl⟩
instance : Ngd Try.prog 42 := ⟨by kernel_rfl⟩
instance : Siz Try.prog 43 192 := ⟨by kernel_rfl⟩
instance : Byt Try.prog 43 192 := ⟨by kernel_rfl⟩
instance : Agg Try.prog 43 true := ⟨by kernel_rfl⟩
instance : Plc Try.prog 43 [(0, 128), (128, 32), (160, 32)] := ⟨by kernel_rfl⟩
instance : Ngd Try.prog 43 := ⟨by kernel_rfl⟩
instance : Und Try.prog 48 (.slice 24) := ⟨Try.underlying48⟩
instance : Siz Try.prog 48 1 := ⟨by kernel_rfl⟩
instance : Byt Try.prog 48 24 := ⟨by kernel_rfl⟩
instance : Agg Try.prog 48 false := ⟨by kernel_rfl⟩
instance : One Try.prog 48 := ⟨by kernel_rfl⟩
instance : Zer Try.prog 48 (.slice none 0 0) := ⟨by kernel_rfl⟩
instance : Und Try.prog 52 (.int .u32) := ⟨Try.underlying52⟩
instance : Siz Try.prog 52 1 := ⟨by kernel_rfl⟩
instance : Byt Try.prog 52 4 := ⟨by kernel_rfl⟩
instance : Agg Try.prog 52 false := ⟨by kernel_rfl⟩
instance : One Try.prog 52 := ⟨by kernel_rfl⟩
instance : Zer Try.prog 52 (b32 0#32) := ⟨by kernel_rfl⟩
instance : Und Try.prog 53 (.array 8 52) := ⟨Try.underlying53⟩
instance : Siz Try.prog 53 8 := ⟨by kernel_rfl⟩
instance : Byt Try.prog 53 32 := ⟨by kernel_rfl⟩
instance : Agg Try.prog 53 true := ⟨by kernel_rfl⟩
instance : Ngd Try.prog 53 := ⟨by kernel_rfl⟩
instance : Zer Try.prog 53 (.agg (List.toArray [(b32 0#32), (b32 0#32), (b32 0#32), (b32 0#32), (b32 0#32), (b32 0#32), (b32 0#32), (b32 0#32)])) := ⟨by kernel_rfl⟩
instance : Und Try.prog 54 (.array 8 52) := ⟨Try.underlying54⟩
instance : Siz Try.prog 54 8 := ⟨by kernel_rfl⟩
instance : Byt Try.prog 54 32 := ⟨by kernel_rfl⟩
instance : Agg Try.prog 54 true := ⟨by kernel_rfl⟩
instance : Ngd Try.prog 54 := ⟨by kernel_rfl⟩
instance : Zer Try.prog 54 (.agg (List.toArray [(b32 0#32), (b32 0#32), (b32 0#32), (b32 0#32), (b32 0#32), (b32 0#32), (b32 0#32), (b32 0#32)])) := ⟨by kernel_rfl⟩
instance : Und Try.prog 60 (.slice 9) := ⟨Try.underlying60⟩
instance : Siz Try.prog 60 1 := ⟨by kernel_rfl⟩
instance : Byt Try.prog 60 24 := ⟨by kernel_rfl⟩
instance : Agg Try.prog 60 false := ⟨by kernel_rfl⟩
instance : One Try.prog 60 := ⟨by kernel_rfl⟩
instance : Zer Try.prog 60 (.slice none 0 0) := ⟨by kernel_rfl⟩
instance : Und Try.prog 72 (.int .u64) := ⟨Try.underlying72⟩
instance : Siz Try.prog 72 1 := ⟨by kernel_rfl⟩
instance : Byt Try.prog 72 8 := ⟨by kernel_rfl⟩
instance : Agg Try.prog 72 false := ⟨by kernel_rfl⟩
instance : One Try.prog 72 := ⟨by kernel_rfl⟩
instance : Zer Try.prog 72 (b64 0#64) := ⟨by kernel_rfl⟩
instance : Und Try.prog 73 (.array 4 72) := ⟨Try.underlying73⟩
instance : Siz Try.prog 73 4 := ⟨by kernel_rfl⟩
instance : Byt Try.prog 73 32 := ⟨by kernel_rfl⟩
instance : Agg Try.prog 73 true := ⟨by kernel_rfl⟩
instance : Ngd Try.prog 73 := ⟨by kernel_rfl⟩
instance : Zer Try.prog 73 (.agg (List.toArray [(b64 0#64), (b64 0#64), (b64 0#64), (b64 0#64)])) := ⟨by kernel_rfl⟩
instance : Und Try.prog 74 (.array 4 72) := ⟨Try.underlying74⟩
instance : Siz Try.prog 74 4 := ⟨by kernel_rfl⟩
instance : Byt Try.prog 74 32 := ⟨by kernel_rfl⟩
instance : Agg Try.prog 74 true := ⟨by kernel_rfl⟩
instance : Ngd Try.prog 74 := ⟨by kernel_rfl⟩
instance : Zer Try.prog 74 (.agg (List.toArray [(b64 0#64), (b64 0#64), (b64 0#64), (b64 0#64)])) := ⟨by kernel_rfl⟩
instance : Siz Try.prog 78 8 := ⟨by kernel_rfl⟩
instance : Byt Try.prog 78 64 := ⟨by kernel_rfl⟩
instance : Agg Try.prog 78 true := ⟨by kernel_rfl⟩
instance : Plc Try.prog 78 [(0, 4), (4, 4)] := ⟨by kernel_rfl⟩
instance : Ngd Try.prog 78 := ⟨by kernel_rfl⟩
instance : Zer Try.prog 78 (.agg (List.toArray [(b64 0#64), (b64 0#64), (b64 0#64), (b64 0#64), (b64 0#64), (b64 0#64), (b64 0#64), (b64 0#64)])) := ⟨by kernel_rfl⟩
instance : Siz Try.prog 79 8 := ⟨by kernel_rfl⟩
instance : Byt Try.prog 79 64 := ⟨by kernel_rfl⟩
instance : Agg Try.prog 79 true := ⟨by kernel_rfl⟩
instance : Plc Try.prog 79 [(0, 4), (4, 4)] := ⟨by kernel_rfl⟩
instance : Ngd Try.prog 79 := ⟨by kernel_rfl⟩
instance : Zer Try.prog 79 (.agg (List.toArray [(b64 0#64), (b64 0#64), (b64 0#64), (b64 0#64), (b64 0#64), (b64 0#64), (b64 0#64), (b64 0#64)])) := ⟨by kernel_rfl⟩
instance : Und Try.prog 93 (.array 17 72) := ⟨Try.underlying93⟩
instance : Siz Try.prog 93 17 := ⟨by kernel_rfl⟩
instance : Byt Try.prog 93 136 := ⟨by kernel_rfl⟩
instance : Agg Try.prog 93 true := ⟨by kernel_rfl⟩
instance : Ngd Try.prog 93 := ⟨by kernel_rfl⟩
instance : Zer Try.prog 93 (.agg (List.toArray [(b64 0#64), (b64 0#64), (b64 0#64), (b64 0#64), (b64 0#64), (b64 0#64), (b64 0#64), (b64 0#64), (b64 0#64), (b64 0#64), (b64 0#64), (b64 0#64), (b64 0#64), (b64 0#64), (b64 0#64), (b64 0#64), (b64 0#64)])) := ⟨by kernel_rfl⟩
instance : Und Try.prog 94 (.int .u64) := ⟨Try.underlying94⟩
instance : Siz Try.prog 94 1 := ⟨by kernel_rfl⟩
instance : Byt Try.prog 94 8 := ⟨by kernel_rfl⟩
instance : Agg Try.prog 94 false := ⟨by kernel_rfl⟩
instance : One Try.prog 94 := ⟨by kernel_rfl⟩
instance : Zer Try.prog 94 (b64 0#64) := ⟨by kernel_rfl⟩
instance : Und Try.prog 100 (.pointer 122) := ⟨Try.underlying100⟩
instance : Siz Try.prog 100 1 := ⟨by kernel_rfl⟩
instance : Byt Try.prog 100 8 := ⟨by kernel_rfl⟩
instance : Agg Try.prog 100 false := ⟨by kernel_rfl⟩
instance : One Try.prog 100 := ⟨by kernel_rfl⟩
instance : Zer Try.prog 100 (.pointer none) := ⟨by kernel_rfl⟩
instance : Und Try.prog 109 (.slice 74) := ⟨Try.underlying109⟩
instance : Siz Try.prog 109 1 := ⟨by kernel_rfl⟩
instance : Byt Try.prog 109 24 := ⟨by kernel_rfl⟩
instance : Agg Try.prog 109 false := ⟨by kernel_rfl⟩
instance : One Try.prog 109 := ⟨by kernel_rfl⟩
instance : Zer Try.prog 109 (.slice none 0 0) := ⟨by kernel_rfl⟩
instance : Und Try.prog 115 (.pointer 120) := ⟨Try.underlying115⟩
instance : Siz Try.prog 115 1 := ⟨by kernel_rfl⟩
instance : Byt Try.prog 115 8 := ⟨by kernel_rfl⟩
instance : Agg Try.prog 115 false := ⟨by kernel_rfl⟩
instance : One Try.prog 115 := ⟨by kernel_rfl⟩
instance : Zer Try.prog 115 (.pointer none) := ⟨by kernel_rfl⟩
instance : Siz Try.prog 117 10 := ⟨by kernel_rfl⟩
instance : Byt Try.prog 117 64 := ⟨by kernel_rfl⟩
instance : Agg Try.prog 117 true := ⟨by kernel_rfl⟩
instance : Plc Try.prog 117 [(0, 8), (8, 1), (9, 1)] := ⟨by kernel_rfl⟩
instance : Ngd Try.prog 117 := ⟨by kernel_rfl⟩
instance : Zer Try.prog 117 (.agg (List.toArray [(b32 0#32), (b32 0#32), (b32 0#32), (b32 0#32), (b32 0#32), (b32 0#32), (b32 0#32), (b32 0#32), (.slice none 0 0), (.int .i64 0)])) := ⟨by kernel_rfl⟩
instance : Siz Try.prog 118 10 := ⟨by kernel_rfl⟩
instance : Byt Try.prog 118 64 := ⟨by kernel_rfl⟩
instance : Agg Try.prog 118 true := ⟨by kernel_rfl⟩
instance : Plc Try.prog 118 [(0, 8), (8, 1), (9, 1)] := ⟨by kernel_rfl⟩
instance : Ngd Try.prog 118 := ⟨by kernel_rfl⟩
instance : Zer Try.prog 118 (.agg (List.toArray [(b32 0#32), (b32 0#32), (b32 0#32), (b32 0#32), (b32 0#32), (b32 0#32), (b32 0#32), (b32 0#32), (.slice none 0 0), (.int .i64 0)])) := ⟨by kernel_rfl⟩
instance : Siz Try.prog 119 10 := ⟨by kernel_rfl⟩
instance : Byt Try.prog 119 64 := ⟨by kernel_rfl⟩
instance : Agg Try.prog 119 true := ⟨by kernel_rfl⟩
instance : Plc Try.prog 119 [(0, 10)] := ⟨by kernel_rfl⟩
instance : Ngd Try.prog 119 := ⟨by kernel_rfl⟩
instance : Zer Try.prog 119 (.agg (List.toArray [(b32 0#32), (b32 0#32), (b32 0#32), (b32 0#32), (b32 0#32), (b32 0#32), (b32 0#32), (b32 0#32), (.slice none 0 0), (.int .i64 0)])) := ⟨by kernel_rfl⟩
instance : Siz Try.prog 120 10 := ⟨by kernel_rfl⟩
instance : Byt Try.prog 120 64 := ⟨by kernel_rfl⟩
instance : Agg Try.prog 120 true := ⟨by kernel_rfl⟩
instance : Plc Try.prog 120 [(0, 10)] := ⟨by kernel_rfl⟩
instance : Ngd Try.prog 120 := ⟨by kernel_rfl⟩
instance : Zer Try.prog 120 (.agg (List.toArray [(b32 0#32), (b32 0#32), (b32 0#32), (b32 0#32), (b32 0#32), (b32 0#32), (b32 0#32), (b32 0#32), (.slice none 0 0), (.int .i64 0)])) := ⟨by kernel_rfl⟩
instance : Siz Try.prog 121 11 := ⟨by kernel_rfl⟩
instance : Byt Try.prog 121 88 := ⟨by kernel_rfl⟩
instance : Agg Try.prog 121 true := ⟨by kernel_rfl⟩
instance : Plc Try.prog 121 [(0, 10), (10, 1)] := ⟨by kernel_rfl⟩
instance : Ngd Try.prog 121 := ⟨by kernel_rfl⟩
instance : Zer Try.prog 121 (.agg (List.toArray [(b32 0#32), (b32 0#32), (b32 0#32), (b32 0#32), (b32 0#32), (b32 0#32), (b32 0#32), (b32 0#32), (.slice none 0 0), (.int .i64 0), (.slice none 0 0)])) := ⟨by kernel_rfl⟩
instance : Siz Try.prog 122 11 := ⟨by kernel_rfl⟩
instance : Byt Try.prog 122 88 := ⟨by kernel_rfl⟩
instance : Agg Try.prog 122 true := ⟨by kernel_rfl⟩
instance : Plc Try.prog 122 [(0, 10), (10, 1)] := ⟨by kernel_rfl⟩
instance : Ngd Try.prog 122 := ⟨by kernel_rfl⟩
instance : Zer Try.prog 122 (.agg (List.toArray [(b32 0#32), (b32 0#32), (b32 0#32), (b32 0#32), (b32 0#32), (b32 0#32), (b32 0#32), (b32 0#32), (.slice none 0 0), (.int .i64 0), (.slice none 0 0)])) := ⟨by kernel_rfl⟩
instance : Und Try.prog 125 (.array 64 52) := ⟨Try.underlying125⟩
instance : Siz Try.prog 125 64 := ⟨by kernel_rfl⟩
instance : Byt Try.prog 125 256 := ⟨by kernel_rfl⟩
instance : Agg Try.prog 125 true := ⟨by kernel_rfl⟩
instance : Ngd Try.prog 125 := ⟨by kernel_rfl⟩
instance : Zer Try.prog 125 (.agg (List.toArray [(b32 0#32), (b32 0#32), (b32 0#32), (b32 0#32), (b32 0#32), (b32 0#32), (b32 0#32), (b32 0#32), (b32 0#32), (b32 0#32), (b32 0#32), (b32 0#32), (b32 0#32), (b32 0#32), (b32 0#32), (b32 0#32), (b32 0#32), (b32 0#32), (b32 0#32), (b32 0#32), (b32 0#32), (b32 0#32), (b32 0#32), (b32 0#32), (b32 0#32), (b32 0#32), (b32 0#32), (b32 0#32), (b32 0#32), (b32 0#32), (b32 0#32), (b32 0#32), (b32 0#32), (b32 0#32), (b32 0#32), (b32 0#32), (b32 0#32), (b32 0#32), (b32 0#32), (b32 0#32), (b32 0#32), (b32 0#32), (b32 0#32), (b32 0#32), (b32 0#32), (b32 0#32), (b32 0#32), (b32 0#32), (b32 0#32), (b32 0#32), (b32 0#32), (b32 0#32), (b32 0#32), (b32 0#32), (b32 0#32), (b32 0#32), (b32 0#32), (b32 0#32), (b32 0#32), (b32 0#32), (b32 0#32), (b32 0#32), (b32 0#32), (b32 0#32)])) := ⟨by kernel_rfl⟩
instance : Und Try.prog 128 (.array 8 72) := ⟨Try.underlying128⟩
instance : Siz Try.prog 128 8 := ⟨by kernel_rfl⟩
instance : Byt Try.prog 128 64 := ⟨by kernel_rfl⟩
instance : Agg Try.prog 128 true := ⟨by kernel_rfl⟩
instance : Ngd Try.prog 128 := ⟨by kernel_rfl⟩
instance : Zer Try.prog 128 (.agg (List.toArray [(b64 0#64), (b64 0#64), (b64 0#64), (b64 0#64), (b64 0#64), (b64 0#64), (b64 0#64), (b64 0#64)])) := ⟨by kernel_rfl⟩
instance : Und Try.prog 142 (.pointer 118) := ⟨Try.underlying142⟩
instance : Siz Try.prog 142 1 := ⟨by kernel_rfl⟩
instance : Byt Try.prog 142 8 := ⟨by kernel_rfl⟩
instance : Agg Try.prog 142 false := ⟨by kernel_rfl⟩
instance : One Try.prog 142 := ⟨by kernel_rfl⟩
instance : Zer Try.prog 142 (.pointer none) := ⟨by kernel_rfl⟩
instance : Siz Try.prog 148 4 := ⟨by kernel_rfl⟩
instance : Byt Try.prog 148 40 := ⟨by kernel_rfl⟩
instance : Agg Try.prog 148 true := ⟨by kernel_rfl⟩
instance : Plc Try.prog 148 [(0, 1), (1, 1), (2, 1), (3, 1)] := ⟨by kernel_rfl⟩
instance : Ngd Try.prog 148 := ⟨by kernel_rfl⟩
instance : Zer Try.prog 148 (.agg (List.toArray [(.pointer none), (.pointer none), (.pointer none), (.string .empty)])) := ⟨by kernel_rfl⟩
instance : Und Try.prog 150 (.array 0 16) := ⟨Try.underlying150⟩
instance : Siz Try.prog 150 0 := ⟨by kernel_rfl⟩
instance : Byt Try.prog 150 0 := ⟨by kernel_rfl⟩
instance : Agg Try.prog 150 true := ⟨by kernel_rfl⟩
instance : Ngd Try.prog 150 := ⟨by kernel_rfl⟩
instance : Zer Try.prog 150 (.agg (List.toArray [])) := ⟨by kernel_rfl⟩
instance : Siz Try.prog 151 0 := ⟨by kernel_rfl⟩
instance : Byt Try.prog 151 0 := ⟨by kernel_rfl⟩
instance : Agg Try.prog 151 true := ⟨by kernel_rfl⟩
instance : Plc Try.prog 151 [(0, 0)] := ⟨by kernel_rfl⟩
instance : Ngd Try.prog 151 := ⟨by kernel_rfl⟩
instance : Zer Try.prog 151 (.agg (List.toArray [])) := ⟨by kernel_rfl⟩
instance : Und Try.prog 157 (.pointer 5) := ⟨Try.underlying157⟩
instance : Siz Try.prog 157 1 := ⟨by kernel_rfl⟩
instance : Byt Try.prog 157 8 := ⟨by kernel_rfl⟩
instance : Agg Try.prog 157 false := ⟨by kernel_rfl⟩
instance : One Try.prog 157 := ⟨by kernel_rfl⟩
instance : Zer Try.prog 157 (.pointer none) := ⟨by kernel_rfl⟩
instance : Siz Try.prog 160 11 := ⟨by kernel_rfl⟩
instance : Byt Try.prog 160 48 := ⟨by kernel_rfl⟩
instance : Agg Try.prog 160 true := ⟨by kernel_rfl⟩
instance : Plc Try.prog 160 [(0, 1), (1, 1), (2, 1), (3, 1), (4, 1), (5, 1), (6, 1), (7, 1), (8, 1), (9, 1), (10, 1)] := ⟨by kernel_rfl⟩
instance : Ngd Try.prog 160 := ⟨by kernel_rfl⟩
instance : Zer Try.prog 160 (.agg (List.toArray [(b64 0#64), (b64 0#64), (b32 0#32), (b8 0#8), (b8 0#8), (b8 0#8), (b8 0#8), .nilFunc, (.pointer none), (.int .i32 0), (.int .i32 0)])) := ⟨by kernel_rfl⟩
instance : Fld Try.prog 25 0 0 32 true := ⟨by kernel_rfl⟩
instance : Fld Try.prog 25 1 32 32 true := ⟨by kernel_rfl⟩
instance : Fld Try.prog 25 2 64 32 true := ⟨by kernel_rfl⟩
instance : Fld Try.prog 25 3 96 32 true := ⟨by kernel_rfl⟩
instance : Fld Try.prog 26 0 0 32 true := ⟨by kernel_rfl⟩
instance : Fld Try.prog 26 1 32 32 true := ⟨by kernel_rfl⟩
instance : Fld Try.prog 26 2 64 32 true := ⟨by kernel_rfl⟩
instance : Fld Try.prog 26 3 96 32 true := ⟨by kernel_rfl⟩
instance : Fld Try.prog 42 0 0 128 true := ⟨by kernel_rfl⟩
instance : Fld Try.prog 42 1 128 32 true := ⟨by kernel_rfl⟩
instance : Fld Try.prog 42 2 160 32 true := ⟨by kernel_rfl⟩
instance : Fld Try.prog 43 0 0 128 true := ⟨by kernel_rfl⟩
instance : Fld Try.prog 43 1 128 32 true := ⟨by kernel_rfl⟩
instance : Fld Try.prog 43 2 160 32 true := ⟨by kernel_rfl⟩
instance : Fld Try.prog 78 0 0 4 true := ⟨by kernel_rfl⟩
instance : Fld Try.prog 78 1 4 4 true := ⟨by kernel_rfl⟩
instance : Fld Try.prog 79 0 0 4 true := ⟨by kernel_rfl⟩
instance : Fld Try.prog 79 1 4 4 true := ⟨by kernel_rfl⟩
instance : Fld Try.prog 117 0 0 8 true := ⟨by kernel_rfl⟩
instance : Fld Try.prog 117 1 8 1 false := ⟨by kernel_rfl⟩
instance : Fld Try.prog 117 2 9 1 false := ⟨by kernel_rfl⟩
instance : Fld Try.prog 118 0 0 8 true := ⟨by kernel_rfl⟩
instance : Fld Try.prog 118 1 8 1 false := ⟨by kernel_rfl⟩
instance : Fld Try.prog 118 2 9 1 false := ⟨by kernel_rfl⟩
instance : Fld Try.prog 119 0 0 10 true := ⟨by kernel_rfl⟩
instance : Fld Try.prog 120 0 0 10 true := ⟨by kernel_rfl⟩
instance : Fld Try.prog 121 0 0 10 true := ⟨by kernel_rfl⟩
instance : Fld Try.prog 121 1 10 1 false := ⟨by kernel_rfl⟩
instance : Fld Try.prog 122 0 0 10 true := ⟨by kernel_rfl⟩
instance : Fld Try.prog 122 1 10 1 false := ⟨by kernel_rfl⟩
instance : Fld Try.prog 148 0 0 1 false := ⟨by kernel_rfl⟩
instance : Fld Try.prog 148 1 1 1 false := ⟨by kernel_rfl⟩
instance : Fld Try.prog 148 2 2 1 false := ⟨by kernel_rfl⟩
instance : Fld Try.prog 148 3 3 1 false := ⟨by kernel_rfl⟩
instance : Fld Try.prog 151 0 0 0 true := ⟨by kernel_rfl⟩
instance : Fld Try.prog 160 0 0 1 false := ⟨by kernel_rfl⟩
instance : Fld Try.prog 160 1 1 1 false := ⟨by kernel_rfl⟩
instance : Fld Try.prog 160 2 2 1 false := ⟨by kernel_rfl⟩
instance : Fld Try.prog 160 3 3 1 false := ⟨by kernel_rfl⟩
instance : Fld Try.prog 160 4 4 1 false := ⟨by kernel_rfl⟩
instance : Fld Try.prog 160 5 5 1 false := ⟨by kernel_rfl⟩
instance : Fld Try.prog 160 6 6 1 false := ⟨by kernel_rfl⟩
instance : Fld Try.prog 160 7 7 1 false := ⟨by kernel_rfl⟩
instance : Fld Try.prog 160 8 8 1 false := ⟨by kernel_rfl⟩
instance : Fld Try.prog 160 9 9 1 false := ⟨by kernel_rfl⟩
instance : Fld Try.prog 160 10 10 1 false := ⟨by kernel_rfl⟩
instance : Mnz Try.prog 78 5 := ⟨Try.f78, 22, Try.func78, by kernel_rfl, rfl, by kernel_rfl, by kernel_rfl, Try.underlying22⟩
instance : Cal Try.prog 2 := ⟨Try.f2, Try.func2, by kernel_rfl, rfl⟩
instance : Cal Try.prog 3 := ⟨Try.f3, Try.func3, by kernel_rfl, rfl⟩
instance : Cal Try.prog 4 := ⟨Try.f4, Try.func4, by kernel_rfl, rfl⟩
instance : Cal Try.prog 5 := ⟨Try.f5, Try.func5, by kernel_rfl, rfl⟩
instance : Cal Try.prog 6 := ⟨Try.f6, Try.func6, by kernel_rfl, rfl⟩
instance : Cal Try.prog 7 := ⟨Try.f7, Try.func7, by kernel_rfl, rfl⟩
instance : Cal Try.prog 8 := ⟨Try.f8, Try.func8, by kernel_rfl, rfl⟩
instance : Cal Try.prog 9 := ⟨Try.f9, Try.func9, by kernel_rfl, rfl⟩
instance : Cal Try.prog 10 := ⟨Try.f10, Try.func10, by kernel_rfl, rfl⟩
instance : Cal Try.prog 11 := ⟨Try.f11, Try.func11, by kernel_rfl, rfl⟩
instance : Cal Try.prog 12 := ⟨Try.f12, Try.func12, by kernel_rfl, rfl⟩
instance : Cal Try.prog 13 := ⟨Try.f13, Try.func13, by kernel_rfl, rfl⟩
instance : Cal Try.prog 14 := ⟨Try.f14, Try.func14, by kernel_rfl, rfl⟩
instance : Cal Try.prog 15 := ⟨Try.f15, Try.func15, by kernel_rfl, rfl⟩
instance : Cal Try.prog 16 := ⟨Try.f16, Try.func16, by kernel_rfl, rfl⟩
instance : Cal Try.prog 17 := ⟨Try.f17, Try.func17, by kernel_rfl, rfl⟩
instance : Cal Try.prog 18 := ⟨Try.f18, Try.func18, by kernel_rfl, rfl⟩
instance : Cal Try.prog 19 := ⟨Try.f19, Try.func19, by kernel_rfl, rfl⟩
instance : Cal Try.prog 20 := ⟨Try.f20, Try.func20, by kernel_rfl, rfl⟩
instance : Cal Try.prog 21 := ⟨Try.f21, Try.func21, by kernel_rfl, rfl⟩
instance : Cal Try.prog 22 := ⟨Try.f22, Try.func22, by kernel_rfl, rfl⟩
instance : Cal Try.prog 23 := ⟨Try.f23, Try.func23, by kernel_rfl, rfl⟩
instance : Cal Try.prog 24 := ⟨Try.f24, Try.func24, by kernel_rfl, rfl⟩
instance : Cal Try.prog 25 := ⟨Try.f25, Try.func25, by kernel_rfl, rfl⟩
instance : Cal Try.prog 26 := ⟨Try.f26, Try.func26, by kernel_rfl, rfl⟩
instance : Cal Try.prog 27 := ⟨Try.f27, Try.func27, by kernel_rfl, rfl⟩
instance : Cal Try.prog 28 := ⟨Try.f28, Try.func28, by kernel_rfl, rfl⟩
instance : Cal Try.prog 29 := ⟨Try.f29, Try.func29, by kernel_rfl, rfl⟩
instance : Cal Try.prog 30 := ⟨Try.f30, Try.func30, by kernel_rfl, rfl⟩
instance : Cal Try.prog 31 := ⟨Try.f31, Try.func31, by kernel_rfl, rfl⟩
instance : Cal Try.prog 32 := ⟨Try.f32, Try.func32, by kernel_rfl, rfl⟩
instance : Cal Try.prog 33 := ⟨Try.f33, Try.func33, by kernel_rfl, rfl⟩
instance : Cal Try.prog 34 := ⟨Try.f34, Try.func34, by kernel_rfl, rfl⟩
instance : Cal Try.prog 35 := ⟨Try.f35, Try.func35, by kernel_rfl, rfl⟩
instance : Cal Try.prog 36 := ⟨Try.f36, Try.func36, by kernel_rfl, rfl⟩
instance : Cal Try.prog 37 := ⟨Try.f37, Try.func37, by kernel_rfl, rfl⟩
instance : Cal Try.prog 38 := ⟨Try.f38, Try.func38, by kernel_rfl, rfl⟩
instance : Cal Try.prog 39 := ⟨Try.f39, Try.func39, by kernel_rfl, rfl⟩
instance : Cal Try.prog 40 := ⟨Try.f40, Try.func40, by kernel_rfl, rfl⟩
instance : Cal Try.prog 41 := ⟨Try.f41, Try.func41, by kernel_rfl, rfl⟩
instance : Cal Try.prog 42 := ⟨Try.f42, Try.func42, by kernel_rfl, rfl⟩
instance : Cal Try.prog 43 := ⟨Try.f43, Try.func43, by kernel_rfl, rfl⟩
instance : Cal Try.prog 44 := ⟨Try.f44, Try.func44, by kernel_rfl, rfl⟩
instance : Cal Try.prog 45 := ⟨Try.f45, Try.func45, by kernel_rfl, rfl⟩
instance : Cal Try.prog 46 := ⟨Try.f46, Try.func46, by kernel_rfl, rfl⟩
instance : Cal Try.prog 47 := ⟨Try.f47, Try.func47, by kernel_rfl, rfl⟩
instance : Cal Try.prog 48 := ⟨Try.f48, Try.func48, by kernel_rfl, rfl⟩
instance : Cal Try.prog 49 := ⟨Try.f49, Try.func49, by kernel_rfl, rfl⟩
instance : Cal Try.prog 50 := ⟨Try.f50, Try.func50, by kernel_rfl, rfl⟩
instance : Cal Try.prog 51 := ⟨Try.f51, Try.func51, by kernel_rfl, rfl⟩
instance : Cal Try.prog 52 := ⟨Try.f52, Try.func52, by kernel_rfl, rfl⟩
instance : Cal Try.prog 53 := ⟨Try.f53, Try.func53, by kernel_rfl, rfl⟩
instance : Cal Try.prog 54 := ⟨Try.f54, Try.func54, by kernel_rfl, rfl⟩
instance : Cal Try.prog 55 := ⟨Try.f55, Try.func55, by kernel_rfl, rfl⟩
instance : Cal Try.prog 56 := ⟨Try.f56, Try.func56, by kernel_rfl, rfl⟩
instance : Cal Try.prog 57 := ⟨Try.f57, Try.func57, by kernel_rfl, rfl⟩
instance : Cal Try.prog 58 := ⟨Try.f58, Try.func58, by kernel_rfl, rfl⟩
instance : Cal Try.prog 59 := ⟨Try.f59, Try.func59, by kernel_rfl, rfl⟩
instance : Cal Try.prog 60 := ⟨Try.f60, Try.func60, by kernel_rfl, rfl⟩
instance : Cal Try.prog 61 := ⟨Try.f61, Try.func61, by kernel_rfl, rfl⟩
instance : Cal Try.prog 62 := ⟨Try.f62, Try.func62, by kernel_rfl, rfl⟩
instance : Cal Try.prog 63 := ⟨Try.f63, Try.func63, by kernel_rfl, rfl⟩
instance : Cal Try.prog 64 := ⟨Try.f64, Try.func64, by kernel_rfl, rfl⟩
instance : Cal Try.prog 65 := ⟨Try.f65, Try.func65, by kernel_rfl, rfl⟩
instance : Cal Try.prog 66 := ⟨Try.f66, Try.func66, by kernel_rfl, rfl⟩
instance : Cal Try.prog 67 := ⟨Try.f67, Try.func67, by kernel_rfl, rfl⟩
instance : Cal Try.prog 68 := ⟨Try.f68, Try.func68, by kernel_rfl, rfl⟩
instance : Cal Try.prog 69 := ⟨Try.f69, Try.func69, by kernel_rfl, rfl⟩
instance : Cal Try.prog 71 := ⟨Try.f71, Try.func71, by kernel_rfl, rfl⟩
instance : Cal Try.prog 72 := ⟨Try.f72, Try.func72, by kernel_rfl, rfl⟩
instance : Cal Try.prog 73 := ⟨Try.f73, Try.func73, by kernel_rfl, rfl⟩
instance : Cal Try.prog 74 := ⟨Try.f74, Try.func74, by kernel_rfl, rfl⟩
instance : Cal Try.prog 75 := ⟨Try.f75, Try.func75, by kernel_rfl, rfl⟩
instance : Cal Try.prog 76 := ⟨Try.f76, Try.func76, by kernel_rfl, rfl⟩
instance : Cal Try.prog 77 := ⟨Try.f77, Try.func77, by kernel_rfl, rfl⟩
instance : Cal Try.prog 79 := ⟨Try.f79, Try.func79, by kernel_rfl, rfl⟩
instance : Cal Try.prog 80 := ⟨Try.f80, Try.func80, by kernel_rfl, rfl⟩
instance : Cal Try.prog 81 := ⟨Try.f81, Try.func81, by kernel_rfl, rfl⟩
instance : Cal Try.prog 83 := ⟨Try.f83, Try.func83, by kernel_rfl, rfl⟩
instance : Cal Try.prog 84 := ⟨Try.f84, Try.func84, by kernel_rfl, rfl⟩
instance : Cal Try.prog 85 := ⟨Try.f85, Try.func85, by kernel_rfl, rfl⟩
instance : Cal Try.prog 86 := ⟨Try.f86, Try.func86, by kernel_rfl, rfl⟩
instance : Cal Try.prog 87 := ⟨Try.f87, Try.func87, by kernel_rfl, rfl⟩
instance : Cal Try.prog 88 := ⟨Try.f88, Try.func88, by kernel_rfl, rfl⟩
instance : Cal Try.prog 89 := ⟨Try.f89, Try.func89, by kernel_rfl, rfl⟩
instance : Cal Try.prog 90 := ⟨Try.f90, Try.func90, by kernel_rfl, rfl⟩
instance : Cal Try.prog 91 := ⟨Try.f91, Try.func91, by kernel_rfl, rfl⟩
instance : Cal Try.prog 92 := ⟨Try.f92, Try.func92, by kernel_rfl, rfl⟩
instance : Cal Try.prog 93 := ⟨Try.f93, Try.func93, by kernel_rfl, rfl⟩
instance : Cal Try.prog 94 := ⟨Try.f94, Try.func94, by kernel_rfl, rfl⟩
instance : Cal Try.prog 95 := ⟨Try.f95, Try.func95, by kernel_rfl, rfl⟩
instance : Cal Try.prog 96 := ⟨Try.f96, Try.func96, by kernel_rfl, rfl⟩
instance : Cal Try.prog 97 := ⟨Try.f97, Try.func97, by kernel_rfl, rfl⟩
instance : Cal Try.prog 98 := ⟨Try.f98, Try.func98, by kernel_rfl, rfl⟩
instance : Cal Try.prog 99 := ⟨Try.f99, Try.func99, by kernel_rfl, rfl⟩
instance : Cal Try.prog 100 := ⟨Try.f100, Try.func100, by kernel_rfl, rfl⟩
instance : Cal Try.prog 101 := ⟨Try.f101, Try.func101, by kernel_rfl, rfl⟩
instance : Cal Try.prog 102 := ⟨Try.f102, Try.func102, by kernel_rfl, rfl⟩
end Go.Sx

/-
  Contracts of the reference's copies and equality of lists of bytes, and of the codec's padding with its reference. Each list is at most 2^47 bytes long.
-/
namespace Go.Sx
open Go Go.Proofs

theorem Copy_spec (w : World) (p : Option Addr) (n c : Nat) (l : List (BitVec 8)) (hr : RdV w p (bs l)) (hn : l.length = n) (hbig : n ≤ 140737488355328) :
    Spec Try.prog 7 #[.slice p n c] w (σ := Ow) (fun _ => True) (fun x => x.sl n) Nob (fun x => [x.ck 5 1 (bs l)]) := by
  refine enter Try.func7 rfl rfl (Mem.start w) ?_
  (repeat refine g_seq ?_)
  refine g_region ?_
  refine g_pu rfl rfl rfl (pu_assign rfl rfl) ?_
  refine g_nil ?_
  (repeat refine g_seq ?_)
  refine g_region ?_
  refine g_lo [3] rfl rfl rfl rfl (lo_buildSlice0 rfl) (fun b3 hb3 => ?_)
  refine g_pu rfl rfl rfl (pu_move rfl rfl) ?_
  refine g_own 3 (L := []) (J := []) (c := 0) (s := 1) rfl (by simp) (by omega) ?_
  refine g_append1 3 (bs l) rfl rfl rfl rfl rfl rfl rfl rfl rfl (fun w' hm => hr.mem0 hm) (by rw [bs_length, hn]) (oneCell_bs l) (by omega) (by omega) (fun p' c' => ?_)
  refine g_pu rfl rfl rfl (pu_assign rfl rfl) ?_
  refine g_nil ?_
  exact g_ret1 rfl rfl (fun w' hm => ⟨⟨p', c'⟩, trivial, by simp [Ow.sl], hm.grows [3] ⟨rfl, trivial⟩ rfl⟩)

/-! ## Padding -/
def padE (n : Nat) (z : Int) : Int := if z < 0 ∨ z > 16777216 then 1 else if (n : Int) > z then 2 else 0
def padL (l : List (BitVec 8)) (z : Int) : List (BitVec 8) := if padE l.length z = 0 then l ++ List.replicate (z.toNat - l.length) 0#8 else []

theorem Pad_spec (w : World) (p : Option Addr) (n c : Nat) (l : List (BitVec 8)) (z : Int) (hr : RdV w p (bs l)) (hn : l.length = n) (hbig : n ≤ 140737488355328) :
    Spec Try.prog 95 #[.slice p n c, .int .i64 z] w (σ := Ow) (fun _ => True) (fun x => .tuple #[x.sl (padL l z).length, .int .i64 (padE n z)]) Nob (fun x => [x.ck 5 1 (bs (padL l z))]) := by
  refine enter Try.func95 rfl rfl (Mem.start w) ?_
  (repeat refine g_seq ?_)
  refine g_region ?_
  refine g_pu rfl rfl rfl (pu_assign rfl rfl) ?_
  refine g_pu rfl rfl rfl (pu_assign rfl rfl) ?_
  refine g_nil ?_
  by_cases h1 : z < 0
  · (repeat refine g_seq ?_)
    refine g_region ?_
    refine g_pu rfl rfl rfl (pu_move rfl rfl) ?_
    first | refine g_pu rfl rfl rfl (pu_lss_t rfl rfl rfl (by omega)) ?_ | refine g_pu rfl rfl rfl (pu_lss_f rfl rfl rfl (by omega)) ?_ | refine g_pu rfl rfl rfl (pu_lss rfl rfl rfl) ?_
    refine g_pu rfl rfl rfl (pu_move rfl rfl) ?_
    first | refine g_pass rfl rfl rfl ?_ | refine g_pu rfl rfl rfl (pu_move rfl rfl) ?_
    first | refine g_pass rfl rfl rfl ?_ | refine g_pu rfl rfl rfl (pu_gtr_t rfl rfl rfl (by omega)) ?_ | refine g_pu rfl rfl rfl (pu_gtr_f rfl rfl rfl (by omega)) ?_ | refine g_pu rfl rfl rfl (pu_gtr rfl rfl rfl) ?_
    first | refine g_pu rfl rfl rfl (pu_pick_t rfl rfl rfl) ?_ | refine g_pu rfl rfl rfl (pu_pick_f rfl rfl rfl) ?_
    refine g_nil ?_
    refine g_cond_t rfl ?_
    (repeat refine g_seq ?_)
    refine g_region ?_
    refine g_pu rfl rfl rfl (pu_assign rfl rfl) ?_
    refine g_pu rfl rfl rfl (pu_assign rfl rfl) ?_
    refine g_nil ?_
    refine g_nilOwn 90 5 1 rfl (g_ret2 rfl rfl rfl (fun w' hm => ?_))
    have hE : padE n z = 1 := by simp [padE, h1]
    have hL : padL l z = [] := by simp [padL, hn, hE]
    exact ⟨⟨none, 0⟩, trivial, by rw [hL, hE]; rfl, by rw [hL]; exact hm.grows [90] ⟨rfl, trivial⟩ rfl⟩
  · by_cases h2 : z > 16777216
    · (repeat refine g_seq ?_)
      refine g_region ?_
      refine g_pu rfl rfl rfl (pu_move rfl rfl) ?_
      first | refine g_pu rfl rfl rfl (pu_lss_t rfl rfl rfl (by omega)) ?_ | refine g_pu rfl rfl rfl (pu_lss_f rfl rfl rfl (by omega)) ?_ | refine g_pu rfl rfl rfl (pu_lss rfl rfl rfl) ?_
      refine g_pu rfl rfl rfl (pu_move rfl rfl) ?_
      first | refine g_pass rfl rfl rfl ?_ | refine g_pu rfl rfl rfl (pu_move rfl rfl) ?_
      first | refine g_pass rfl rfl rfl ?_ | refine g_pu rfl rfl rfl (pu_gtr_t rfl rfl rfl (by omega)) ?_ | refine g_pu rfl rfl rfl (pu_gtr_f rfl rfl rfl (by omega)) ?_ | refine g_pu rfl rfl rfl (pu_gtr rfl rfl rfl) ?_
      first | refine g_pu rfl rfl rfl (pu_pick_t rfl rfl rfl) ?_ | refine g_pu rfl rfl rfl (pu_pick_f rfl rfl rfl) ?_
      refine g_nil ?_
      refine g_cond_t rfl ?_
      (repeat refine g_seq ?_)
      refine g_region ?_
      refine g_pu rfl rfl rfl (pu_assign rfl rfl) ?_
      refine g_pu rfl rfl rfl (pu_assign rfl rfl) ?_
      refine g_nil ?_
      refine g_nilOwn 90 5 1 rfl (g_ret2 rfl rfl rfl (fun w' hm => ?_))
      have hE : padE n z = 1 := by simp [padE, h2]
      have hL : padL l z = [] := by simp [padL, hn, hE]
      exact ⟨⟨none, 0⟩, trivial, by rw [hL, hE]; rfl, by rw [hL]; exact hm.grows [90] ⟨rfl, trivial⟩ rfl⟩
    · (repeat refine g_seq ?_)
      refine g_region ?_
      refine g_pu rfl rfl rfl (pu_move rfl rfl) ?_
      first | refine g_pu rfl rfl rfl (pu_lss_t rfl rfl rfl (by omega)) ?_ | refine g_pu rfl rfl rfl (pu_lss_f rfl rfl rfl (by omega)) ?_ | refine g_pu rfl rfl rfl (pu_lss rfl rfl rfl) ?_
      refine g_pu rfl rfl rfl (pu_move rfl rfl) ?_
      first | refine g_pass rfl rfl rfl ?_ | refine g_pu rfl rfl rfl (pu_move rfl rfl) ?_
      first | refine g_pass rfl rfl rfl ?_ | refine g_pu rfl rfl rfl (pu_gtr_t rfl rfl rfl (by omega)) ?_ | refine g_pu rfl rfl rfl (pu_gtr_f rfl rfl rfl (by omega)) ?_ | refine g_pu rfl rfl rfl (pu_gtr rfl rfl rfl) ?_
      first | refine g_pu rfl rfl rfl (pu_pick_t rfl rfl rfl) ?_ | refine g_pu rfl rfl rfl (pu_pick_f rfl rfl rfl) ?_
      refine g_nil ?_
      refine g_cond_f rfl (g_skip ?_)
      by_cases h3 : (n : Int) > z
      · (repeat refine g_seq ?_)
        refine g_region ?_
        refine g_pu rfl rfl rfl (pu_move rfl rfl) ?_
        first | refine g_pu rfl rfl rfl (pu_len rfl rfl) ?_ | refine g_pu rfl rfl rfl (pu_lenS rfl rfl) ?_
        refine g_pu rfl rfl rfl (pu_move rfl rfl) ?_
        first | refine g_pu rfl rfl rfl (pu_gtr_t rfl rfl rfl (by omega)) ?_ | refine g_pu rfl rfl rfl (pu_gtr_f rfl rfl rfl (by omega)) ?_ | refine g_pu rfl rfl rfl (pu_gtr rfl rfl rfl) ?_
        refine g_nil ?_
        refine g_cond_t rfl ?_
        (repeat refine g_seq ?_)
        refine g_region ?_
        refine g_pu rfl rfl rfl (pu_assign rfl rfl) ?_
        refine g_pu rfl rfl rfl (pu_assign rfl rfl) ?_
        refine g_nil ?_
        refine g_nilOwn 90 5 1 rfl (g_ret2 rfl rfl rfl (fun w' hm => ?_))
        have hE : padE n z = 2 := by simp [padE, h1, h2, h3]
        have hL : padL l z = [] := by simp [padL, hn, hE]
        exact ⟨⟨none, 0⟩, trivial, by rw [hL, hE]; rfl, by rw [hL]; exact hm.grows [90] ⟨rfl, trivial⟩ rfl⟩
      · obtain ⟨k, rfl⟩ := Int.eq_ofNat_of_zero_le (show 0 ≤ z by omega)
        (repeat refine g_seq ?_)
        refine g_region ?_
        refine g_pu rfl rfl rfl (pu_move rfl rfl) ?_
        first | refine g_pu rfl rfl rfl (pu_len rfl rfl) ?_ | refine g_pu rfl rfl rfl (pu_lenS rfl rfl) ?_
        refine g_pu rfl rfl rfl (pu_move rfl rfl) ?_
        first | refine g_pu rfl rfl rfl (pu_gtr_t rfl rfl rfl (by omega)) ?_ | refine g_pu rfl rfl rfl (pu_gtr_f rfl rfl rfl (by omega)) ?_ | refine g_pu rfl rfl rfl (pu_gtr rfl rfl rfl) ?_
        refine g_nil ?_
        refine g_cond_f rfl (g_skip ?_)
        (repeat refine g_seq ?_)
        refine g_region ?_
        refine g_pu rfl rfl rfl (pu_move rfl rfl) ?_
        refine g_lo [18] rfl rfl rfl rfl (lo_make (n := k) (c := k) rfl rfl rfl (by omega) (by omega) (by omega) rfl) (fun b18 hb18 => ?_)
        refine g_pu rfl rfl rfl (pu_assign rfl rfl) ?_
        refine g_nil ?_
        (repeat refine g_seq ?_)
        refine g_region ?_
        refine g_pu rfl rfl rfl (pu_move rfl rfl) ?_
        refine g_pu rfl rfl rfl (pu_move rfl rfl) ?_
        refine g_copy 18 (bs l) rfl rfl rfl rfl rfl rfl rfl (fun w' hm => hr.mem0 hm) (by rw [bs_length, hn]) (by simp) (oneCell_bs l) ?_
        refine g_nil ?_
        (repeat refine g_seq ?_)
        refine g_region ?_
        refine g_pu rfl rfl rfl (pu_move rfl rfl) ?_
        refine g_pu rfl rfl rfl (pu_assign rfl rfl) ?_
        refine g_pu rfl rfl rfl (pu_assign rfl rfl) ?_
        refine g_nil ?_
        have hE : padE n (k : Int) = 0 := by simp [padE]; omega
        have hL : padL l (k : Int) = l ++ List.replicate (k - n) 0#8 := by simp [padL, hn, hE]
        have hmin : Nat.min n k = n := Nat.min_eq_left (by omega)
        have hrow : (List.replicate k (b8 0#8)).take 0 ++ (bs l).take (Nat.min n k) ++ (List.replicate k (b8 0#8)).drop (0 + Nat.min n k) = bs (padL l k) ++ [] := by
          have ht : (bs l).take n = bs l := List.take_of_length_le (by rw [bs_length]; omega)
          rw [hmin, hL, ht]
          simp [bs]
        have hlen : (padL l (k : Int)).length = k := by rw [hL]; simp; omega
        refine g_own 18 (L := bs (padL l k)) (J := []) (c := k) (s := 1) (congrArg (fun L => some (Ck.pt b18 (.cells (List.toArray L) 5 (0, 0)))) hrow) (by simp [bs_length, hlen]) (by omega) ?_
        exact g_ret2 rfl rfl rfl (fun w' hm => ⟨⟨some ⟨b18, 0, none⟩, k⟩, trivial, by rw [hlen, hE]; rfl, hm.grows [18] ⟨rfl, trivial⟩ rfl⟩)

end Go.Sx

/-
  Contracts in the words of 'By': copy, equality, padding. Looks of the codec and of its reference.
-/
namespace Go.Sx
open Go Go.Proofs

theorem Copy_b (w : World) {p : Option Addr} {n : Nat} (c : Nat) {l : List (BitVec 8)} (h : By w p n l) :
    Spec Try.prog 7 #[.slice p n c] w (σ := Ow) (fun _ => True) (fun x => x.sl n) Nob (fun x => [x.ck 5 1 (bs l)]) := Copy_spec w p n c l h.rd h.len h.big
def looksN (a b : List (BitVec 8)) : Int := if a.length = b.length then a.length else 0

end Go.Sx

/-
  Reading a number out of bytes: the codec's way and its reference's way come to the same. The order is 1 or 2, the width 1 to 8.
-/
namespace Go.Sx
open Go Go.Proofs

abbrev ShapeOk (o z : Int) : Prop := (o = 1 ∨ o = 2) ∧ 1 ≤ z ∧ z ≤ 8

theorem shape_b (w : World) (o z : Int) : Spec Try.prog 98 #[.int .i64 o, .int .i64 z] w (σ := Unit) (fun _ => True) (fun _ => .int .i64 (if ShapeOk o z then 0 else 1)) Nob (fun _ => []) := by
  refine enter Try.func98 rfl rfl (Mem.start w) ?_
  (repeat refine g_seq ?_)
  refine g_region ?_
  refine g_pu rfl rfl rfl (pu_assign rfl rfl) ?_
  refine g_nil ?_
  by_cases h : ShapeOk o z
  · have h1 : 1 ≤ z := h.2.1
    have h2 : z ≤ 8 := h.2.2
    rcases h.1 with h3 | h3 <;> (
      (repeat refine g_seq ?_)
      refine g_region ?_
      refine g_pu rfl rfl rfl (pu_move rfl rfl) ?_
      first | refine g_pu rfl rfl rfl (pu_neq_t rfl rfl rfl (by omega)) ?_ | refine g_pu rfl rfl rfl (pu_neq_f rfl rfl rfl (by omega)) ?_ | refine g_pu rfl rfl rfl (pu_neq rfl rfl rfl) ?_
      refine g_pu rfl rfl rfl (pu_move rfl rfl) ?_
      first | refine g_pass rfl rfl rfl ?_ | refine g_pu rfl rfl rfl (pu_move rfl rfl) ?_
      first | refine g_pass rfl rfl rfl ?_ | refine g_pu rfl rfl rfl (pu_neq_t rfl rfl rfl (by omega)) ?_ | refine g_pu rfl rfl rfl (pu_neq_f rfl rfl rfl (by omega)) ?_ | refine g_pu rfl rfl rfl (pu_neq rfl rfl rfl) ?_
      first | refine g_pu rfl rfl rfl (pu_pick_t rfl rfl rfl) ?_ | refine g_pu rfl rfl rfl (pu_pick_f rfl rfl rfl) ?_
      refine g_pu rfl rfl rfl (pu_move rfl rfl) ?_
      first | refine g_pass rfl rfl rfl ?_ | refine g_pu rfl rfl rfl (pu_move rfl rfl) ?_
      first | refine g_pass rfl rfl rfl ?_ | refine g_pu rfl rfl rfl (pu_lss_t rfl rfl rfl (by omega)) ?_ | refine g_pu rfl rfl rfl (pu_lss_f rfl rfl rfl (by omega)) ?_ | refine g_pu rfl rfl rfl (pu_lss rfl rfl rfl) ?_
      first | refine g_pu rfl rfl rfl (pu_pick_t rfl rfl rfl) ?_ | refine g_pu rfl rfl rfl (pu_pick_f rfl rfl rfl) ?_
      refine g_pu rfl rfl rfl (pu_move rfl rfl) ?_
      first | refine g_pass rfl rfl rfl ?_ | refine g_pu rfl rfl rfl (pu_move rfl rfl) ?_
      first | refine g_pass rfl rfl rfl ?_ | refine g_pu rfl rfl rfl (pu_gtr_t rfl rfl rfl (by omega)) ?_ | refine g_pu rfl rfl rfl (pu_gtr_f rfl rfl rfl (by omega)) ?_ | refine g_pu rfl rfl rfl (pu_gtr rfl rfl rfl) ?_
      first | refine g_pu rfl rfl rfl (pu_pick_t rfl rfl rfl) ?_ | refine g_pu rfl rfl rfl (pu_pick_f rfl rfl rfl) ?_
      refine g_nil ?_
      (repeat refine g_seq ?_)
      refine g_cond_f rfl (g_skip ?_)
      (repeat refine g_seq ?_)
      refine g_region ?_
      refine g_pu rfl rfl rfl (pu_assign rfl rfl) ?_
      refine g_nil ?_
      exact g_ret1 rfl rfl (fun w' hm => ⟨(), trivial, by rw [if_pos h], hm.grows [] trivial rfl⟩))
  · by_cases h1 : o = 1 <;> by_cases h2 : o = 2 <;> by_cases h3 : z < 1 <;> by_cases h4 : z > 8 <;> first | exact absurd ⟨by first | exact .inl h1 | exact .inr h2, by omega, by omega⟩ h | (
      (repeat refine g_seq ?_)
      refine g_region ?_
      refine g_pu rfl rfl rfl (pu_move rfl rfl) ?_
      first | refine g_pu rfl rfl rfl (pu_neq_t rfl rfl rfl (by omega)) ?_ | refine g_pu rfl rfl rfl (pu_neq_f rfl rfl rfl (by omega)) ?_ | refine g_pu rfl rfl rfl (pu_neq rfl rfl rfl) ?_
      refine g_pu rfl rfl rfl (pu_move rfl rfl) ?_
      first | refine g_pass rfl rfl rfl ?_ | refine g_pu rfl rfl rfl (pu_move rfl rfl) ?_
      first | refine g_pass rfl rfl rfl ?_ | refine g_pu rfl rfl rfl (pu_neq_t rfl rfl rfl (by omega)) ?_ | refine g_pu rfl rfl rfl (pu_neq_f rfl rfl rfl (by omega)) ?_ | refine g_pu rfl rfl rfl (pu_neq rfl rfl rfl) ?_
      first | refine g_pu rfl rfl rfl (pu_pick_t rfl rfl rfl) ?_ | refine g_pu rfl rfl rfl (pu_pick_f rfl rfl rfl) ?_
      refine g_pu rfl rfl rfl (pu_move rfl rfl) ?_
      first | refine g_pass rfl rfl rfl ?_ | refine g_pu rfl rfl rfl (pu_move rfl rfl) ?_
      first | refine g_pass rfl rfl rfl ?_ | refine g_pu rfl rfl rfl (pu_lss_t rfl rfl rfl (by omega)) ?_ | refine g_pu rfl rfl rfl (pu_lss_f rfl rfl rfl (by omega)) ?_ | refine g_pu rfl rfl rfl (pu_lss rfl rfl rfl) ?_
      first | refine g_pu rfl rfl rfl (pu_pick_t rfl rfl rfl) ?_ | refine g_pu rfl rfl rfl (pu_pick_f rfl rfl rfl) ?_
      refine g_pu rfl rfl rfl (pu_move rfl rfl) ?_
      first | refine g_pass rfl rfl rfl ?_ | refine g_pu rfl rfl rfl (pu_move rfl rfl) ?_
      first | refine g_pass rfl rfl rfl ?_ | refine g_pu rfl rfl rfl (pu_gtr_t rfl rfl rfl (by omega)) ?_ | refine g_pu rfl rfl rfl (pu_gtr_f rfl rfl rfl (by omega)) ?_ | refine g_pu rfl rfl rfl (pu_gtr rfl rfl rfl) ?_
      first | refine g_pu rfl rfl rfl (pu_pick_t rfl rfl rfl) ?_ | refine g_pu rfl rfl rfl (pu_pick_f rfl rfl rfl) ?_
      refine g_nil ?_
      (repeat refine g_seq ?_)
      refine g_cond_t rfl ?_
      (repeat refine g_seq ?_)
      refine g_region ?_
      refine g_pu rfl rfl rfl (pu_assign rfl rfl) ?_
      refine g_nil ?_
      exact g_ret1 rfl rfl (fun w' hm => ⟨(), trivial, by rw [if_neg h], hm.grows [] trivial rfl⟩))

theorem rshape_b (w : World) (o z : Int) : Spec Try.prog 66 #[.int .i64 o, .int .i64 z] w (σ := Unit) (fun _ => True) (fun _ => .bool (decide (ShapeOk o z))) Nob (fun _ => []) := by
  refine enter Try.func66 rfl rfl (Mem.start w) ?_
  (repeat refine g_seq ?_)
  refine g_region ?_
  refine g_pu rfl rfl rfl (pu_assign rfl rfl) ?_
  refine g_nil ?_
  by_cases h1 : o = 1 <;> by_cases h2 : o = 2 <;> by_cases h3 : z < 1 <;> by_cases h4 : z > 8 <;> (
    (repeat refine g_seq ?_)
    refine g_region ?_
    refine g_pu rfl rfl rfl (pu_move rfl rfl) ?_
    first | refine g_pu rfl rfl rfl (pu_eql_t rfl rfl rfl (by omega)) ?_ | refine g_pu rfl rfl rfl (pu_eql_f rfl rfl rfl (by omega)) ?_ | refine g_pu rfl rfl rfl (pu_eql rfl rfl rfl) ?_
    refine g_pu rfl rfl rfl (pu_move rfl rfl) ?_
    first | refine g_pass rfl rfl rfl ?_ | refine g_pu rfl rfl rfl (pu_move rfl rfl) ?_
    first | refine g_pass rfl rfl rfl ?_ | refine g_pu rfl rfl rfl (pu_eql_t rfl rfl rfl (by omega)) ?_ | refine g_pu rfl rfl rfl (pu_eql_f rfl rfl rfl (by omega)) ?_ | refine g_pu rfl rfl rfl (pu_eql rfl rfl rfl) ?_
    first | refine g_pu rfl rfl rfl (pu_pick_t rfl rfl rfl) ?_ | refine g_pu rfl rfl rfl (pu_pick_f rfl rfl rfl) ?_
    refine g_pu rfl rfl rfl (pu_move rfl rfl) ?_
    first | refine g_pass rfl rfl rfl ?_ | refine g_pu rfl rfl rfl (pu_move rfl rfl) ?_
    first | refine g_pass rfl rfl rfl ?_ | refine g_pu rfl rfl rfl (pu_geq_t rfl rfl rfl (by omega)) ?_ | refine g_pu rfl rfl rfl (pu_geq_f rfl rfl rfl (by omega)) ?_ | refine g_pu rfl rfl rfl (pu_geq rfl rfl rfl) ?_
    first | refine g_pu rfl rfl rfl (pu_pick_t rfl rfl rfl) ?_ | refine g_pu rfl rfl rfl (pu_pick_f rfl rfl rfl) ?_
    refine g_pu rfl rfl rfl (pu_move rfl rfl) ?_
    first | refine g_pass rfl rfl rfl ?_ | refine g_pu rfl rfl rfl (pu_move rfl rfl) ?_
    first | refine g_pass rfl rfl rfl ?_ | refine g_pu rfl rfl rfl (pu_leq_t rfl rfl rfl (by omega)) ?_ | refine g_pu rfl rfl rfl (pu_leq_f rfl rfl rfl (by omega)) ?_ | refine g_pu rfl rfl rfl (pu_leq rfl rfl rfl) ?_
    first | refine g_pu rfl rfl rfl (pu_pick_t rfl rfl rfl) ?_ | refine g_pu rfl rfl rfl (pu_pick_f rfl rfl rfl) ?_
    refine g_pu rfl rfl rfl (pu_assign rfl rfl) ?_
    refine g_nil ?_
    refine g_ret1 rfl rfl (fun w' hm => ⟨(), trivial, ?_, hm.grows [] trivial rfl⟩)
    first | exact congrArg (fun b => Ending.returned (.bool b)) (decide_eq_true (by unfold ShapeOk; omega)).symm | exact congrArg (fun b => Ending.returned (.bool b)) (decide_eq_false (by unfold ShapeOk; omega)).symm)

/-! ## The plain law -/
def beV (r : List (BitVec 8)) : BitVec 64 := r.foldl (fun n b => (n <<< 8) ||| b.setWidth 64) 0#64
def leV : List (BitVec 8) → BitVec 64
  | [] => 0#64
  | b :: t => b.setWidth 64 + 256#64 * leV t
def win (l : List (BitVec 8)) (t z : Nat) : List (BitVec 8) := (l.drop t).take z
def rdS (o : Int) (s : List (BitVec 8)) : List (BitVec 8) := if o = 2 then s else s.reverse
def getE (o : Int) (n : Nat) (t z : Int) : Int := if ¬ ShapeOk o z ∨ t < 0 then 1 else if (n : Int) < t + z then 2 else 0
def getV (o : Int) (l : List (BitVec 8)) (t z : Int) : BitVec 64 := if getE o l.length t z = 0 then beV (rdS o (win l t.toNat z.toNat)) else 0#64

theorem or_add (n : BitVec 64) (b : BitVec 8) : (n <<< 8) ||| b.setWidth 64 = b.setWidth 64 + 256#64 * n := by
  have h : (n <<< 8) &&& b.setWidth 64 = 0#64 := by
    apply BitVec.eq_of_getLsbD_eq
    intro i hi
    by_cases h : i < 8
    · simp [h]
    · simp [BitVec.getLsbD_of_ge b i (by omega)]
  rw [← BitVec.add_eq_or_of_and_eq_zero _ _ h, BitVec.add_comm]
  congr 1
  rw [BitVec.shiftLeft_eq_mul_twoPow, BitVec.mul_comm]
  rfl
theorem beV_snoc (r : List (BitVec 8)) (b : BitVec 8) : beV (r ++ [b]) = (beV r <<< 8) ||| b.setWidth 64 := by simp [beV]
theorem leV_rev (r : List (BitVec 8)) : leV r = beV r.reverse := by
  induction r with
  | nil => rfl
  | cons b r ih => rw [List.reverse_cons, beV_snoc, or_add, ← ih]; rfl
theorem beV_rev (r : List (BitVec 8)) : beV r = leV r.reverse := by rw [leV_rev, List.reverse_reverse]
theorem leV_snoc (t : List (BitVec 8)) (b : BitVec 8) : leV (t ++ [b]) = leV t + (256#64 ^ t.length) * b.setWidth 64 := by
  induction t with
  | nil => simp [leV]
  | cons a t ih =>
    simp only [List.cons_append, leV, ih, List.length_cons]
    rw [BitVec.mul_add, BitVec.add_assoc, ← BitVec.mul_assoc, BitVec.pow_succ, BitVec.mul_comm (256#64 ^ t.length) 256#64]
theorem win_length {l : List (BitVec 8)} {t z : Nat} (h : t + z ≤ l.length) : (win l t z).length = z := by simp [win]; omega
theorem win_get {l : List (BitVec 8)} {t z i : Nat} (hi : i < z) : (win l t z)[i]? = l[t + i]? := by simp [win, List.getElem?_take, hi]
theorem rdS_length {o : Int} {s : List (BitVec 8)} : (rdS o s).length = s.length := by unfold rdS; split <;> simp
/-- The byte that is read in round i. -/
theorem rdS_get {o : Int} {l : List (BitVec 8)} {t z i : Nat} (h : t + z ≤ l.length) (hi : i < z) : (rdS o (win l t z))[i]? = l[if o = 2 then t + i else t + z - 1 - i]? := by
  unfold rdS
  split
  · exact win_get hi
  · rw [List.getElem?_reverse (by rw [win_length h]; exact hi), win_length h, win_get (by omega)]
    congr 1; omega
theorem rdSr_get {o : Int} {l : List (BitVec 8)} {t z i : Nat} (h : t + z ≤ l.length) (hi : i < z) : (rdS o (win l t z)).reverse[i]? = l[if o = 2 then t + z - 1 - i else t + i]? := by
  rw [List.getElem?_reverse (by rw [rdS_length, win_length h]; exact hi), rdS_length, win_length h, rdS_get h (by omega)]
  split <;> (congr 1; omega)

end Go.Sx

/-
  The reference's way to read a number out of bytes. The order is 1 or 2, the width 1 to 8.
-/
namespace Go.Sx
open Go Go.Proofs

theorem RGet_b (w : World) (o : Int) {p : Option Addr} {n : Nat} (c : Nat) {l : List (BitVec 8)} (t z : Int) (ha : By w p n l) :
    Spec Try.prog 51 #[.int .i64 o, .slice p n c, .int .i64 t, .int .i64 z] w (σ := Unit) (fun _ => True) (fun _ => .tuple #[b64 (getV o l t z), .int .i64 (getE o n t z)]) Nob (fun _ => []) := by
  refine enter Try.func51 rfl rfl (Mem.start w) ?_
  have hn := ha.len
  have hbig := ha.big
  (repeat refine g_seq ?_)
  refine g_region ?_
  refine g_pu rfl rfl rfl (pu_assign (v := b64 0#64) rfl rfl) ?_
  refine g_pu rfl rfl rfl (pu_assign rfl rfl) ?_
  refine g_nil ?_
  by_cases hs : ShapeOk o z
  · have hz := hs.2
    by_cases ht : t < 0
    · (repeat refine g_seq ?_)
      refine g_region ?_
      refine g_pu rfl rfl rfl (pu_move rfl rfl) ?_
      refine g_pu rfl rfl rfl (pu_move rfl rfl) ?_
      refine g_call [] rfl rfl rfl rfl rfl rfl (fun w' hm => rshape_b w' o z) (fun _ _ => ?_)
      refine g_as (t := 16) (u := .bool true) rfl (by rw [decide_eq_true hs]) rfl ?_
      refine g_pu rfl rfl rfl (pu_not rfl rfl) ?_
      refine g_pu rfl rfl rfl (pu_move rfl rfl) ?_
      first | refine g_pass rfl rfl rfl ?_ | refine g_pu rfl rfl rfl (pu_move rfl rfl) ?_
      first | refine g_pass rfl rfl rfl ?_ | refine g_pu rfl rfl rfl (pu_lss_t rfl rfl rfl (by omega)) ?_ | refine g_pu rfl rfl rfl (pu_lss_f rfl rfl rfl (by omega)) ?_ | refine g_pu rfl rfl rfl (pu_lss rfl rfl rfl) ?_
      first | refine g_pu rfl rfl rfl (pu_pick_t rfl rfl rfl) ?_ | refine g_pu rfl rfl rfl (pu_pick_f rfl rfl rfl) ?_
      refine g_nil ?_
      (repeat refine g_seq ?_)
      refine g_cond_t rfl ?_
      (repeat refine g_seq ?_)
      refine g_region ?_
      refine g_pu rfl rfl rfl (pu_assign (v := b64 0#64) rfl rfl) ?_
      refine g_pu rfl rfl rfl (pu_assign rfl rfl) ?_
      refine g_nil ?_
      refine g_ret2 rfl rfl rfl (fun w' hm => ⟨(), trivial, ?_, hm.grows [] trivial rfl⟩)
      have he : getE o n t z = 1 := by simp [getE, ht]
      simp [getV, hn, he]
    · obtain ⟨t, rfl⟩ := Int.eq_ofNat_of_zero_le (show 0 ≤ t by omega)
      obtain ⟨z, rfl⟩ := Int.eq_ofNat_of_zero_le (show 0 ≤ z by omega)
      (repeat refine g_seq ?_)
      refine g_region ?_
      refine g_pu rfl rfl rfl (pu_move rfl rfl) ?_
      refine g_pu rfl rfl rfl (pu_move rfl rfl) ?_
      refine g_call [] rfl rfl rfl rfl rfl rfl (fun w' hm => rshape_b w' o z) (fun _ _ => ?_)
      refine g_as (t := 16) (u := .bool true) rfl (by rw [decide_eq_true hs]) rfl ?_
      refine g_pu rfl rfl rfl (pu_not rfl rfl) ?_
      refine g_pu rfl rfl rfl (pu_move rfl rfl) ?_
      first | refine g_pass rfl rfl rfl ?_ | refine g_pu rfl rfl rfl (pu_move rfl rfl) ?_
      first | refine g_pass rfl rfl rfl ?_ | refine g_pu rfl rfl rfl (pu_lss_t rfl rfl rfl (by omega)) ?_ | refine g_pu rfl rfl rfl (pu_lss_f rfl rfl rfl (by omega)) ?_ | refine g_pu rfl rfl rfl (pu_lss rfl rfl rfl) ?_
      first | refine g_pu rfl rfl rfl (pu_pick_t rfl rfl rfl) ?_ | refine g_pu rfl rfl rfl (pu_pick_f rfl rfl rfl) ?_
      refine g_nil ?_
      (repeat refine g_seq ?_)
      refine g_cond_f rfl (g_skip ?_)
      by_cases hr : t + z ≤ n
      · (repeat refine g_seq ?_)
        refine g_region ?_
        refine g_pu rfl rfl rfl (pu_move rfl rfl) ?_
        refine g_pu rfl rfl rfl (pu_move rfl rfl) ?_
        first | refine g_pu rfl rfl rfl (pu_len rfl rfl) ?_ | refine g_pu rfl rfl rfl (pu_lenS rfl rfl) ?_
        first | refine g_pu rfl rfl rfl (pu_gtr_t rfl rfl rfl (by omega)) ?_ | refine g_pu rfl rfl rfl (pu_gtr_f rfl rfl rfl (by omega)) ?_ | refine g_pu rfl rfl rfl (pu_gtr rfl rfl rfl) ?_
        refine g_pu rfl rfl rfl (pu_move rfl rfl) ?_
        first | refine g_pass rfl rfl rfl ?_ | refine g_pu rfl rfl rfl (pu_move rfl rfl) ?_
        first | refine g_pass rfl rfl rfl ?_ | refine g_pu rfl rfl rfl (pu_move rfl rfl) ?_
        first | refine g_pass rfl rfl rfl ?_ | refine g_pu rfl rfl rfl (pu_len rfl rfl) ?_ | refine g_pu rfl rfl rfl (pu_lenS rfl rfl) ?_
        first | refine g_pass rfl rfl rfl ?_ | refine g_pu rfl rfl rfl (pu_move rfl rfl) ?_
        first | refine g_pass rfl rfl rfl ?_ | refine g_pu rfl rfl rfl (pu_subI rfl rfl rfl (by omega)) ?_
        first | refine g_pass rfl rfl rfl ?_ | refine g_pu rfl rfl rfl (pu_gtr_t rfl rfl rfl (by omega)) ?_ | refine g_pu rfl rfl rfl (pu_gtr_f rfl rfl rfl (by omega)) ?_ | refine g_pu rfl rfl rfl (pu_gtr rfl rfl rfl) ?_
        first | refine g_pu rfl rfl rfl (pu_pick_t rfl rfl rfl) ?_ | refine g_pu rfl rfl rfl (pu_pick_f rfl rfl rfl) ?_
        refine g_nil ?_
        (repeat refine g_seq ?_)
        refine g_cond_f rfl (g_skip ?_)
        have he : getE o n t z = 0 := by unfold getE; rw [if_neg (by omega), if_neg (by omega)]
        have hv : getV o l t z = beV (rdS o (win l t z)) := by simp [getV, hn, he]
        (repeat refine g_seq ?_)
        refine g_region ?_
        refine g_pu rfl rfl rfl (pu_assign (v := b64 0#64) rfl rfl) ?_
        refine g_nil ?_
        (repeat refine g_seq ?_)
        refine g_region ?_
        refine g_pu rfl rfl rfl (pu_assign (v := b64 1#64) rfl rfl) ?_
        refine g_nil ?_
        (repeat refine g_seq ?_)
        refine g_region ?_
        refine g_pu rfl rfl rfl (pu_assign rfl rfl) ?_
        refine g_nil ?_
        have hul : (rdS o (win l t z)).reverse.length = z := by rw [List.length_reverse, rdS_length, win_length (by omega)]
        refine g_block (g_loop2 (fun (i : Nat) (x : BitVec 64) => [(0, .int .i64 o), (1, .slice p n c), (2, .int .i64 (t : Int)), (3, .int .i64 (z : Int)), (10, b64 x), (11, b64 (256#64 ^ i)), (12, .int .i64 (i : Int))]) (fun _ _ => []) (fun i x => i ≤ z ∧ x = leV ((rdS o (win l t z)).reverse.take i)) (fun i _ => z - i) 0 0#64 ⟨rfl, rfl, rfl, rfl, rfl, rfl, rfl, trivial⟩ trivial (by simp [leV]) ?_)
        intro i x ⟨hi, hx⟩
        by_cases hlt : i < z
        · (repeat refine g_seq ?_)
          refine g_region ?_
          refine g_pu rfl rfl rfl (pu_move rfl rfl) ?_
          refine g_pu rfl rfl rfl (pu_move rfl rfl) ?_
          first | refine g_pu rfl rfl rfl (pu_lss_t rfl rfl rfl (by omega)) ?_ | refine g_pu rfl rfl rfl (pu_lss_f rfl rfl rfl (by omega)) ?_ | refine g_pu rfl rfl rfl (pu_lss rfl rfl rfl) ?_
          refine g_nil ?_
          (repeat refine g_seq ?_)
          refine g_cond_t rfl (g_skip ?_)
          have hl := rdSr_get (o := o) (l := l) (t := t) (z := z) (i := i) (by omega) hlt
          (repeat refine g_seq ?_); refine g_block ?_
          (repeat refine g_seq ?_)
          refine g_region ?_
          refine g_pu rfl rfl rfl (pu_move rfl rfl) ?_
          refine g_pu rfl rfl rfl (pu_move rfl rfl) ?_
          refine g_pu rfl rfl rfl (pu_addI rfl rfl rfl (by omega)) ?_
          refine g_pu rfl rfl rfl (pu_assign rfl rfl) ?_
          refine g_nil ?_
          refine g_seq ?_
          refine g_join (σ := Int) (fun k => [(0, .int .i64 o), (1, .slice p n c), (2, .int .i64 (t : Int)), (3, .int .i64 (z : Int)), (10, b64 x), (11, b64 (256#64 ^ i)), (12, .int .i64 (i : Int)), (13, .int .i64 k)]) (fun _ => []) (fun k => k = if o = 2 then (t : Int) + z - 1 - i else t + i) ?_ (fun k hk => ?_)
          · rcases hs.1 with h1 | h1
            · (repeat refine g_seq ?_)
              refine g_region ?_
              refine g_pu rfl rfl rfl (pu_move rfl rfl) ?_
              first | refine g_pu rfl rfl rfl (pu_eql_t rfl rfl rfl (by omega)) ?_ | refine g_pu rfl rfl rfl (pu_eql_f rfl rfl rfl (by omega)) ?_ | refine g_pu rfl rfl rfl (pu_eql rfl rfl rfl) ?_
              refine g_nil ?_
              (repeat refine g_seq ?_)
              refine g_cond_f rfl (g_skip ?_)
              exact g_meet _ (by rw [if_neg (by omega)]) ⟨rfl, rfl, rfl, rfl, rfl, rfl, rfl, rfl, trivial⟩ trivial
            · (repeat refine g_seq ?_)
              refine g_region ?_
              refine g_pu rfl rfl rfl (pu_move rfl rfl) ?_
              first | refine g_pu rfl rfl rfl (pu_eql_t rfl rfl rfl (by omega)) ?_ | refine g_pu rfl rfl rfl (pu_eql_f rfl rfl rfl (by omega)) ?_ | refine g_pu rfl rfl rfl (pu_eql rfl rfl rfl) ?_
              refine g_nil ?_
              (repeat refine g_seq ?_)
              refine g_cond_t rfl ?_
              (repeat refine g_seq ?_)
              refine g_region ?_
              refine g_pu rfl rfl rfl (pu_move rfl rfl) ?_
              refine g_pu rfl rfl rfl (pu_move rfl rfl) ?_
              refine g_pu rfl rfl rfl (pu_addI rfl rfl rfl (by omega)) ?_
              refine g_pu rfl rfl rfl (pu_subI rfl rfl rfl (by omega)) ?_
              refine g_pu rfl rfl rfl (pu_move rfl rfl) ?_
              refine g_pu rfl rfl rfl (pu_subI rfl rfl rfl (by omega)) ?_
              refine g_pu rfl rfl rfl (pu_assign rfl rfl) ?_
              refine g_nil ?_
              exact g_meet _ (by rw [if_pos h1]) ⟨rfl, rfl, rfl, rfl, rfl, rfl, rfl, rfl, trivial⟩ trivial
          · have hkn : k = ((if o = 2 then t + z - 1 - i else t + i : Nat) : Int) := by rw [hk]; split <;> omega
            have hlt2 : (if o = 2 then t + z - 1 - i else t + i) < n := by split <;> omega
            generalize (if o = 2 then t + z - 1 - i else t + i) = j at hkn hlt2 hl
            have h1 : l[j]? = some l[j] := List.getElem?_eq_getElem (by omega)
            rw [h1] at hl
            (repeat refine g_seq ?_)
            refine g_region ?_
            refine g_pu rfl rfl rfl (pu_move rfl rfl) ?_
            refine g_pu rfl rfl rfl (pu_move rfl rfl) ?_
            refine g_pu rfl rfl rfl (pu_move rfl rfl) ?_
            refine g_pu rfl rfl rfl (pu_move rfl rfl) ?_
            refine g_pu rfl rfl rfl (pu_atB j (fun w' hm => ha.m hm) rfl rfl rfl (by omega) (by omega)) ?_
            refine g_pu rfl rfl rfl (pu_rdB (fun w' hm => ha.m hm) rfl rfl h1) ?_
            refine g_pu rfl rfl rfl (pu_conv8_64 rfl rfl) ?_
            refine g_pu rfl rfl rfl (pu_mul64 rfl rfl rfl) ?_
            refine g_pu rfl rfl rfl (pu_add64 rfl rfl rfl) ?_
            refine g_pu rfl rfl rfl (pu_assign rfl rfl) ?_
            refine g_nil ?_
            (repeat refine g_seq ?_)
            refine g_region ?_
            refine g_pu rfl rfl rfl (pu_move rfl rfl) ?_
            refine g_pu rfl rfl rfl (pu_mul64 (b := 256#64) rfl rfl rfl) ?_
            refine g_pu rfl rfl rfl (pu_assign rfl rfl) ?_
            refine g_nil ?_
            refine g_blk ?_
            (repeat refine g_seq ?_)
            refine g_region ?_
            refine g_pu rfl rfl rfl (pu_move rfl rfl) ?_
            refine g_pu rfl rfl rfl (pu_addI rfl rfl rfl (by omega)) ?_
            refine g_pu rfl rfl rfl (pu_assign rfl rfl) ?_
            refine g_nil ?_
            refine g_round2 (i + 1) _ ⟨by omega, ?_⟩ (by omega) ⟨rfl, rfl, rfl, rfl, rfl, rfl, rfl, trivial⟩ trivial
            rw [List.take_add_one, hl, Option.toList_some, leV_snoc, List.length_take, hul, Nat.min_eq_left (by omega), hx]
        · (repeat refine g_seq ?_)
          refine g_region ?_
          refine g_pu rfl rfl rfl (pu_move rfl rfl) ?_
          refine g_pu rfl rfl rfl (pu_move rfl rfl) ?_
          first | refine g_pu rfl rfl rfl (pu_lss_t rfl rfl rfl (by omega)) ?_ | refine g_pu rfl rfl rfl (pu_lss_f rfl rfl rfl (by omega)) ?_ | refine g_pu rfl rfl rfl (pu_lss rfl rfl rfl) ?_
          refine g_nil ?_
          (repeat refine g_seq ?_)
          refine g_cond_f rfl (g_exit rfl ?_)
          (repeat refine g_seq ?_)
          refine g_region ?_
          refine g_pu rfl rfl rfl (pu_move rfl rfl) ?_
          refine g_pu rfl rfl rfl (pu_assign rfl rfl) ?_
          refine g_pu rfl rfl rfl (pu_assign rfl rfl) ?_
          refine g_nil ?_
          have e : i = z := by omega
          subst e
          rw [List.take_of_length_le (by omega)] at hx
          exact g_ret2 rfl rfl rfl (fun w' hm => ⟨(), trivial, by rw [he, hv, hx, beV_rev], hm.grows [] trivial rfl⟩)
      · have he : getE o n t z = 2 := by unfold getE; rw [if_neg (by omega), if_pos (by omega)]
        by_cases h1 : z > n
        · (repeat refine g_seq ?_)
          refine g_region ?_
          refine g_pu rfl rfl rfl (pu_move rfl rfl) ?_
          refine g_pu rfl rfl rfl (pu_move rfl rfl) ?_
          first | refine g_pu rfl rfl rfl (pu_len rfl rfl) ?_ | refine g_pu rfl rfl rfl (pu_lenS rfl rfl) ?_
          first | refine g_pu rfl rfl rfl (pu_gtr_t rfl rfl rfl (by omega)) ?_ | refine g_pu rfl rfl rfl (pu_gtr_f rfl rfl rfl (by omega)) ?_ | refine g_pu rfl rfl rfl (pu_gtr rfl rfl rfl) ?_
          refine g_pu rfl rfl rfl (pu_move rfl rfl) ?_
          first | refine g_pass rfl rfl rfl ?_ | refine g_pu rfl rfl rfl (pu_move rfl rfl) ?_
          first | refine g_pass rfl rfl rfl ?_ | refine g_pu rfl rfl rfl (pu_move rfl rfl) ?_
          first | refine g_pass rfl rfl rfl ?_ | refine g_pu rfl rfl rfl (pu_len rfl rfl) ?_ | refine g_pu rfl rfl rfl (pu_lenS rfl rfl) ?_
          first | refine g_pass rfl rfl rfl ?_ | refine g_pu rfl rfl rfl (pu_move rfl rfl) ?_
          first | refine g_pass rfl rfl rfl ?_ | refine g_pu rfl rfl rfl (pu_subI rfl rfl rfl (by omega)) ?_
          first | refine g_pass rfl rfl rfl ?_ | refine g_pu rfl rfl rfl (pu_gtr_t rfl rfl rfl (by omega)) ?_ | refine g_pu rfl rfl rfl (pu_gtr_f rfl rfl rfl (by omega)) ?_ | refine g_pu rfl rfl rfl (pu_gtr rfl rfl rfl) ?_
          first | refine g_pu rfl rfl rfl (pu_pick_t rfl rfl rfl) ?_ | refine g_pu rfl rfl rfl (pu_pick_f rfl rfl rfl) ?_
          refine g_nil ?_
          (repeat refine g_seq ?_)
          refine g_cond_t rfl ?_
          (repeat refine g_seq ?_)
          refine g_region ?_
          refine g_pu rfl rfl rfl (pu_assign (v := b64 0#64) rfl rfl) ?_
          refine g_pu rfl rfl rfl (pu_assign rfl rfl) ?_
          refine g_nil ?_
          exact g_ret2 rfl rfl rfl (fun w' hm => ⟨(), trivial, by simp [getV, hn, he], hm.grows [] trivial rfl⟩)
        · (repeat refine g_seq ?_)
          refine g_region ?_
          refine g_pu rfl rfl rfl (pu_move rfl rfl) ?_
          refine g_pu rfl rfl rfl (pu_move rfl rfl) ?_
          first | refine g_pu rfl rfl rfl (pu_len rfl rfl) ?_ | refine g_pu rfl rfl rfl (pu_lenS rfl rfl) ?_
          first | refine g_pu rfl rfl rfl (pu_gtr_t rfl rfl rfl (by omega)) ?_ | refine g_pu rfl rfl rfl (pu_gtr_f rfl rfl rfl (by omega)) ?_ | refine g_pu rfl rfl rfl (pu_gtr rfl rfl rfl) ?_
          refine g_pu rfl rfl rfl (pu_move rfl rfl) ?_
          first | refine g_pass rfl rfl rfl ?_ | refine g_pu rfl rfl rfl (pu_move rfl rfl) ?_
          first | refine g_pass rfl rfl rfl ?_ | refine g_pu rfl rfl rfl (pu_move rfl rfl) ?_
          first | refine g_pass rfl rfl rfl ?_ | refine g_pu rfl rfl rfl (pu_len rfl rfl) ?_ | refine g_pu rfl rfl rfl (pu_lenS rfl rfl) ?_
          first | refine g_pass rfl rfl rfl ?_ | refine g_pu rfl rfl rfl (pu_move rfl rfl) ?_
          first | refine g_pass rfl rfl rfl ?_ | refine g_pu rfl rfl rfl (pu_subI rfl rfl rfl (by omega)) ?_
          first | refine g_pass rfl rfl rfl ?_ | refine g_pu rfl rfl rfl (pu_gtr_t rfl rfl rfl (by omega)) ?_ | refine g_pu rfl rfl rfl (pu_gtr_f rfl rfl rfl (by omega)) ?_ | refine g_pu rfl rfl rfl (pu_gtr rfl rfl rfl) ?_
          first | refine g_pu rfl rfl rfl (pu_pick_t rfl rfl rfl) ?_ | refine g_pu rfl rfl rfl (pu_pick_f rfl rfl rfl) ?_
          refine g_nil ?_
          (repeat refine g_seq ?_)
          refine g_cond_t rfl ?_
          (repeat refine g_seq ?_)
          refine g_region ?_
          refine g_pu rfl rfl rfl (pu_assign (v := b64 0#64) rfl rfl) ?_
          refine g_pu rfl rfl rfl (pu_assign rfl rfl) ?_
          refine g_nil ?_
          exact g_ret2 rfl rfl rfl (fun w' hm => ⟨(), trivial, by simp [getV, hn, he], hm.grows [] trivial rfl⟩)
  · (repeat refine g_seq ?_)
    refine g_region ?_
    refine g_pu rfl rfl rfl (pu_move rfl rfl) ?_
    refine g_pu rfl rfl rfl (pu_move rfl rfl) ?_
    refine g_call [] rfl rfl rfl rfl rfl rfl (fun w' hm => rshape_b w' o z) (fun _ _ => ?_)
    refine g_as (t := 16) (u := .bool false) rfl (by rw [decide_eq_false hs]) rfl ?_
    refine g_pu rfl rfl rfl (pu_not rfl rfl) ?_
    refine g_pu rfl rfl rfl (pu_move rfl rfl) ?_
    first | refine g_pass rfl rfl rfl ?_ | refine g_pu rfl rfl rfl (pu_move rfl rfl) ?_
    first | refine g_pass rfl rfl rfl ?_ | refine g_pu rfl rfl rfl (pu_lss_t rfl rfl rfl (by omega)) ?_ | refine g_pu rfl rfl rfl (pu_lss_f rfl rfl rfl (by omega)) ?_ | refine g_pu rfl rfl rfl (pu_lss rfl rfl rfl) ?_
    first | refine g_pu rfl rfl rfl (pu_pick_t rfl rfl rfl) ?_ | refine g_pu rfl rfl rfl (pu_pick_f rfl rfl rfl) ?_
    refine g_nil ?_
    (repeat refine g_seq ?_)
    refine g_cond_t rfl ?_
    (repeat refine g_seq ?_)
    refine g_region ?_
    refine g_pu rfl rfl rfl (pu_assign (v := b64 0#64) rfl rfl) ?_
    refine g_pu rfl rfl rfl (pu_assign rfl rfl) ?_
    refine g_nil ?_
    refine g_ret2 rfl rfl rfl (fun w' hm => ⟨(), trivial, ?_, hm.grows [] trivial rfl⟩)
    have he : getE o n t z = 1 := by unfold getE; rw [if_pos (.inl hs)]
    simp [getV, hn, he]
end Go.Sx

/-
  Copies of lists of bytes; the place by place turning of lists, of the codec and of its reference. A list of lists takes at most 2^47 bytes.
-/
namespace Go.Sx
open Go Go.Proofs

theorem isSl_of {L : List Value} (h : L.all isSl = true) {v : Value} (hv : v ∈ L) : ∃ q m c, v = .slice q m c := by
  have := List.all_eq_true.1 h v hv
  cases v <;> simp [isSl] at this ⊢
theorem oneCell_sl {L : List Value} (h : L.all isSl = true) : ∀ u ∈ L, u.oneCell' = true := fun u hu => by
  obtain ⟨q, m, c, rfl⟩ := isSl_of h hu; rfl

/-! ## Turning lists by one another -/
def xorL (a b : List (BitVec 8)) : List (BitVec 8) := List.zipWith (· ^^^ ·) a b
def xorAt (a b : List (BitVec 8)) (i : Nat) : List (BitVec 8) := (xorL a b).take i ++ a.drop i
def xorOk : List (List (BitVec 8)) → Bool
  | [] => true
  | l :: r => r.all fun m => m.length == l.length
def xorV : List (List (BitVec 8)) → List (BitVec 8)
  | [] => []
  | l :: r => if xorOk (l :: r) then r.foldl xorL l else []
def xorE (ls : List (List (BitVec 8))) : Int := if xorOk ls then 0 else 2

theorem xorL_length {a b : List (BitVec 8)} (h : b.length = a.length) : (xorL a b).length = a.length := by simp [xorL, h]
theorem xorAt_zero (a b : List (BitVec 8)) : xorAt a b 0 = a := by simp [xorAt]
theorem xorAt_end {a b : List (BitVec 8)} {n : Nat} (h : b.length = a.length) (hn : a.length = n) : xorAt a b n = xorL a b := by
  unfold xorAt
  rw [List.take_of_length_le (by rw [xorL_length h]; omega), List.drop_of_length_le (by omega), List.append_nil]
theorem xorAt_length {a b : List (BitVec 8)} {i : Nat} (h : b.length = a.length) (hi : i ≤ a.length) : (xorAt a b i).length = a.length := by
  simp [xorAt, xorL_length h]; omega
theorem xorAt_get {a b : List (BitVec 8)} {i : Nat} (h : b.length = a.length) (hi : i < a.length) : (xorAt a b i)[i]? = a[i]? := by
  unfold xorAt
  rw [List.getElem?_append_right (by simp [xorL_length h]; omega)]
  simp [xorL_length h, Nat.min_eq_left (Nat.le_of_lt hi)]
theorem xorAt_set {a b : List (BitVec 8)} {i : Nat} {x y : BitVec 8} (h : b.length = a.length) (hx : a[i]? = some x) (hy : b[i]? = some y) (J : List Value) :
    (bs (xorAt a b i) ++ J).set i (b8 (x ^^^ y)) = bs (xorAt a b (i + 1)) ++ J := by
  have hi : i < a.length := (List.getElem?_eq_some_iff.1 hx).1
  have hl : (bs (xorAt a b i)).length = a.length := by rw [bs_length, xorAt_length h (by omega)]
  rw [List.set_append_left _ _ (by omega)]
  congr 1
  apply List.ext_getElem?
  intro j
  have hz : (xorL a b)[i]? = some (x ^^^ y) := by simp [xorL, List.getElem?_zipWith, hx, hy]
  have hxl := xorL_length h
  by_cases hj : i = j
  · subst hj
    rw [List.getElem?_set_self (by omega)]
    simp only [bs, List.getElem?_map, xorAt]
    rw [List.getElem?_append_left (by simp [hxl]; omega), List.getElem?_take, if_pos (by omega), hz]
    rfl
  · rw [List.getElem?_set_ne hj]
    simp only [bs, List.getElem?_map]
    congr 1
    unfold xorAt
    by_cases hlt : j < i
    · rw [List.getElem?_append_left (by simp [hxl]; omega), List.getElem?_append_left (by simp [hxl]; omega), List.getElem?_take, List.getElem?_take, if_pos hlt, if_pos (by omega)]
    · rw [List.getElem?_append_right (by simp [hxl]; omega), List.getElem?_append_right (by simp [hxl]; omega)]
      simp only [List.length_take, hxl, List.getElem?_drop]
      congr 1; omega

theorem ByL.cut {w : World} {p : Option Addr} {n c : Nat} {L : List Value} {ls : List (List (BitVec 8))} (h : ByL w p n L ls) (hc : n ≤ c) (j : Nat) : ByL w (cutp p c j 1) (n - j) (L.drop j) (ls.drop j) := by
  refine ⟨h.rd.cut (by rw [h.len]; exact hc), by rw [List.length_drop, h.len], ⟨by simp [h.els.1], fun i x y hx hy => ?_⟩, by have := h.big; omega⟩
  rw [List.getElem?_drop] at hx hy
  exact h.els.2 _ x y hx hy

end Go.Sx

/-
  The reference's turning of lists by one another. A list of lists takes at most 2^47 bytes.
-/
namespace Go.Sx
open Go Go.Proofs

def accR (ls : List (List (BitVec 8))) : Nat → List (BitVec 8)
  | 0 => []
  | i + 1 => match ls with
    | [] => []
    | l :: r => (r.take i).foldl xorL l
def okR (ls : List (List (BitVec 8))) : Nat → Bool
  | 0 => true
  | i + 1 => match ls with
    | [] => true
    | l :: r => ((r.take i).all fun m => m.length == l.length) && ((r.take i).foldl xorL l).length == l.length

end Go.Sx

/-
  Writing a number as bytes: the codec's way, its reference's way, and that it is read back.
-/
namespace Go.Sx
open Go Go.Proofs

theorem get_set (m : List (BitVec 8)) (i k : Nat) (x : BitVec 8) (hi : i < m.length) : (m.set i x)[k]? = if i = k then some x else m[k]? := by
  rw [List.getElem?_set]
  split
  · rfl
  · rfl
theorem bs_set (m : List (BitVec 8)) (J : List Value) (i : Nat) (x : BitVec 8) (hi : i < m.length) : (bs m ++ J).set i (b8 x) = bs (m.set i x) ++ J := by
  rw [List.set_append_left _ _ (by rw [bs_length]; exact hi)]
  simp [bs, List.map_set]
theorem bs_load {m : List (BitVec 8)} {J : List Value} {i : Nat} {x : BitVec 8} (h : m[i]? = some x) : (bs m ++ J).toArray[0 + i]? = some (b8 x) := by
  have hi := (List.getElem?_eq_some_iff.1 h).1
  rw [Nat.zero_add, List.getElem?_toArray, List.getElem?_append_left (by rw [bs_length]; exact hi)]
  exact bs_get h

theorem Reverse_b (w : World) (x : Ow) {n : Nat} {l : List (BitVec 8)} (h : Own 5 1 x.p x.c (bs l) w) (hb : ∀ j, At x.p j → j < w.heap.size) (hn : l.length = n) (hbig : n ≤ 140737488355328) :
    Spec Try.prog 99 #[x.sl n] w (σ := Unit) (fun _ => True) (fun _ => .tuple #[]) (At x.p) (fun _ => [x.ck 5 1 (bs l.reverse)]) := by
  obtain ⟨p, c⟩ := x
  refine enter Try.func99 rfl rfl (Mem.start1 (.fact (At p) (Own 5 1 p c (bs l))) h Own.loc hb) ?_
  (repeat refine g_seq ?_)
  refine g_region ?_
  refine g_pu rfl rfl rfl (pu_move rfl rfl) ?_
  first | refine g_pu rfl rfl rfl (pu_len rfl rfl) ?_ | refine g_pu rfl rfl rfl (pu_lenS rfl rfl) ?_
  refine g_pu rfl rfl rfl (pu_subI rfl rfl rfl (by omega)) ?_
  refine g_pu rfl rfl rfl (pu_assign rfl rfl) ?_
  refine g_pu rfl rfl rfl (pu_assign rfl rfl) ?_
  refine g_nil ?_
  refine g_block (g_loop2 (fun (i : Nat) (m : List (BitVec 8)) => [(0, .slice p n c), (2, .int .i64 (i : Int)), (3, .int .i64 ((n : Int) - 1 - i))]) (fun _ m => [(0, .fact (At p) (Own 5 1 p c (bs m)))])
    (fun i m => 2 * i ≤ n + 1 ∧ m.length = n ∧ ∀ k, k < n → m[k]? = if k < i ∨ n - 1 - k < i then l[n - 1 - k]? else l[k]?) (fun i _ => n - i) 0 l ⟨rfl, rfl, congrArg (fun z => some (Value.int .i64 z)) (by omega), trivial⟩ ⟨rfl, trivial⟩ ⟨by omega, hn, fun k hk => by simp⟩ ?_)
  intro i m ⟨hi, hml, hm⟩
  by_cases hlt : 2 * i + 1 < n
  · (repeat refine g_seq ?_)
    refine g_region ?_
    refine g_pu rfl rfl rfl (pu_move rfl rfl) ?_
    refine g_pu rfl rfl rfl (pu_move rfl rfl) ?_
    first | refine g_pu rfl rfl rfl (pu_lss_t rfl rfl rfl (by omega)) ?_ | refine g_pu rfl rfl rfl (pu_lss_f rfl rfl rfl (by omega)) ?_ | refine g_pu rfl rfl rfl (pu_lss rfl rfl rfl) ?_
    refine g_nil ?_
    (repeat refine g_seq ?_)
    refine g_cond_t rfl (g_skip ?_)
    obtain ⟨j, hj⟩ : ∃ j, j = n - 1 - i := ⟨_, rfl⟩
    have h1 : m[i]? = some m[i] := List.getElem?_eq_getElem (by omega)
    have h2 : m[j]? = some m[j] := List.getElem?_eq_getElem (by omega)
    have h3 := hm i (by omega)
    have h4 := hm j (by omega)
    rw [if_neg (by omega), h1] at h3
    rw [if_neg (by omega), h2] at h4
    generalize m[i] = y at h1 h3
    generalize m[j] = z at h2 h4
    (repeat refine g_seq ?_); refine g_block ?_
    refine g_row 0 rfl (by rw [bs_length]; omega) (fun bb J hp hJ hcap => ?_)
    subst hp
    (repeat refine g_seq ?_)
    refine g_any (13, [2, 3]) ?_
    refine a_pu 0 rfl rfl rfl rfl (pu_move rfl rfl) rfl rfl (by kernel_rfl) ?_
    refine a_pu 1 rfl rfl rfl rfl (pu_move rfl rfl) rfl rfl (by kernel_rfl) ?_
    first | refine a_mv 2 rfl rfl rfl rfl (fun _ => (pu_move rfl rfl)) rfl rfl rfl (by kernel_rfl) (by kernel_rfl) (by kernel_rfl) rfl ?_
    first | refine a_mv 3 rfl rfl rfl rfl (fun _ => (pu_move rfl rfl)) rfl rfl rfl (by kernel_rfl) (by kernel_rfl) (by kernel_rfl) rfl ?_
    refine a_pu 4 rfl rfl rfl rfl (pu_move rfl rfl) rfl rfl (by kernel_rfl) ?_
    refine a_pu 5 rfl rfl rfl rfl (pu_move rfl rfl) rfl rfl (by kernel_rfl) ?_
    refine a_pu 6 rfl rfl rfl rfl (pu_at1 j rfl rfl rfl (by omega) (by omega)) rfl rfl (by kernel_rfl) ?_
    refine a_pu 7 rfl rfl rfl rfl (pu_load 0 rfl rfl rfl (bs_load h2)) rfl rfl (by kernel_rfl) ?_
    refine a_pu 8 rfl rfl rfl rfl (pu_move rfl rfl) rfl rfl (by kernel_rfl) ?_
    refine a_pu 9 rfl rfl rfl rfl (pu_move rfl rfl) rfl rfl (by kernel_rfl) ?_
    refine a_pu 10 rfl rfl rfl rfl (pu_at1 i rfl rfl rfl rfl (by omega)) rfl rfl (by kernel_rfl) ?_
    refine a_pu 11 rfl rfl rfl rfl (pu_load 0 rfl rfl rfl (bs_load h1)) rfl rfl (by kernel_rfl) ?_
    refine a_pu 12 rfl rfl rfl rfl (pu_at1 i rfl rfl rfl rfl (by omega)) rfl rfl (by kernel_rfl) ?_
    refine a_tail [13, 14, 15] (by kernel_rfl) rfl rfl (by kernel_rfl) ?_
    refine g_store 0 (v := b8 z) rfl rfl rfl rfl rfl rfl rfl (by rw [List.length_append, bs_length]; omega) ?_
    rw [Nat.zero_add, bs_set m J i z (by omega)]
    refine g_pu rfl rfl rfl (pu_at1 j rfl rfl rfl (by omega) (by omega)) ?_
    refine g_store 0 (v := b8 y) rfl rfl rfl rfl rfl rfl rfl (by rw [List.length_append, bs_length, List.length_set]; omega) ?_
    rw [Nat.zero_add, bs_set (m.set i z) J j y (by rw [List.length_set]; omega)]
    refine g_nil ?_
    refine g_own 0 (L := bs ((m.set i z).set j y)) (J := J) (c := c) (s := 1) rfl (by simpa [bs_length] using hJ) hcap ?_
    refine g_blk ?_
    (repeat refine g_seq ?_)
    refine g_region ?_
    refine g_pu rfl rfl rfl (pu_move rfl rfl) ?_
    refine g_pu rfl rfl rfl (pu_addI rfl rfl rfl (by omega)) ?_
    refine g_pu rfl rfl rfl (pu_move rfl rfl) ?_
    refine g_pu rfl rfl rfl (pu_subI rfl rfl rfl (by omega)) ?_
    refine g_pu rfl rfl rfl (pu_assign rfl rfl) ?_
    refine g_pu rfl rfl rfl (pu_assign rfl rfl) ?_
    refine g_nil ?_
    refine g_round2 (i + 1) ((m.set i z).set j y) ⟨by omega, by simp [hml], fun k hk => ?_⟩ (by omega) ⟨rfl, rfl, congrArg (fun z => some (Value.int .i64 z)) (by omega), trivial⟩ ⟨rfl, trivial⟩
    rw [get_set _ _ _ _ (by rw [List.length_set]; omega), get_set _ _ _ _ (by omega)]
    by_cases hkj : j = k
    · subst hkj
      rw [if_pos rfl, if_pos (by omega), h3]
      congr 1; omega
    · rw [if_neg hkj]
      by_cases hki : i = k
      · subst hki
        rw [if_pos rfl, if_pos (by omega), h4, hj]
      · rw [if_neg hki, hm k hk]
        by_cases hc : k < i ∨ n - 1 - k < i
        · rw [if_pos hc, if_pos (by omega)]
        · rw [if_neg hc, if_neg (by omega)]
  · (repeat refine g_seq ?_)
    refine g_region ?_
    refine g_pu rfl rfl rfl (pu_move rfl rfl) ?_
    refine g_pu rfl rfl rfl (pu_move rfl rfl) ?_
    first | refine g_pu rfl rfl rfl (pu_lss_t rfl rfl rfl (by omega)) ?_ | refine g_pu rfl rfl rfl (pu_lss_f rfl rfl rfl (by omega)) ?_ | refine g_pu rfl rfl rfl (pu_lss rfl rfl rfl) ?_
    refine g_nil ?_
    (repeat refine g_seq ?_)
    refine g_cond_f rfl (g_exit rfl ?_)
    have e : m = l.reverse := by
      apply List.ext_getElem?
      intro k
      by_cases hk : k < n
      · rw [hm k hk, List.getElem?_reverse (by omega), hn]
        split
        · rfl
        · congr 1; omega
      · rw [List.getElem?_eq_none (by omega), List.getElem?_eq_none (by simp; omega)]
    subst e
    exact g_end0 rfl (fun w' hm => ⟨(), trivial, rfl, hm.grows [0] ⟨rfl, trivial⟩ rfl⟩)
end Go.Sx
