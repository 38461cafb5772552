import Derived.Test.YtjmihjcahjpkmaaXC
import Derived.Test.YtjmihjcahjpkmaaProg
import Derived.KernelRfl
set_option linter.unusedVariables false
set_option linter.unusedSimpArgs false
/- Closed facts on the types of this seat's translation. -/
namespace Go.Sx
open Go Go.Proofs
instance : Mix Try.prog := ⟨by kernel_rfl⟩
instance : Und Try.prog 2 (.int .i64) := ⟨Try.underlying2⟩
instance : Siz Try.prog 2 1 := ⟨by kernel_rfl⟩
instance : Byt Try.prog 2 8 := ⟨by kernel_rfl⟩
instance : Agg Try.prog 2 false := ⟨by kernel_rfl⟩
instance : One Try.prog 2 := ⟨by kernel_rfl⟩
instance : Zer Try.prog 2 (.int .i64 0) := ⟨by kernel_rfl⟩
instance : Und Try.prog 3 (.int .i64) := ⟨Try.underlying3⟩
instance : Siz Try.prog 3 1 := ⟨by kernel_rfl⟩
instance : Byt Try.prog 3 8 := ⟨by kernel_rfl⟩
instance : Agg Try.prog 3 false := ⟨by kernel_rfl⟩
instance : One Try.prog 3 := ⟨by kernel_rfl⟩
instance : Zer Try.prog 3 (.int .i64 0) := ⟨by kernel_rfl⟩
instance : Und Try.prog 4 .bool := ⟨Try.underlying4⟩
instance : Siz Try.prog 4 1 := ⟨by kernel_rfl⟩
instance : Byt Try.prog 4 1 := ⟨by kernel_rfl⟩
instance : Agg Try.prog 4 false := ⟨by kernel_rfl⟩
instance : One Try.prog 4 := ⟨by kernel_rfl⟩
instance : Zer Try.prog 4 (.bool false) := ⟨by kernel_rfl⟩
instance : Und Try.prog 5 (.int .u8) := ⟨Try.underlying5⟩
instance : Siz Try.prog 5 1 := ⟨by kernel_rfl⟩
instance : Byt Try.prog 5 1 := ⟨by kernel_rfl⟩
instance : Agg Try.prog 5 false := ⟨by kernel_rfl⟩
instance : One Try.prog 5 := ⟨by kernel_rfl⟩
instance : Zer Try.prog 5 (b8 0#8) := ⟨by kernel_rfl⟩
instance : Siz Try.prog 7 4 := ⟨by kernel_rfl⟩
instance : Byt Try.prog 7 24 := ⟨by kernel_rfl⟩
instance : Agg Try.prog 7 true := ⟨by kernel_rfl⟩
instance : Plc Try.prog 7 [(0, 1), (1, 1), (2, 1), (3, 1)] := ⟨by kernel_rfl⟩
instance : Ngd Try.prog 7 := ⟨by kernel_rfl⟩
instance : Zer Try.prog 7 (.agg (List.toArray [(.int .i64 0), (.int .i64 0), (.bool false), (b8 0#8)])) := ⟨by kernel_rfl⟩
instance : Und Try.prog 9 .string := ⟨Try.underlying9⟩
instance : Siz Try.prog 9 1 := ⟨by kernel_rfl⟩
instance : Byt Try.prog 9 16 := ⟨by kernel_rfl⟩
instance : Agg Try.prog 9 false := ⟨by kernel_rfl⟩
instance : One Try.prog 9 := ⟨by kernel_rfl⟩
instance : Zer Try.prog 9 (.string .empty) := ⟨by kernel_rfl⟩
instance : Und Try.prog 12 (.int .u64) := ⟨Try.underlying12⟩
instance : Siz Try.prog 12 1 := ⟨by kernel_rfl⟩
instance : Byt Try.prog 12 8 := ⟨by kernel_rfl⟩
instance : Agg Try.prog 12 false := ⟨by kernel_rfl⟩
instance : One Try.prog 12 := ⟨by kernel_rfl⟩
instance : Zer Try.prog 12 (b64 0#64) := ⟨by kernel_rfl⟩
instance : Siz Try.prog 13 2 := ⟨by kernel_rfl⟩
instance : Byt Try.prog 13 24 := ⟨by kernel_rfl⟩
instance : Agg Try.prog 13 true := ⟨by kernel_rfl⟩
instance : Plc Try.prog 13 [(0, 1), (1, 1)] := ⟨by kernel_rfl⟩
instance : Ngd Try.prog 13 := ⟨by kernel_rfl⟩
instance : Zer Try.prog 13 (.agg (List.toArray [(.string .empty), (b64 0#64)])) := ⟨by kernel_rfl⟩
instance : Siz Try.prog 18 1 := ⟨by kernel_rfl⟩
instance : Byt Try.prog 18 8 := ⟨by kernel_rfl⟩
instance : Agg Try.prog 18 true := ⟨by kernel_rfl⟩
instance : Plc Try.prog 18 [(0, 1)] := ⟨by kernel_rfl⟩
instance : Ngd Try.prog 18 := ⟨by kernel_rfl⟩
instance : Zer Try.prog 18 (.agg (List.toArray [(.pointer none)])) := ⟨by kernel_rfl⟩
instance : Und Try.prog 21 (.int .i32) := ⟨Try.underlying21⟩
instance : Siz Try.prog 21 1 := ⟨by kernel_rfl⟩
instance : Byt Try.prog 21 4 := ⟨by kernel_rfl⟩
instance : Agg Try.prog 21 false := ⟨by kernel_rfl⟩
instance : One Try.prog 21 := ⟨by kernel_rfl⟩
instance : Zer Try.prog 21 (.int .i32 0) := ⟨by kernel_rfl⟩
instance : Und Try.prog 22 (.slice 5) := ⟨Try.underlying22⟩
instance : Siz Try.prog 22 1 := ⟨by kernel_rfl⟩
instance : Byt Try.prog 22 24 := ⟨by kernel_rfl⟩
instance : Agg Try.prog 22 false := ⟨by kernel_rfl⟩
instance : One Try.prog 22 := ⟨by kernel_rfl⟩
instance : Zer Try.prog 22 (.slice none 0 0) := ⟨by kernel_rfl⟩
instance : Und Try.prog 24 (.array 32 5) := ⟨Try.underlying24⟩
instance : Siz Try.prog 24 32 := ⟨by kernel_rfl⟩
instance : Byt Try.prog 24 32 := ⟨by kernel_rfl⟩
instance : Agg Try.prog 24 true := ⟨by kernel_rfl⟩
instance : Ngd Try.prog 24 := ⟨by kernel_rfl⟩
instance : Zer Try.prog 24 (.agg (List.toArray [(b8 0#8), (b8 0#8), (b8 0#8), (b8 0#8), (b8 0#8), (b8 0#8), (b8 0#8), (b8 0#8), (b8 0#8), (b8 0#8), (b8 0#8), (b8 0#8), (b8 0#8), (b8 0#8), (b8 0#8), (b8 0#8), (b8 0#8), (b8 0#8), (b8 0#8), (b8 0#8), (b8 0#8), (b8 0#8), (b8 0#8), (b8 0#8), (b8 0#8), (b8 0#8), (b8 0#8), (b8 0#8), (b8 0#8), (b8 0#8), (b8 0#8), (b8 0#8)])) := ⟨by kernel_rfl⟩
instance : Und Try.prog 25 (.int .i64) := ⟨Try.underlying25⟩
instance : Siz Try.prog 25 1 := ⟨by kernel_rfl⟩
instance : Byt Try.prog 25 8 := ⟨by kernel_rfl⟩
instance : Agg Try.prog 25 false := ⟨by kernel_rfl⟩
instance : One Try.prog 25 := ⟨by kernel_rfl⟩
instance : Zer Try.prog 25 (.int .i64 0) := ⟨by kernel_rfl⟩
instance : Und Try.prog 34 (.int .u64) := ⟨Try.underlying34⟩
instance : Siz Try.prog 34 1 := ⟨by kernel_rfl⟩
instance : Byt Try.prog 34 8 := ⟨by kernel_rfl⟩
instance : Agg Try.prog 34 false := ⟨by kernel_rfl⟩
instance : One Try.prog 34 := ⟨by kernel_rfl⟩
instance : Zer Try.prog 34 (b64 0#64) := ⟨by kernel_rfl⟩
instance : Siz Try.prog 38 64 := ⟨by kernel_rfl⟩
instance : Byt Try.prog 38 64 := ⟨by kernel_rfl⟩
instance : Agg Try.prog 38 true := ⟨by kernel_rfl⟩
instance : Plc Try.prog 38 [(0, 32), (32, 32)] := ⟨by kernel_rfl⟩
instance : Ngd Try.prog 38 := ⟨by kernel_rfl⟩
instance : Zer Try.prog 38 (.agg (List.toArray [(b8 0#8), (b8 0#8), (b8 0#8), (b8 0#8), (b8 0#8), (b8 0#8), (b8 0#8), (b8 0#8), (b8 0#8), (b8 0#8), (b8 0#8), (b8 0#8), (b8 0#8), (b8 0#8), (b8 0#8), (b8 0#8), (b8 0#8), (b8 0#8), (b8 0#8), (b8 0#8), (b8 0#8), (b8 0#8), (b8 0#8), (b8 0#8), (b8 0#8), (b8 0#8), (b8 0#8), (b8 0#8), (b8 0#8), (b8 0#8), (b8 0#8), (b8 0#8), (b8 0#8), (b8 0#8), (b8 0#8), (b8 0#8), (b8 0#8), (b8 0#8), (b8 0#8), (b8 0#8), (b8 0#8), (b8 0#8), (b8 0#8), (b8 0#8), (b8 0#8), (b8 0#8), (b8 0#8), (b8 0#8), (b8 0#8), (b8 0#8), (b8 0#8), (b8 0#8), (b8 0#8), (b8 0#8), (b8 0#8), (b8 0#8), (b8 0#8), (b8 0#8), (b8 0#8), (b8 0#8), (b8 0#8), (b8 0#8), (b8 0#8), (b8 0#8)])) := ⟨by kernel_rfl⟩
instance : Siz Try.prog 39 64 := ⟨by kernel_rfl⟩
instance : Byt Try.prog 39 64 := ⟨by kernel_rfl⟩
instance : Agg Try.prog 39 true := ⟨by kernel_rfl⟩
instance : Plc Try.prog 39 [(0, 32), (32, 32)] := ⟨by kernel_rfl⟩
instance : Ngd Try.prog 39 := ⟨by kernel_rfl⟩
instance : Zer Try.prog 39 (.agg (List.toArray [(b8 0#8), (b8 0#8), (b8 0#8), (b8 0#8), (b8 0#8), (b8 0#8), (b8 0#8), (b8 0#8), (b8 0#8), (b8 0#8), (b8 0#8), (b8 0#8), (b8 0#8), (b8 0#8), (b8 0#8), (b8 0#8), (b8 0#8), (b8 0#8), (b8 0#8), (b8 0#8), (b8 0#8), (b8 0#8), (b8 0#8), (b8 0#8), (b8 0#8), (b8 0#8), (b8 0#8), (b8 0#8), (b8 0#8), (b8 0#8), (b8 0#8), (b8 0#8), (b8 0#8), (b8 0#8), (b8 0#8), (b8 0#8), (b8 0#8), (b8 0#8), (b8 0#8), (b8 0#8), (b8 0#8), (b8 0#8), (b8 0#8), (b8 0#8), (b8 0#8), (b8 0#8), (b8 0#8), (b8 0#8), (b8 0#8), (b8 0#8), (b8 0#8), (b8 0#8), (b8 0#8), (b8 0#8), (b8 0#8), (b8 0#8), (b8 0#8), (b8 0#8), (b8 0#8), (b8 0#8), (b8 0#8), (b8 0#8), (b8 0#8), (b8 0#8)])) := ⟨by kernel_rfl⟩
instance : Siz Try.prog 42 65 := ⟨by kernel_rfl⟩
instance : Byt Try.prog 42 80 := ⟨by kernel_rfl⟩
instance : Agg Try.prog 42 true := ⟨by kernel_rfl⟩
instance : Plc Try.prog 42 [(0, 64), (64, 1)] := ⟨by kernel_rfl⟩
instance : Ngd Try.prog 42 := ⟨by kernel_rfl⟩
instance : Zer Try.prog 42 (.agg (List.toArray [(b8 0#8), (b8 0#8), (b8 0#8), (b8 0#8), (b8 0#8), (b8 0#8), (b8 0#8), (b8 0#8), (b8 0#8), (b8 0#8), (b8 0#8), (b8 0#8), (b8 0#8), (b8 0#8), (b8 0#8), (b8 0#8), (b8 0#8), (b8 0#8), (b8 0#8), (b8 0#8), (b8 0#8), (b8 0#8), (b8 0#8), (b8 0#8), (b8 0#8), (b8 0#8), (b8 0#8), (b8 0#8), (b8 0#8), (b8 0#8), (b8 0#8), (b8 0#8), (b8 0#8), (b8 0#8), (b8 0#8), (b8 0#8), (b8 0#8), (b8 0#8), (b8 0#8), (b8 0#8), (b8 0#8), (b8 0#8), (b8 0#8), (b8 0#8), (b8 0#8), (b8 0#8), (b8 0#8), (b8 0#8), (b8 0#8), (b8 0#8), (b8 0#8), (b8 0#8), (b8 0#8), (b8 0#8), (b8 0#8), (b8 0#8), (b8 0#8), (b8 0#8), (b8 0#8), (b8 0#8), (b8 0#8), (b8 0#8), (b8 0#8), (b8 0#8), (.string .empty)])) := ⟨by kernel_rfl⟩
instance : Siz Try.prog 43 65 := ⟨by kernel_rfl⟩
instance : Byt Try.prog 43 80 := ⟨by kernel_rfl⟩
instance : Agg Try.prog 43 true := ⟨by kernel_rfl⟩
instance : Plc Try.prog 43 [(0, 64), (64, 1)] := ⟨by kernel_rfl⟩
instance : Ngd Try.prog 43 := ⟨by kernel_rfl⟩
instance : Zer Try.prog 43 (.agg (List.toArray [(b8 0#8), (b8 0#8), (b8 0#8), (b8 0#8), (b8 0#8), (b8 0#8), (b8 0#8), (b8 0#8), (b8 0#8), (b8 0#8), (b8 0#8), (b8 0#8), (b8 0#8), (b8 0#8), (b8 0#8), (b8 0#8), (b8 0#8), (b8 0#8), (b8 0#8), (b8 0#8), (b8 0#8), (b8 0#8), (b8 0#8), (b8 0#8), (b8 0#8), (b8 0#8), (b8 0#8), (b8 0#8), (b8 0#8), (b8 0#8), (b8 0#8), (b8 0#8), (b8 0#8), (b8 0#8), (b8 0#8), (b8 0#8), (b8 0#8), (b8 0#8), (b8 0#8), (b8 0#8), (b8 0#8), (b8 0#8), (b8 0#8), (b8 0#8), (b8 0#8), (b8 0#8), (b8 0#8), (b8 0#8), (b8 0#8), (b8 0#8), (b8 0#8), (b8 0#8), (b8 0#8), (b8 0#8), (b8 0#8), (b8 0#8), (b8 0#8), (b8 0#8), (b8 0#8), (b8 0#8), (b8 0#8), (b8 0#8), (b8 0#8), (b8 0#8), (.string .empty)])) := ⟨by kernel_rfl⟩
instance : Und Try.prog 45 (.slice 22) := ⟨Try.underlying45⟩
instance : Siz Try.prog 45 1 := ⟨by kernel_rfl⟩
instance : Byt Try.prog 45 24 := ⟨by kernel_rfl⟩
instance : Agg Try.prog 45 false := ⟨by kernel_rfl⟩
instance : One Try.prog 45 := ⟨by kernel_rfl⟩
instance : Zer Try.prog 45 (.slice none 0 0) := ⟨by kernel_rfl⟩
instance : Und Try.prog 54 (.int .u64) := ⟨Try.underlying54⟩
instance : Siz Try.prog 54 1 := ⟨by kernel_rfl⟩
instance : Byt Try.prog 54 8 := ⟨by kernel_rfl⟩
instance : Agg Try.prog 54 false := ⟨by kernel_rfl⟩
instance : One Try.prog 54 := ⟨by kernel_rfl⟩
instance : Zer Try.prog 54 (b64 0#64) := ⟨by kernel_rfl⟩
instance : Und Try.prog 55 (.array 4 54) := ⟨Try.underlying55⟩
instance : Siz Try.prog 55 4 := ⟨by kernel_rfl⟩
instance : Byt Try.prog 55 32 := ⟨by kernel_rfl⟩
instance : Agg Try.prog 55 true := ⟨by kernel_rfl⟩
instance : Ngd Try.prog 55 := ⟨by kernel_rfl⟩
instance : Zer Try.prog 55 (.agg (List.toArray [(b64 0#64), (b64 0#64), (b64 0#64), (b64 0#64)])) := ⟨by kernel_rfl⟩
instance : Und Try.prog 56 (.array 4 54) := ⟨Try.underlying56⟩
instance : Siz Try.prog 56 4 := ⟨by kernel_rfl⟩
instance : Byt Try.prog 56 32 := ⟨by kernel_rfl⟩
instance : Agg Try.prog 56 true := ⟨by kernel_rfl⟩
instance : Ngd Try.prog 56 := ⟨by kernel_rfl⟩
instance : Zer Try.prog 56 (.agg (List.toArray [(b64 0#64), (b64 0#64), (b64 0#64), (b64 0#64)])) := ⟨by kernel_rfl⟩
instance : Siz Try.prog 60 8 := ⟨by kernel_rfl⟩
instance : Byt Try.prog 60 64 := ⟨by kernel_rfl⟩
instance : Agg Try.prog 60 true := ⟨by kernel_rfl⟩
instance : Plc Try.prog 60 [(0, 4), (4, 4)] := ⟨by kernel_rfl⟩
instance : Ngd Try.prog 60 := ⟨by kernel_rfl⟩
instance : Zer Try.prog 60 (.agg (List.toArray [(b64 0#64), (b64 0#64), (b64 0#64), (b64 0#64), (b64 0#64), (b64 0#64), (b64 0#64), (b64 0#64)])) := ⟨by kernel_rfl⟩
instance : Siz Try.prog 61 8 := ⟨by kernel_rfl⟩
instance : Byt Try.prog 61 64 := ⟨by kernel_rfl⟩
instance : Agg Try.prog 61 true := ⟨by kernel_rfl⟩
instance : Plc Try.prog 61 [(0, 4), (4, 4)] := ⟨by kernel_rfl⟩
instance : Ngd Try.prog 61 := ⟨by kernel_rfl⟩
instance : Zer Try.prog 61 (.agg (List.toArray [(b64 0#64), (b64 0#64), (b64 0#64), (b64 0#64), (b64 0#64), (b64 0#64), (b64 0#64), (b64 0#64)])) := ⟨by kernel_rfl⟩
instance : Und Try.prog 67 (.int .u32) := ⟨Try.underlying67⟩
instance : Siz Try.prog 67 1 := ⟨by kernel_rfl⟩
instance : Byt Try.prog 67 4 := ⟨by kernel_rfl⟩
instance : Agg Try.prog 67 false := ⟨by kernel_rfl⟩
instance : One Try.prog 67 := ⟨by kernel_rfl⟩
instance : Zer Try.prog 67 (b32 0#32) := ⟨by kernel_rfl⟩
instance : Und Try.prog 68 (.array 8 67) := ⟨Try.underlying68⟩
instance : Siz Try.prog 68 8 := ⟨by kernel_rfl⟩
instance : Byt Try.prog 68 32 := ⟨by kernel_rfl⟩
instance : Agg Try.prog 68 true := ⟨by kernel_rfl⟩
instance : Ngd Try.prog 68 := ⟨by kernel_rfl⟩
instance : Zer Try.prog 68 (.agg (List.toArray [(b32 0#32), (b32 0#32), (b32 0#32), (b32 0#32), (b32 0#32), (b32 0#32), (b32 0#32), (b32 0#32)])) := ⟨by kernel_rfl⟩
instance : Und Try.prog 69 (.array 8 67) := ⟨Try.underlying69⟩
instance : Siz Try.prog 69 8 := ⟨by kernel_rfl⟩
instance : Byt Try.prog 69 32 := ⟨by kernel_rfl⟩
instance : Agg Try.prog 69 true := ⟨by kernel_rfl⟩
instance : Ngd Try.prog 69 := ⟨by kernel_rfl⟩
instance : Zer Try.prog 69 (.agg (List.toArray [(b32 0#32), (b32 0#32), (b32 0#32), (b32 0#32), (b32 0#32), (b32 0#32), (b32 0#32), (b32 0#32)])) := ⟨by kernel_rfl⟩
instance : Und Try.prog 80 (.array 17 54) := ⟨Try.underlying80⟩
instance : Siz Try.prog 80 17 := ⟨by kernel_rfl⟩
instance : Byt Try.prog 80 136 := ⟨by kernel_rfl⟩
instance : Agg Try.prog 80 true := ⟨by kernel_rfl⟩
instance : Ngd Try.prog 80 := ⟨by kernel_rfl⟩
instance : Zer Try.prog 80 (.agg (List.toArray [(b64 0#64), (b64 0#64), (b64 0#64), (b64 0#64), (b64 0#64), (b64 0#64), (b64 0#64), (b64 0#64), (b64 0#64), (b64 0#64), (b64 0#64), (b64 0#64), (b64 0#64), (b64 0#64), (b64 0#64), (b64 0#64), (b64 0#64)])) := ⟨by kernel_rfl⟩
instance : Und Try.prog 85 (.slice 56) := ⟨Try.underlying85⟩
instance : Siz Try.prog 85 1 := ⟨by kernel_rfl⟩
instance : Byt Try.prog 85 24 := ⟨by kernel_rfl⟩
instance : Agg Try.prog 85 false := ⟨by kernel_rfl⟩
instance : One Try.prog 85 := ⟨by kernel_rfl⟩
instance : Zer Try.prog 85 (.slice none 0 0) := ⟨by kernel_rfl⟩
instance : Und Try.prog 93 (.array 8 54) := ⟨Try.underlying93⟩
instance : Siz Try.prog 93 8 := ⟨by kernel_rfl⟩
instance : Byt Try.prog 93 64 := ⟨by kernel_rfl⟩
instance : Agg Try.prog 93 true := ⟨by kernel_rfl⟩
instance : Ngd Try.prog 93 := ⟨by kernel_rfl⟩
instance : Zer Try.prog 93 (.agg (List.toArray [(b64 0#64), (b64 0#64), (b64 0#64), (b64 0#64), (b64 0#64), (b64 0#64), (b64 0#64), (b64 0#64)])) := ⟨by kernel_rfl⟩
instance : Siz Try.prog 104 4 := ⟨by kernel_rfl⟩
instance : Byt Try.prog 104 40 := ⟨by kernel_rfl⟩
instance : Agg Try.prog 104 true := ⟨by kernel_rfl⟩
instance : Plc Try.prog 104 [(0, 1), (1, 1), (2, 1), (3, 1)] := ⟨by kernel_rfl⟩
instance : Ngd Try.prog 104 := ⟨by kernel_rfl⟩
instance : Zer Try.prog 104 (.agg (List.toArray [(.pointer none), (.pointer none), (.pointer none), (.string .empty)])) := ⟨by kernel_rfl⟩
instance : Und Try.prog 106 (.array 0 16) := ⟨Try.underlying106⟩
instance : Siz Try.prog 106 0 := ⟨by kernel_rfl⟩
instance : Byt Try.prog 106 0 := ⟨by kernel_rfl⟩
instance : Agg Try.prog 106 true := ⟨by kernel_rfl⟩
instance : Ngd Try.prog 106 := ⟨by kernel_rfl⟩
instance : Zer Try.prog 106 (.agg (List.toArray [])) := ⟨by kernel_rfl⟩
instance : Siz Try.prog 107 0 := ⟨by kernel_rfl⟩
instance : Byt Try.prog 107 0 := ⟨by kernel_rfl⟩
instance : Agg Try.prog 107 true := ⟨by kernel_rfl⟩
instance : Plc Try.prog 107 [(0, 0)] := ⟨by kernel_rfl⟩
instance : Ngd Try.prog 107 := ⟨by kernel_rfl⟩
instance : Zer Try.prog 107 (.agg (List.toArray [])) := ⟨by kernel_rfl⟩
instance : Und Try.prog 113 (.pointer 5) := ⟨Try.underlying113⟩
instance : Siz Try.prog 113 1 := ⟨by kernel_rfl⟩
instance : Byt Try.prog 113 8 := ⟨by kernel_rfl⟩
instance : Agg Try.prog 113 false := ⟨by kernel_rfl⟩
instance : One Try.prog 113 := ⟨by kernel_rfl⟩
instance : Zer Try.prog 113 (.pointer none) := ⟨by kernel_rfl⟩
instance : Siz Try.prog 116 11 := ⟨by kernel_rfl⟩
instance : Byt Try.prog 116 48 := ⟨by kernel_rfl⟩
instance : Agg Try.prog 116 true := ⟨by kernel_rfl⟩
instance : Plc Try.prog 116 [(0, 1), (1, 1), (2, 1), (3, 1), (4, 1), (5, 1), (6, 1), (7, 1), (8, 1), (9, 1), (10, 1)] := ⟨by kernel_rfl⟩
instance : Ngd Try.prog 116 := ⟨by kernel_rfl⟩
instance : Zer Try.prog 116 (.agg (List.toArray [(b64 0#64), (b64 0#64), (b32 0#32), (b8 0#8), (b8 0#8), (b8 0#8), (b8 0#8), .nilFunc, (.pointer none), (.int .i32 0), (.int .i32 0)])) := ⟨by kernel_rfl⟩
instance : Fld Try.prog 38 0 0 32 true := ⟨by kernel_rfl⟩
instance : Fld Try.prog 38 1 32 32 true := ⟨by kernel_rfl⟩
instance : Fld Try.prog 39 0 0 32 true := ⟨by kernel_rfl⟩
instance : Fld Try.prog 39 1 32 32 true := ⟨by kernel_rfl⟩
instance : Fld Try.prog 42 0 0 64 true := ⟨by kernel_rfl⟩
instance : Fld Try.prog 42 1 64 1 false := ⟨by kernel_rfl⟩
instance : Fld Try.prog 43 0 0 64 true := ⟨by kernel_rfl⟩
instance : Fld Try.prog 43 1 64 1 false := ⟨by kernel_rfl⟩
instance : Fld Try.prog 60 0 0 4 true := ⟨by kernel_rfl⟩
instance : Fld Try.prog 60 1 4 4 true := ⟨by kernel_rfl⟩
instance : Fld Try.prog 61 0 0 4 true := ⟨by kernel_rfl⟩
instance : Fld Try.prog 61 1 4 4 true := ⟨by kernel_rfl⟩
instance : Fld Try.prog 104 0 0 1 false := ⟨by kernel_rfl⟩
instance : Fld Try.prog 104 1 1 1 false := ⟨by kernel_rfl⟩
instance : Fld Try.prog 104 2 2 1 false := ⟨by kernel_rfl⟩
instance : Fld Try.prog 104 3 3 1 false := ⟨by kernel_rfl⟩
instance : Fld Try.prog 107 0 0 0 true := ⟨by kernel_rfl⟩
instance : Fld Try.prog 116 0 0 1 false := ⟨by kernel_rfl⟩
instance : Fld Try.prog 116 1 1 1 false := ⟨by kernel_rfl⟩
instance : Fld Try.prog 116 2 2 1 false := ⟨by kernel_rfl⟩
instance : Fld Try.prog 116 3 3 1 false := ⟨by kernel_rfl⟩
instance : Fld Try.prog 116 4 4 1 false := ⟨by kernel_rfl⟩
instance : Fld Try.prog 116 5 5 1 false := ⟨by kernel_rfl⟩
instance : Fld Try.prog 116 6 6 1 false := ⟨by kernel_rfl⟩
instance : Fld Try.prog 116 7 7 1 false := ⟨by kernel_rfl⟩
instance : Fld Try.prog 116 8 8 1 false := ⟨by kernel_rfl⟩
instance : Fld Try.prog 116 9 9 1 false := ⟨by kernel_rfl⟩
instance : Fld Try.prog 116 10 10 1 false := ⟨by kernel_rfl⟩
instance : Cal Try.prog 2 := ⟨Try.f2, Try.func2, by kernel_rfl, rfl⟩
instance : Cal Try.prog 3 := ⟨Try.f3, Try.func3, by kernel_rfl, rfl⟩
instance : Cal Try.prog 4 := ⟨Try.f4, Try.func4, by kernel_rfl, rfl⟩
instance : Cal Try.prog 5 := ⟨Try.f5, Try.func5, by kernel_rfl, rfl⟩
instance : Cal Try.prog 6 := ⟨Try.f6, Try.func6, by kernel_rfl, rfl⟩
instance : Cal Try.prog 7 := ⟨Try.f7, Try.func7, by kernel_rfl, rfl⟩
instance : Cal Try.prog 8 := ⟨Try.f8, Try.func8, by kernel_rfl, rfl⟩
instance : Cal Try.prog 9 := ⟨Try.f9, Try.func9, by kernel_rfl, rfl⟩
instance : Cal Try.prog 10 := ⟨Try.f10, Try.func10, by kernel_rfl, rfl⟩
instance : Cal Try.prog 11 := ⟨Try.f11, Try.func11, by kernel_rfl, rfl⟩
instance : Cal Try.prog 12 := ⟨Try.f12, Try.func12, by kernel_rfl, rfl⟩
instance : Cal Try.prog 13 := ⟨Try.f13, Try.func13, by kernel_rfl, rfl⟩
instance : Cal Try.prog 14 := ⟨Try.f14, Try.func14, by kernel_rfl, rfl⟩
instance : Cal Try.prog 15 := ⟨Try.f15, Try.func15, by kernel_rfl, rfl⟩
instance : Cal Try.prog 16 := ⟨Try.f16, Try.func16, by kernel_rfl, rfl⟩
instance : Cal Try.prog 17 := ⟨Try.f17, Try.func17, by kernel_rfl, rfl⟩
instance : Cal Try.prog 18 := ⟨Try.f18, Try.func18, by kernel_rfl, rfl⟩
instance : Cal Try.prog 19 := ⟨Try.f19, Try.func19, by kernel_rfl, rfl⟩
instance : Cal Try.prog 20 := ⟨Try.f20, Try.func20, by kernel_rfl, rfl⟩
instance : Cal Try.prog 21 := ⟨Try.f21, Try.func21, by kernel_rfl, rfl⟩
instance : Cal Try.prog 22 := ⟨Try.f22, Try.func22, by kernel_rfl, rfl⟩
instance : Cal Try.prog 23 := ⟨Try.f23, Try.func23, by kernel_rfl, rfl⟩
instance : Cal Try.prog 24 := ⟨Try.f24, Try.func24, by kernel_rfl, rfl⟩
instance : Cal Try.prog 25 := ⟨Try.f25, Try.func25, by kernel_rfl, rfl⟩
instance : Cal Try.prog 26 := ⟨Try.f26, Try.func26, by kernel_rfl, rfl⟩
instance : Cal Try.prog 27 := ⟨Try.f27, Try.func27, by kernel_rfl, rfl⟩
instance : Cal Try.prog 28 := ⟨Try.f28, Try.func28, by kernel_rfl, rfl⟩
instance : Cal Try.prog 29 := ⟨Try.f29, Try.func29, by kernel_rfl, rfl⟩
instance : Cal Try.prog 30 := ⟨Try.f30, Try.func30, by kernel_rfl, rfl⟩
instance : Cal Try.prog 31 := ⟨Try.f31, Try.func31, by kernel_rfl, rfl⟩
instance : Cal Try.prog 32 := ⟨Try.f32, Try.func32, by kernel_rfl, rfl⟩
instance : Cal Try.prog 33 := ⟨Try.f33, Try.func33, by kernel_rfl, rfl⟩
instance : Cal Try.prog 34 := ⟨Try.f34, Try.func34, by kernel_rfl, rfl⟩
instance : Cal Try.prog 35 := ⟨Try.f35, Try.func35, by kernel_rfl, rfl⟩
instance : Cal Try.prog 36 := ⟨Try.f36, Try.func36, by kernel_rfl, rfl⟩
instance : Cal Try.prog 37 := ⟨Try.f37, Try.func37, by kernel_rfl, rfl⟩
instance : Cal Try.prog 38 := ⟨Try.f38, Try.func38, by kernel_rfl, rfl⟩
instance : Cal Try.prog 39 := ⟨Try.f39, Try.func39, by kernel_rfl, rfl⟩
instance : Cal Try.prog 40 := ⟨Try.f40, Try.func40, by kernel_rfl, rfl⟩
instance : Cal Try.prog 41 := ⟨Try.f41, Try.func41, by kernel_rfl, rfl⟩
instance : Cal Try.prog 42 := ⟨Try.f42, Try.func42, by kernel_rfl, rfl⟩
instance : Cal Try.prog 43 := ⟨Try.f43, Try.func43, by kernel_rfl, rfl⟩
instance : Cal Try.prog 44 := ⟨Try.f44, Try.func44, by kernel_rfl, rfl⟩
instance : Cal Try.prog 45 := ⟨Try.f45, Try.func45, by kernel_rfl, rfl⟩
instance : Cal Try.prog 46 := ⟨Try.f46, Try.func46, by kernel_rfl, rfl⟩
instance : Cal Try.prog 47 := ⟨Try.f47, Try.func47, by kernel_rfl, rfl⟩
instance : Cal Try.prog 48 := ⟨Try.f48, Try.func48, by kernel_rfl, rfl⟩
instance : Cal Try.prog 49 := ⟨Try.f49, Try.func49, by kernel_rfl, rfl⟩
instance : Cal Try.prog 50 := ⟨Try.f50, Try.func50, by kernel_rfl, rfl⟩
instance : Cal Try.prog 51 := ⟨Try.f51, Try.func51, by kernel_rfl, rfl⟩
instance : Cal Try.prog 52 := ⟨Try.f52, Try.func52, by kernel_rfl, rfl⟩
instance : Cal Try.prog 54 := ⟨Try.f54, Try.func54, by kernel_rfl, rfl⟩
instance : Cal Try.prog 55 := ⟨Try.f55, Try.func55, by kernel_rfl, rfl⟩
instance : Cal Try.prog 56 := ⟨Try.f56, Try.func56, by kernel_rfl, rfl⟩
instance : Cal Try.prog 57 := ⟨Try.f57, Try.func57, by kernel_rfl, rfl⟩
instance : Cal Try.prog 58 := ⟨Try.f58, Try.func58, by kernel_rfl, rfl⟩
instance : Cal Try.prog 59 := ⟨Try.f59, Try.func59, by kernel_rfl, rfl⟩
instance : Cal Try.prog 61 := ⟨Try.f61, Try.func61, by kernel_rfl, rfl⟩
instance : Cal Try.prog 62 := ⟨Try.f62, Try.func62, by kernel_rfl, rfl⟩
instance : Cal Try.prog 63 := ⟨Try.f63, Try.func63, by kernel_rfl, rfl⟩
instance : Cal Try.prog 64 := ⟨Try.f64, Try.func64, by kernel_rfl, rfl⟩
instance : Cal Try.prog 65 := ⟨Try.f65, Try.func65, by kernel_rfl, rfl⟩
instance : Cal Try.prog 66 := ⟨Try.f66, Try.func66, by kernel_rfl, rfl⟩
end Go.Sx

/-
  Contracts of the reference's copies and equality of lists of bytes, and of the codec's padding with its reference. Each list is at most 2^47 bytes long.
-/
namespace Go.Sx
open Go Go.Proofs

theorem Copy_spec (w : World) (p : Option Addr) (n c : Nat) (l : List (BitVec 8)) (hr : RdV w p (bs l)) (hn : l.length = n) (hbig : n ≤ 140737488355328) :
    Spec Try.prog 12 #[.slice p n c] w (σ := Ow) (fun _ => True) (fun x => x.sl n) Nob (fun x => [x.ck 5 1 (bs l)]) := by
  refine enter Try.func12 rfl rfl (Mem.start w) ?_
  (repeat refine g_seq ?_)
  refine g_region ?_
  refine g_pu rfl rfl rfl (pu_assign rfl rfl) ?_
  refine g_nil ?_
  (repeat refine g_seq ?_)
  refine g_region ?_
  refine g_lo [3] rfl rfl rfl rfl (lo_buildSlice0 rfl) (fun b3 hb3 => ?_)
  refine g_pu rfl rfl rfl (pu_move rfl rfl) ?_
  refine g_own 3 (L := []) (J := []) (c := 0) (s := 1) rfl (by simp) (by omega) ?_
  refine g_append1 3 (bs l) rfl rfl rfl rfl rfl rfl rfl rfl rfl (fun w' hm => hr.mem0 hm) (by rw [bs_length, hn]) (oneCell_bs l) (by omega) (by omega) (fun p' c' => ?_)
  refine g_pu rfl rfl rfl (pu_assign rfl rfl) ?_
  refine g_nil ?_
  exact g_ret1 rfl rfl (fun w' hm => ⟨⟨p', c'⟩, trivial, by simp [Ow.sl], hm.grows [3] ⟨rfl, trivial⟩ rfl⟩)

theorem Equal_spec (w : World) (p q : Option Addr) (n c n' c' : Nat) (l l' : List (BitVec 8)) (hr : RdV w p (bs l)) (hn : l.length = n) (hr' : RdV w q (bs l')) (hn' : l'.length = n') (hbig : n ≤ 140737488355328) (hbig' : n' ≤ 140737488355328) :
    Spec Try.prog 20 #[.slice p n c, .slice q n' c'] w (σ := Unit) (fun _ => True) (fun _ => .bool (decide (l = l'))) Nob (fun _ => []) := by
  refine enter Try.func20 rfl rfl (Mem.start w) ?_
  (repeat refine g_seq ?_)
  refine g_region ?_
  refine g_pu rfl rfl rfl (pu_assign rfl rfl) ?_
  refine g_nil ?_
  (repeat refine g_seq ?_)
  refine g_region ?_
  refine g_pu rfl rfl rfl (pu_move rfl rfl) ?_
  first | refine g_pu rfl rfl rfl (pu_len rfl rfl) ?_ | refine g_pu rfl rfl rfl (pu_lenS rfl rfl) ?_
  refine g_pu rfl rfl rfl (pu_move rfl rfl) ?_
  first | refine g_pu rfl rfl rfl (pu_len rfl rfl) ?_ | refine g_pu rfl rfl rfl (pu_lenS rfl rfl) ?_
  first | refine g_pu rfl rfl rfl (pu_neq_t rfl rfl rfl (by omega)) ?_ | refine g_pu rfl rfl rfl (pu_neq_f rfl rfl rfl (by omega)) ?_ | refine g_pu rfl rfl rfl (pu_neq rfl rfl rfl) ?_
  refine g_nil ?_
  refine g_if rfl (fun h => ?_) (fun h => ?_)
  · (repeat refine g_seq ?_)
    refine g_region ?_
    refine g_pu rfl rfl rfl (pu_assign rfl rfl) ?_
    refine g_nil ?_
    refine g_ret1 rfl rfl (fun w' hm => ⟨(), trivial, ?_, hm.grows [] trivial rfl⟩)
    have : ¬ l = l' := by rintro rfl; omega
    simp [this]
  · refine g_skip ?_
    (repeat refine g_seq ?_)
    refine g_region ?_
    refine g_pu rfl rfl rfl (pu_assign rfl rfl) ?_
    refine g_nil ?_
    refine g_block (g_loop (σ := Nat) (fun i => [(0, .slice p n c), (1, .slice q n' c'), (5, .int .i64 (i : Int))]) (fun _ => []) (fun i => i ≤ n ∧ l.take i = l'.take i) (fun i => n - i) 0 ⟨rfl, rfl, rfl, trivial⟩ trivial (by simp) ?_)
    intro i ⟨hi, heq⟩
    (repeat refine g_seq ?_)
    refine g_region ?_
    refine g_pu rfl rfl rfl (pu_move rfl rfl) ?_
    refine g_pu rfl rfl rfl (pu_move rfl rfl) ?_
    first | refine g_pu rfl rfl rfl (pu_len rfl rfl) ?_ | refine g_pu rfl rfl rfl (pu_lenS rfl rfl) ?_
    first | refine g_pu rfl rfl rfl (pu_lss_t rfl rfl rfl (by omega)) ?_ | refine g_pu rfl rfl rfl (pu_lss_f rfl rfl rfl (by omega)) ?_ | refine g_pu rfl rfl rfl (pu_lss rfl rfl rfl) ?_
    refine g_nil ?_
    refine g_if rfl (fun h => ?_) (fun h => ?_)
    · have h1 : l[i]? = some l[i] := List.getElem?_eq_getElem (by omega)
      have h2 : l'[i]? = some l'[i] := List.getElem?_eq_getElem (by omega)
      refine g_skip ?_
      (repeat refine g_seq ?_); refine g_block ?_
      (repeat refine g_seq ?_)
      refine g_any (9, []) ?_
      refine a_pu 0 rfl rfl rfl rfl (pu_move rfl rfl) rfl rfl (by kernel_rfl) ?_
      refine a_pu 1 rfl rfl rfl rfl (pu_move rfl rfl) rfl rfl (by kernel_rfl) ?_
      refine a_pu 2 rfl rfl rfl rfl (pu_atR i hr rfl rfl rfl rfl (by omega) (by rw [bs_length]; omega)) rfl rfl (by kernel_rfl) ?_
      refine a_pu 3 rfl rfl rfl rfl (pu_rd0 hr rfl rfl (bs_get h1)) rfl rfl (by kernel_rfl) ?_
      refine a_pu 4 rfl rfl rfl rfl (pu_move rfl rfl) rfl rfl (by kernel_rfl) ?_
      refine a_pu 5 rfl rfl rfl rfl (pu_move rfl rfl) rfl rfl (by kernel_rfl) ?_
      refine a_pu 6 rfl rfl rfl rfl (pu_atR i hr' rfl rfl rfl rfl (by omega) (by rw [bs_length]; omega)) rfl rfl (by kernel_rfl) ?_
      refine a_pu 7 rfl rfl rfl rfl (pu_rd0 hr' rfl rfl (bs_get h2)) rfl rfl (by kernel_rfl) ?_
      first | refine a_pu 8 rfl rfl rfl rfl (pu_neq8_t rfl rfl rfl (by first | assumption | decide)) rfl rfl (by kernel_rfl) ?_ | refine a_pu 8 rfl rfl rfl rfl (pu_neq8_f rfl rfl rfl (by first | rfl | assumption | decide)) rfl rfl (by kernel_rfl) ?_ | refine a_pu 8 rfl rfl rfl rfl (pu_neq8 rfl rfl rfl) rfl rfl (by kernel_rfl) ?_
      refine a_done (by kernel_rfl) ?_
      refine g_if rfl (fun hne => ?_) (fun heq' => ?_)
      · (repeat refine g_seq ?_)
        refine g_region ?_
        refine g_pu rfl rfl rfl (pu_assign rfl rfl) ?_
        refine g_nil ?_
        refine g_ret1 rfl rfl (fun w' hm => ⟨(), trivial, ?_, hm.grows [] trivial rfl⟩)
        have : ¬ l = l' := by rintro rfl; exact hne rfl
        simp [this]
      · refine g_skip (g_blk ?_)
        (repeat refine g_seq ?_)
        refine g_region ?_
        refine g_pu rfl rfl rfl (pu_move rfl rfl) ?_
        refine g_pu rfl rfl rfl (pu_addI rfl rfl rfl (by omega)) ?_
        refine g_pu rfl rfl rfl (pu_assign rfl rfl) ?_
        refine g_nil ?_
        refine g_round (i + 1) ⟨by omega, ?_⟩ (by omega) ⟨rfl, rfl, rfl, trivial⟩ trivial
        rw [List.take_add_one, List.take_add_one, heq, h1, h2]
        have : l[i] = l'[i] := by simpa using heq'
        rw [this]
    · refine g_exit rfl ?_
      (repeat refine g_seq ?_)
      refine g_region ?_
      refine g_pu rfl rfl rfl (pu_assign rfl rfl) ?_
      refine g_nil ?_
      refine g_ret1 rfl rfl (fun w' hm => ⟨(), trivial, ?_, hm.grows [] trivial rfl⟩)
      have h1 : i = n := by omega
      rw [h1, List.take_of_length_le (by omega), List.take_of_length_le (by omega)] at heq
      simp [heq]

/-! ## Padding -/
def padE (n : Nat) (z : Int) : Int := if z < 0 ∨ z > 16777216 then 1 else if (n : Int) > z then 2 else 0
def padL (l : List (BitVec 8)) (z : Int) : List (BitVec 8) := if padE l.length z = 0 then l ++ List.replicate (z.toNat - l.length) 0#8 else []

end Go.Sx

/-
  Contracts in the words of 'By': copy, equality, padding. Looks of the codec and of its reference.
-/
namespace Go.Sx
open Go Go.Proofs

theorem Copy_b (w : World) {p : Option Addr} {n : Nat} (c : Nat) {l : List (BitVec 8)} (h : By w p n l) :
    Spec Try.prog 12 #[.slice p n c] w (σ := Ow) (fun _ => True) (fun x => x.sl n) Nob (fun x => [x.ck 5 1 (bs l)]) := Copy_spec w p n c l h.rd h.len h.big
theorem Equal_b (w : World) {p q : Option Addr} {n m : Nat} (c d : Nat) {a b : List (BitVec 8)} (h : By w p n a) (h' : By w q m b) :
    Spec Try.prog 20 #[.slice p n c, .slice q m d] w (σ := Unit) (fun _ => True) (fun _ => .bool (decide (a = b))) Nob (fun _ => []) := Equal_spec w p q n c m d a b h.rd h.len h'.rd h'.len h.big h'.big

def looksN (a b : List (BitVec 8)) : Int := if a.length = b.length then a.length else 0

end Go.Sx

/-
  Reading a number out of bytes: the codec's way and its reference's way come to the same. The order is 1 or 2, the width 1 to 8.
-/
namespace Go.Sx
open Go Go.Proofs

abbrev ShapeOk (o z : Int) : Prop := (o = 1 ∨ o = 2) ∧ 1 ≤ z ∧ z ≤ 8

theorem rshape_b (w : World) (o z : Int) : Spec Try.prog 57 #[.int .i64 o, .int .i64 z] w (σ := Unit) (fun _ => True) (fun _ => .bool (decide (ShapeOk o z))) Nob (fun _ => []) := by
  refine enter Try.func57 rfl rfl (Mem.start w) ?_
  (repeat refine g_seq ?_)
  refine g_region ?_
  refine g_pu rfl rfl rfl (pu_assign rfl rfl) ?_
  refine g_nil ?_
  by_cases h1 : o = 1 <;> by_cases h2 : o = 2 <;> by_cases h3 : z < 1 <;> by_cases h4 : z > 8 <;> (
    (repeat refine g_seq ?_)
    refine g_region ?_
    refine g_pu rfl rfl rfl (pu_move rfl rfl) ?_
    first | refine g_pu rfl rfl rfl (pu_eql_t rfl rfl rfl (by omega)) ?_ | refine g_pu rfl rfl rfl (pu_eql_f rfl rfl rfl (by omega)) ?_ | refine g_pu rfl rfl rfl (pu_eql rfl rfl rfl) ?_
    refine g_pu rfl rfl rfl (pu_move rfl rfl) ?_
    first | refine g_pass rfl rfl rfl ?_ | refine g_pu rfl rfl rfl (pu_move rfl rfl) ?_
    first | refine g_pass rfl rfl rfl ?_ | refine g_pu rfl rfl rfl (pu_eql_t rfl rfl rfl (by omega)) ?_ | refine g_pu rfl rfl rfl (pu_eql_f rfl rfl rfl (by omega)) ?_ | refine g_pu rfl rfl rfl (pu_eql rfl rfl rfl) ?_
    first | refine g_pu rfl rfl rfl (pu_pick_t rfl rfl rfl) ?_ | refine g_pu rfl rfl rfl (pu_pick_f rfl rfl rfl) ?_
    refine g_pu rfl rfl rfl (pu_move rfl rfl) ?_
    first | refine g_pass rfl rfl rfl ?_ | refine g_pu rfl rfl rfl (pu_move rfl rfl) ?_
    first | refine g_pass rfl rfl rfl ?_ | refine g_pu rfl rfl rfl (pu_geq_t rfl rfl rfl (by omega)) ?_ | refine g_pu rfl rfl rfl (pu_geq_f rfl rfl rfl (by omega)) ?_ | refine g_pu rfl rfl rfl (pu_geq rfl rfl rfl) ?_
    first | refine g_pu rfl rfl rfl (pu_pick_t rfl rfl rfl) ?_ | refine g_pu rfl rfl rfl (pu_pick_f rfl rfl rfl) ?_
    refine g_pu rfl rfl rfl (pu_move rfl rfl) ?_
    first | refine g_pass rfl rfl rfl ?_ | refine g_pu rfl rfl rfl (pu_move rfl rfl) ?_
    first | refine g_pass rfl rfl rfl ?_ | refine g_pu rfl rfl rfl (pu_leq_t rfl rfl rfl (by omega)) ?_ | refine g_pu rfl rfl rfl (pu_leq_f rfl rfl rfl (by omega)) ?_ | refine g_pu rfl rfl rfl (pu_leq rfl rfl rfl) ?_
    first | refine g_pu rfl rfl rfl (pu_pick_t rfl rfl rfl) ?_ | refine g_pu rfl rfl rfl (pu_pick_f rfl rfl rfl) ?_
    refine g_pu rfl rfl rfl (pu_assign rfl rfl) ?_
    refine g_nil ?_
    refine g_ret1 rfl rfl (fun w' hm => ⟨(), trivial, ?_, hm.grows [] trivial rfl⟩)
    first | exact congrArg (fun b => Ending.returned (.bool b)) (decide_eq_true (by unfold ShapeOk; omega)).symm | exact congrArg (fun b => Ending.returned (.bool b)) (decide_eq_false (by unfold ShapeOk; omega)).symm)

/-! ## The plain law -/
def beV (r : List (BitVec 8)) : BitVec 64 := r.foldl (fun n b => (n <<< 8) ||| b.setWidth 64) 0#64
def leV : List (BitVec 8) → BitVec 64
  | [] => 0#64
  | b :: t => b.setWidth 64 + 256#64 * leV t
def win (l : List (BitVec 8)) (t z : Nat) : List (BitVec 8) := (l.drop t).take z
def rdS (o : Int) (s : List (BitVec 8)) : List (BitVec 8) := if o = 2 then s else s.reverse
def getE (o : Int) (n : Nat) (t z : Int) : Int := if ¬ ShapeOk o z ∨ t < 0 then 1 else if (n : Int) < t + z then 2 else 0
def getV (o : Int) (l : List (BitVec 8)) (t z : Int) : BitVec 64 := if getE o l.length t z = 0 then beV (rdS o (win l t.toNat z.toNat)) else 0#64

theorem or_add (n : BitVec 64) (b : BitVec 8) : (n <<< 8) ||| b.setWidth 64 = b.setWidth 64 + 256#64 * n := by
  have h : (n <<< 8) &&& b.setWidth 64 = 0#64 := by
    apply BitVec.eq_of_getLsbD_eq
    intro i hi
    by_cases h : i < 8
    · simp [h]
    · simp [BitVec.getLsbD_of_ge b i (by omega)]
  rw [← BitVec.add_eq_or_of_and_eq_zero _ _ h, BitVec.add_comm]
  congr 1
  rw [BitVec.shiftLeft_eq_mul_twoPow, BitVec.mul_comm]
  rfl
theorem beV_snoc (r : List (BitVec 8)) (b : BitVec 8) : beV (r ++ [b]) = (beV r <<< 8) ||| b.setWidth 64 := by simp [beV]
theorem leV_rev (r : List (BitVec 8)) : leV r = beV r.reverse := by
  induction r with
  | nil => rfl
  | cons b r ih => rw [List.reverse_cons, beV_snoc, or_add, ← ih]; rfl
theorem beV_rev (r : List (BitVec 8)) : beV r = leV r.reverse := by rw [leV_rev, List.reverse_reverse]
theorem leV_snoc (t : List (BitVec 8)) (b : BitVec 8) : leV (t ++ [b]) = leV t + (256#64 ^ t.length) * b.setWidth 64 := by
  induction t with
  | nil => simp [leV]
  | cons a t ih =>
    simp only [List.cons_append, leV, ih, List.length_cons]
    rw [BitVec.mul_add, BitVec.add_assoc, ← BitVec.mul_assoc, BitVec.pow_succ, BitVec.mul_comm (256#64 ^ t.length) 256#64]
theorem win_length {l : List (BitVec 8)} {t z : Nat} (h : t + z ≤ l.length) : (win l t z).length = z := by simp [win]; omega
theorem win_get {l : List (BitVec 8)} {t z i : Nat} (hi : i < z) : (win l t z)[i]? = l[t + i]? := by simp [win, List.getElem?_take, hi]
theorem rdS_length {o : Int} {s : List (BitVec 8)} : (rdS o s).length = s.length := by unfold rdS; split <;> simp
/-- The byte that is read in round i. -/
theorem rdS_get {o : Int} {l : List (BitVec 8)} {t z i : Nat} (h : t + z ≤ l.length) (hi : i < z) : (rdS o (win l t z))[i]? = l[if o = 2 then t + i else t + z - 1 - i]? := by
  unfold rdS
  split
  · exact win_get hi
  · rw [List.getElem?_reverse (by rw [win_length h]; exact hi), win_length h, win_get (by omega)]
    congr 1; omega
theorem rdSr_get {o : Int} {l : List (BitVec 8)} {t z i : Nat} (h : t + z ≤ l.length) (hi : i < z) : (rdS o (win l t z)).reverse[i]? = l[if o = 2 then t + z - 1 - i else t + i]? := by
  rw [List.getElem?_reverse (by rw [rdS_length, win_length h]; exact hi), rdS_length, win_length h, rdS_get h (by omega)]
  split <;> (congr 1; omega)

end Go.Sx

/-
  The reference's way to read a number out of bytes. The order is 1 or 2, the width 1 to 8.
-/
namespace Go.Sx
open Go Go.Proofs

theorem RGet_b (w : World) (o : Int) {p : Option Addr} {n : Nat} (c : Nat) {l : List (BitVec 8)} (t z : Int) (ha : By w p n l) :
    Spec Try.prog 46 #[.int .i64 o, .slice p n c, .int .i64 t, .int .i64 z] w (σ := Unit) (fun _ => True) (fun _ => .tuple #[b64 (getV o l t z), .int .i64 (getE o n t z)]) Nob (fun _ => []) := by
  refine enter Try.func46 rfl rfl (Mem.start w) ?_
  have hn := ha.len
  have hbig := ha.big
  (repeat refine g_seq ?_)
  refine g_region ?_
  refine g_pu rfl rfl rfl (pu_assign (v := b64 0#64) rfl rfl) ?_
  refine g_pu rfl rfl rfl (pu_assign rfl rfl) ?_
  refine g_nil ?_
  by_cases hs : ShapeOk o z
  · have hz := hs.2
    by_cases ht : t < 0
    · (repeat refine g_seq ?_)
      refine g_region ?_
      refine g_pu rfl rfl rfl (pu_move rfl rfl) ?_
      refine g_pu rfl rfl rfl (pu_move rfl rfl) ?_
      refine g_call [] rfl rfl rfl rfl rfl rfl (fun w' hm => rshape_b w' o z) (fun _ _ => ?_)
      refine g_as (t := 16) (u := .bool true) rfl (by rw [decide_eq_true hs]) rfl ?_
      refine g_pu rfl rfl rfl (pu_not rfl rfl) ?_
      refine g_pu rfl rfl rfl (pu_move rfl rfl) ?_
      first | refine g_pass rfl rfl rfl ?_ | refine g_pu rfl rfl rfl (pu_move rfl rfl) ?_
      first | refine g_pass rfl rfl rfl ?_ | refine g_pu rfl rfl rfl (pu_lss_t rfl rfl rfl (by omega)) ?_ | refine g_pu rfl rfl rfl (pu_lss_f rfl rfl rfl (by omega)) ?_ | refine g_pu rfl rfl rfl (pu_lss rfl rfl rfl) ?_
      first | refine g_pu rfl rfl rfl (pu_pick_t rfl rfl rfl) ?_ | refine g_pu rfl rfl rfl (pu_pick_f rfl rfl rfl) ?_
      refine g_nil ?_
      (repeat refine g_seq ?_)
      refine g_cond_t rfl ?_
      (repeat refine g_seq ?_)
      refine g_region ?_
      refine g_pu rfl rfl rfl (pu_assign (v := b64 0#64) rfl rfl) ?_
      refine g_pu rfl rfl rfl (pu_assign rfl rfl) ?_
      refine g_nil ?_
      refine g_ret2 rfl rfl rfl (fun w' hm => ⟨(), trivial, ?_, hm.grows [] trivial rfl⟩)
      have he : getE o n t z = 1 := by simp [getE, ht]
      simp [getV, hn, he]
    · obtain ⟨t, rfl⟩ := Int.eq_ofNat_of_zero_le (show 0 ≤ t by omega)
      obtain ⟨z, rfl⟩ := Int.eq_ofNat_of_zero_le (show 0 ≤ z by omega)
      (repeat refine g_seq ?_)
      refine g_region ?_
      refine g_pu rfl rfl rfl (pu_move rfl rfl) ?_
      refine g_pu rfl rfl rfl (pu_move rfl rfl) ?_
      refine g_call [] rfl rfl rfl rfl rfl rfl (fun w' hm => rshape_b w' o z) (fun _ _ => ?_)
      refine g_as (t := 16) (u := .bool true) rfl (by rw [decide_eq_true hs]) rfl ?_
      refine g_pu rfl rfl rfl (pu_not rfl rfl) ?_
      refine g_pu rfl rfl rfl (pu_move rfl rfl) ?_
      first | refine g_pass rfl rfl rfl ?_ | refine g_pu rfl rfl rfl (pu_move rfl rfl) ?_
      first | refine g_pass rfl rfl rfl ?_ | refine g_pu rfl rfl rfl (pu_lss_t rfl rfl rfl (by omega)) ?_ | refine g_pu rfl rfl rfl (pu_lss_f rfl rfl rfl (by omega)) ?_ | refine g_pu rfl rfl rfl (pu_lss rfl rfl rfl) ?_
      first | refine g_pu rfl rfl rfl (pu_pick_t rfl rfl rfl) ?_ | refine g_pu rfl rfl rfl (pu_pick_f rfl rfl rfl) ?_
      refine g_nil ?_
      (repeat refine g_seq ?_)
      refine g_cond_f rfl (g_skip ?_)
      by_cases hr : t + z ≤ n
      · (repeat refine g_seq ?_)
        refine g_region ?_
        refine g_pu rfl rfl rfl (pu_move rfl rfl) ?_
        refine g_pu rfl rfl rfl (pu_move rfl rfl) ?_
        first | refine g_pu rfl rfl rfl (pu_len rfl rfl) ?_ | refine g_pu rfl rfl rfl (pu_lenS rfl rfl) ?_
        first | refine g_pu rfl rfl rfl (pu_gtr_t rfl rfl rfl (by omega)) ?_ | refine g_pu rfl rfl rfl (pu_gtr_f rfl rfl rfl (by omega)) ?_ | refine g_pu rfl rfl rfl (pu_gtr rfl rfl rfl) ?_
        refine g_pu rfl rfl rfl (pu_move rfl rfl) ?_
        first | refine g_pass rfl rfl rfl ?_ | refine g_pu rfl rfl rfl (pu_move rfl rfl) ?_
        first | refine g_pass rfl rfl rfl ?_ | refine g_pu rfl rfl rfl (pu_move rfl rfl) ?_
        first | refine g_pass rfl rfl rfl ?_ | refine g_pu rfl rfl rfl (pu_len rfl rfl) ?_ | refine g_pu rfl rfl rfl (pu_lenS rfl rfl) ?_
        first | refine g_pass rfl rfl rfl ?_ | refine g_pu rfl rfl rfl (pu_move rfl rfl) ?_
        first | refine g_pass rfl rfl rfl ?_ | refine g_pu rfl rfl rfl (pu_subI rfl rfl rfl (by omega)) ?_
        first | refine g_pass rfl rfl rfl ?_ | refine g_pu rfl rfl rfl (pu_gtr_t rfl rfl rfl (by omega)) ?_ | refine g_pu rfl rfl rfl (pu_gtr_f rfl rfl rfl (by omega)) ?_ | refine g_pu rfl rfl rfl (pu_gtr rfl rfl rfl) ?_
        first | refine g_pu rfl rfl rfl (pu_pick_t rfl rfl rfl) ?_ | refine g_pu rfl rfl rfl (pu_pick_f rfl rfl rfl) ?_
        refine g_nil ?_
        (repeat refine g_seq ?_)
        refine g_cond_f rfl (g_skip ?_)
        have he : getE o n t z = 0 := by unfold getE; rw [if_neg (by omega), if_neg (by omega)]
        have hv : getV o l t z = beV (rdS o (win l t z)) := by simp [getV, hn, he]
        (repeat refine g_seq ?_)
        refine g_region ?_
        refine g_pu rfl rfl rfl (pu_assign (v := b64 0#64) rfl rfl) ?_
        refine g_nil ?_
        (repeat refine g_seq ?_)
        refine g_region ?_
        refine g_pu rfl rfl rfl (pu_assign (v := b64 1#64) rfl rfl) ?_
        refine g_nil ?_
        (repeat refine g_seq ?_)
        refine g_region ?_
        refine g_pu rfl rfl rfl (pu_assign rfl rfl) ?_
        refine g_nil ?_
        have hul : (rdS o (win l t z)).reverse.length = z := by rw [List.length_reverse, rdS_length, win_length (by omega)]
        refine g_block (g_loop2 (fun (i : Nat) (x : BitVec 64) => [(0, .int .i64 o), (1, .slice p n c), (2, .int .i64 (t : Int)), (3, .int .i64 (z : Int)), (10, b64 x), (11, b64 (256#64 ^ i)), (12, .int .i64 (i : Int))]) (fun _ _ => []) (fun i x => i ≤ z ∧ x = leV ((rdS o (win l t z)).reverse.take i)) (fun i _ => z - i) 0 0#64 ⟨rfl, rfl, rfl, rfl, rfl, rfl, rfl, trivial⟩ trivial (by simp [leV]) ?_)
        intro i x ⟨hi, hx⟩
        by_cases hlt : i < z
        · (repeat refine g_seq ?_)
          refine g_region ?_
          refine g_pu rfl rfl rfl (pu_move rfl rfl) ?_
          refine g_pu rfl rfl rfl (pu_move rfl rfl) ?_
          first | refine g_pu rfl rfl rfl (pu_lss_t rfl rfl rfl (by omega)) ?_ | refine g_pu rfl rfl rfl (pu_lss_f rfl rfl rfl (by omega)) ?_ | refine g_pu rfl rfl rfl (pu_lss rfl rfl rfl) ?_
          refine g_nil ?_
          (repeat refine g_seq ?_)
          refine g_cond_t rfl (g_skip ?_)
          have hl := rdSr_get (o := o) (l := l) (t := t) (z := z) (i := i) (by omega) hlt
          (repeat refine g_seq ?_); refine g_block ?_
          (repeat refine g_seq ?_)
          refine g_region ?_
          refine g_pu rfl rfl rfl (pu_move rfl rfl) ?_
          refine g_pu rfl rfl rfl (pu_move rfl rfl) ?_
          refine g_pu rfl rfl rfl (pu_addI rfl rfl rfl (by omega)) ?_
          refine g_pu rfl rfl rfl (pu_assign rfl rfl) ?_
          refine g_nil ?_
          refine g_seq ?_
          refine g_join (σ := Int) (fun k => [(0, .int .i64 o), (1, .slice p n c), (2, .int .i64 (t : Int)), (3, .int .i64 (z : Int)), (10, b64 x), (11, b64 (256#64 ^ i)), (12, .int .i64 (i : Int)), (13, .int .i64 k)]) (fun _ => []) (fun k => k = if o = 2 then (t : Int) + z - 1 - i else t + i) ?_ (fun k hk => ?_)
          · rcases hs.1 with h1 | h1
            · (repeat refine g_seq ?_)
              refine g_region ?_
              refine g_pu rfl rfl rfl (pu_move rfl rfl) ?_
              first | refine g_pu rfl rfl rfl (pu_eql_t rfl rfl rfl (by omega)) ?_ | refine g_pu rfl rfl rfl (pu_eql_f rfl rfl rfl (by omega)) ?_ | refine g_pu rfl rfl rfl (pu_eql rfl rfl rfl) ?_
              refine g_nil ?_
              (repeat refine g_seq ?_)
              refine g_cond_f rfl (g_skip ?_)
              exact g_meet _ (by rw [if_neg (by omega)]) ⟨rfl, rfl, rfl, rfl, rfl, rfl, rfl, rfl, trivial⟩ trivial
            · (repeat refine g_seq ?_)
              refine g_region ?_
              refine g_pu rfl rfl rfl (pu_move rfl rfl) ?_
              first | refine g_pu rfl rfl rfl (pu_eql_t rfl rfl rfl (by omega)) ?_ | refine g_pu rfl rfl rfl (pu_eql_f rfl rfl rfl (by omega)) ?_ | refine g_pu rfl rfl rfl (pu_eql rfl rfl rfl) ?_
              refine g_nil ?_
              (repeat refine g_seq ?_)
              refine g_cond_t rfl ?_
              (repeat refine g_seq ?_)
              refine g_region ?_
              refine g_pu rfl rfl rfl (pu_move rfl rfl) ?_
              refine g_pu rfl rfl rfl (pu_move rfl rfl) ?_
              refine g_pu rfl rfl rfl (pu_addI rfl rfl rfl (by omega)) ?_
              refine g_pu rfl rfl rfl (pu_subI rfl rfl rfl (by omega)) ?_
              refine g_pu rfl rfl rfl (pu_move rfl rfl) ?_
              refine g_pu rfl rfl rfl (pu_subI rfl rfl rfl (by omega)) ?_
              refine g_pu rfl rfl rfl (pu_assign rfl rfl) ?_
              refine g_nil ?_
              exact g_meet _ (by rw [if_pos h1]) ⟨rfl, rfl, rfl, rfl, rfl, rfl, rfl, rfl, trivial⟩ trivial
          · have hkn : k = ((if o = 2 then t + z - 1 - i else t + i : Nat) : Int) := by rw [hk]; split <;> omega
            have hlt2 : (if o = 2 then t + z - 1 - i else t + i) < n := by split <;> omega
            generalize (if o = 2 then t + z - 1 - i else t + i) = j at hkn hlt2 hl
            have h1 : l[j]? = some l[j] := List.getElem?_eq_getElem (by omega)
            rw [h1] at hl
            (repeat refine g_seq ?_)
            refine g_region ?_
            refine g_pu rfl rfl rfl (pu_move rfl rfl) ?_
            refine g_pu rfl rfl rfl (pu_move rfl rfl) ?_
            refine g_pu rfl rfl rfl (pu_move rfl rfl) ?_
            refine g_pu rfl rfl rfl (pu_move rfl rfl) ?_
            refine g_pu rfl rfl rfl (pu_atB j (fun w' hm => ha.m hm) rfl rfl rfl (by omega) (by omega)) ?_
            refine g_pu rfl rfl rfl (pu_rdB (fun w' hm => ha.m hm) rfl rfl h1) ?_
            refine g_pu rfl rfl rfl (pu_conv8_64 rfl rfl) ?_
            refine g_pu rfl rfl rfl (pu_mul64 rfl rfl rfl) ?_
            refine g_pu rfl rfl rfl (pu_add64 rfl rfl rfl) ?_
            refine g_pu rfl rfl rfl (pu_assign rfl rfl) ?_
            refine g_nil ?_
            (repeat refine g_seq ?_)
            refine g_region ?_
            refine g_pu rfl rfl rfl (pu_move rfl rfl) ?_
            refine g_pu rfl rfl rfl (pu_mul64 (b := 256#64) rfl rfl rfl) ?_
            refine g_pu rfl rfl rfl (pu_assign rfl rfl) ?_
            refine g_nil ?_
            refine g_blk ?_
            (repeat refine g_seq ?_)
            refine g_region ?_
            refine g_pu rfl rfl rfl (pu_move rfl rfl) ?_
            refine g_pu rfl rfl rfl (pu_addI rfl rfl rfl (by omega)) ?_
            refine g_pu rfl rfl rfl (pu_assign rfl rfl) ?_
            refine g_nil ?_
            refine g_round2 (i + 1) _ ⟨by omega, ?_⟩ (by omega) ⟨rfl, rfl, rfl, rfl, rfl, rfl, rfl, trivial⟩ trivial
            rw [List.take_add_one, hl, Option.toList_some, leV_snoc, List.length_take, hul, Nat.min_eq_left (by omega), hx]
        · (repeat refine g_seq ?_)
          refine g_region ?_
          refine g_pu rfl rfl rfl (pu_move rfl rfl) ?_
          refine g_pu rfl rfl rfl (pu_move rfl rfl) ?_
          first | refine g_pu rfl rfl rfl (pu_lss_t rfl rfl rfl (by omega)) ?_ | refine g_pu rfl rfl rfl (pu_lss_f rfl rfl rfl (by omega)) ?_ | refine g_pu rfl rfl rfl (pu_lss rfl rfl rfl) ?_
          refine g_nil ?_
          (repeat refine g_seq ?_)
          refine g_cond_f rfl (g_exit rfl ?_)
          (repeat refine g_seq ?_)
          refine g_region ?_
          refine g_pu rfl rfl rfl (pu_move rfl rfl) ?_
          refine g_pu rfl rfl rfl (pu_assign rfl rfl) ?_
          refine g_pu rfl rfl rfl (pu_assign rfl rfl) ?_
          refine g_nil ?_
          have e : i = z := by omega
          subst e
          rw [List.take_of_length_le (by omega)] at hx
          exact g_ret2 rfl rfl rfl (fun w' hm => ⟨(), trivial, by rw [he, hv, hx, beV_rev], hm.grows [] trivial rfl⟩)
      · have he : getE o n t z = 2 := by unfold getE; rw [if_neg (by omega), if_pos (by omega)]
        by_cases h1 : z > n
        · (repeat refine g_seq ?_)
          refine g_region ?_
          refine g_pu rfl rfl rfl (pu_move rfl rfl) ?_
          refine g_pu rfl rfl rfl (pu_move rfl rfl) ?_
          first | refine g_pu rfl rfl rfl (pu_len rfl rfl) ?_ | refine g_pu rfl rfl rfl (pu_lenS rfl rfl) ?_
          first | refine g_pu rfl rfl rfl (pu_gtr_t rfl rfl rfl (by omega)) ?_ | refine g_pu rfl rfl rfl (pu_gtr_f rfl rfl rfl (by omega)) ?_ | refine g_pu rfl rfl rfl (pu_gtr rfl rfl rfl) ?_
          refine g_pu rfl rfl rfl (pu_move rfl rfl) ?_
          first | refine g_pass rfl rfl rfl ?_ | refine g_pu rfl rfl rfl (pu_move rfl rfl) ?_
          first | refine g_pass rfl rfl rfl ?_ | refine g_pu rfl rfl rfl (pu_move rfl rfl) ?_
          first | refine g_pass rfl rfl rfl ?_ | refine g_pu rfl rfl rfl (pu_len rfl rfl) ?_ | refine g_pu rfl rfl rfl (pu_lenS rfl rfl) ?_
          first | refine g_pass rfl rfl rfl ?_ | refine g_pu rfl rfl rfl (pu_move rfl rfl) ?_
          first | refine g_pass rfl rfl rfl ?_ | refine g_pu rfl rfl rfl (pu_subI rfl rfl rfl (by omega)) ?_
          first | refine g_pass rfl rfl rfl ?_ | refine g_pu rfl rfl rfl (pu_gtr_t rfl rfl rfl (by omega)) ?_ | refine g_pu rfl rfl rfl (pu_gtr_f rfl rfl rfl (by omega)) ?_ | refine g_pu rfl rfl rfl (pu_gtr rfl rfl rfl) ?_
          first | refine g_pu rfl rfl rfl (pu_pick_t rfl rfl rfl) ?_ | refine g_pu rfl rfl rfl (pu_pick_f rfl rfl rfl) ?_
          refine g_nil ?_
          (repeat refine g_seq ?_)
          refine g_cond_t rfl ?_
          (repeat refine g_seq ?_)
          refine g_region ?_
          refine g_pu rfl rfl rfl (pu_assign (v := b64 0#64) rfl rfl) ?_
          refine g_pu rfl rfl rfl (pu_assign rfl rfl) ?_
          refine g_nil ?_
          exact g_ret2 rfl rfl rfl (fun w' hm => ⟨(), trivial, by simp [getV, hn, he], hm.grows [] trivial rfl⟩)
        · (repeat refine g_seq ?_)
          refine g_region ?_
          refine g_pu rfl rfl rfl (pu_move rfl rfl) ?_
          refine g_pu rfl rfl rfl (pu_move rfl rfl) ?_
          first | refine g_pu rfl rfl rfl (pu_len rfl rfl) ?_ | refine g_pu rfl rfl rfl (pu_lenS rfl rfl) ?_
          first | refine g_pu rfl rfl rfl (pu_gtr_t rfl rfl rfl (by omega)) ?_ | refine g_pu rfl rfl rfl (pu_gtr_f rfl rfl rfl (by omega)) ?_ | refine g_pu rfl rfl rfl (pu_gtr rfl rfl rfl) ?_
          refine g_pu rfl rfl rfl (pu_move rfl rfl) ?_
          first | refine g_pass rfl rfl rfl ?_ | refine g_pu rfl rfl rfl (pu_move rfl rfl) ?_
          first | refine g_pass rfl rfl rfl ?_ | refine g_pu rfl rfl rfl (pu_move rfl rfl) ?_
          first | refine g_pass rfl rfl rfl ?_ | refine g_pu rfl rfl rfl (pu_len rfl rfl) ?_ | refine g_pu rfl rfl rfl (pu_lenS rfl rfl) ?_
          first | refine g_pass rfl rfl rfl ?_ | refine g_pu rfl rfl rfl (pu_move rfl rfl) ?_
          first | refine g_pass rfl rfl rfl ?_ | refine g_pu rfl rfl rfl (pu_subI rfl rfl rfl (by omega)) ?_
          first | refine g_pass rfl rfl rfl ?_ | refine g_pu rfl rfl rfl (pu_gtr_t rfl rfl rfl (by omega)) ?_ | refine g_pu rfl rfl rfl (pu_gtr_f rfl rfl rfl (by omega)) ?_ | refine g_pu rfl rfl rfl (pu_gtr rfl rfl rfl) ?_
          first | refine g_pu rfl rfl rfl (pu_pick_t rfl rfl rfl) ?_ | refine g_pu rfl rfl rfl (pu_pick_f rfl rfl rfl) ?_
          refine g_nil ?_
          (repeat refine g_seq ?_)
          refine g_cond_t rfl ?_
          (repeat refine g_seq ?_)
          refine g_region ?_
          refine g_pu rfl rfl rfl (pu_assign (v := b64 0#64) rfl rfl) ?_
          refine g_pu rfl rfl rfl (pu_assign rfl rfl) ?_
          refine g_nil ?_
          exact g_ret2 rfl rfl rfl (fun w' hm => ⟨(), trivial, by simp [getV, hn, he], hm.grows [] trivial rfl⟩)
  · (repeat refine g_seq ?_)
    refine g_region ?_
    refine g_pu rfl rfl rfl (pu_move rfl rfl) ?_
    refine g_pu rfl rfl rfl (pu_move rfl rfl) ?_
    refine g_call [] rfl rfl rfl rfl rfl rfl (fun w' hm => rshape_b w' o z) (fun _ _ => ?_)
    refine g_as (t := 16) (u := .bool false) rfl (by rw [decide_eq_false hs]) rfl ?_
    refine g_pu rfl rfl rfl (pu_not rfl rfl) ?_
    refine g_pu rfl rfl rfl (pu_move rfl rfl) ?_
    first | refine g_pass rfl rfl rfl ?_ | refine g_pu rfl rfl rfl (pu_move rfl rfl) ?_
    first | refine g_pass rfl rfl rfl ?_ | refine g_pu rfl rfl rfl (pu_lss_t rfl rfl rfl (by omega)) ?_ | refine g_pu rfl rfl rfl (pu_lss_f rfl rfl rfl (by omega)) ?_ | refine g_pu rfl rfl rfl (pu_lss rfl rfl rfl) ?_
    first | refine g_pu rfl rfl rfl (pu_pick_t rfl rfl rfl) ?_ | refine g_pu rfl rfl rfl (pu_pick_f rfl rfl rfl) ?_
    refine g_nil ?_
    (repeat refine g_seq ?_)
    refine g_cond_t rfl ?_
    (repeat refine g_seq ?_)
    refine g_region ?_
    refine g_pu rfl rfl rfl (pu_assign (v := b64 0#64) rfl rfl) ?_
    refine g_pu rfl rfl rfl (pu_assign rfl rfl) ?_
    refine g_nil ?_
    refine g_ret2 rfl rfl rfl (fun w' hm => ⟨(), trivial, ?_, hm.grows [] trivial rfl⟩)
    have he : getE o n t z = 1 := by unfold getE; rw [if_pos (.inl hs)]
    simp [getV, hn, he]
end Go.Sx

/-
  Copies of lists of bytes; the place by place turning of lists, of the codec and of its reference. A list of lists takes at most 2^47 bytes.
-/
namespace Go.Sx
open Go Go.Proofs

theorem isSl_of {L : List Value} (h : L.all isSl = true) {v : Value} (hv : v ∈ L) : ∃ q m c, v = .slice q m c := by
  have := List.all_eq_true.1 h v hv
  cases v <;> simp [isSl] at this ⊢
theorem oneCell_sl {L : List Value} (h : L.all isSl = true) : ∀ u ∈ L, u.oneCell' = true := fun u hu => by
  obtain ⟨q, m, c, rfl⟩ := isSl_of h hu; rfl

theorem Copies_b (w : World) {p : Option Addr} {n : Nat} (c : Nat) {L : List Value} {ls : List (List (BitVec 8))} (ha : ByL w p n L ls) :
    Spec Try.prog 22 #[.slice p n c] w (σ := Owl) (Owl.ok n) (fun x => x.sl n) Nob (fun x => [x.ck 22, x.ckE ls]) := by
  refine enter Try.func22 rfl rfl (Mem.start w) ?_
  have hn := ha.len
  have hbig := ha.big
  have hln := ha.lenL
  (repeat refine g_seq ?_)
  refine g_region ?_
  refine g_pu rfl rfl rfl (pu_assign rfl rfl) ?_
  refine g_nil ?_
  (repeat refine g_seq ?_)
  refine g_region ?_
  refine g_pu rfl rfl rfl (pu_move rfl rfl) ?_
  first | refine g_pu rfl rfl rfl (pu_len rfl rfl) ?_ | refine g_pu rfl rfl rfl (pu_lenS rfl rfl) ?_
  refine g_lo [1] rfl rfl rfl rfl (lo_make (n := 0) (c := n) rfl rfl rfl (by omega) (by omega) (by omega) rfl) (fun b7 hb7 => ?_)
  refine g_pu rfl rfl rfl (pu_assign rfl rfl) ?_
  refine g_nil ?_
  refine g_own 1 (L := []) (J := List.replicate n (.slice none 0 0)) (c := n) (s := 1) rfl (by simp) (by omega) ?_
  refine g_noEls 2 rfl ?_
  (repeat refine g_seq ?_)
  refine g_region ?_
  refine g_pu rfl rfl rfl (pu_assign rfl rfl) ?_
  refine g_nil ?_
  refine g_block (g_loop2 (fun (i : Nat) (x : Owl) => [(0, .slice p n c), (3, x.sl i), (4, .int .i64 (i : Int))]) (fun i x => [(1, x.ck 22), (2, x.ckE (ls.take i))]) (fun i x => i ≤ n ∧ x.ok i) (fun i _ => n - i) 0 ⟨some ⟨b7, 0, none⟩, n, [], Nob⟩ ⟨rfl, rfl, rfl, trivial⟩ ⟨rfl, rfl, trivial⟩ ⟨by omega, rfl, rfl⟩ ?_)
  intro i x ⟨hi, hx⟩
  by_cases hlt : i < n
  · (repeat refine g_seq ?_)
    refine g_region ?_
    refine g_pu rfl rfl rfl (pu_move rfl rfl) ?_
    refine g_pu rfl rfl rfl (pu_move rfl rfl) ?_
    first | refine g_pu rfl rfl rfl (pu_len rfl rfl) ?_ | refine g_pu rfl rfl rfl (pu_lenS rfl rfl) ?_
    first | refine g_pu rfl rfl rfl (pu_lss_t rfl rfl rfl (by omega)) ?_ | refine g_pu rfl rfl rfl (pu_lss_f rfl rfl rfl (by omega)) ?_ | refine g_pu rfl rfl rfl (pu_lss rfl rfl rfl) ?_
    refine g_nil ?_
    (repeat refine g_seq ?_)
    refine g_cond_t rfl (g_skip ?_)
    have hl : ls[i]? = some ls[i] := List.getElem?_eq_getElem (by omega)
    obtain ⟨q, m, cc, hL, hq⟩ := ha.at hl
    (repeat refine g_seq ?_); refine g_block ?_
    (repeat refine g_seq ?_)
    refine g_region ?_
    refine g_pu rfl rfl rfl (pu_move rfl rfl) ?_
    refine g_pu rfl rfl rfl (pu_move rfl rfl) ?_
    refine g_pu rfl rfl rfl (pu_move rfl rfl) ?_
    refine g_pu rfl rfl rfl (pu_atM1 i (fun w' hm => (ha.m hm).rd) rfl rfl rfl rfl hlt (by omega)) ?_
    refine g_pu rfl rfl rfl (pu_rdM (fun w' hm => (ha.m hm).rd) rfl rfl hL) ?_
    refine g_call [19] rfl rfl rfl rfl rfl rfl (fun w' hm => Copy_b w' cc (hq.m hm)) (fun x19 _ => ?_)
    refine g_lo [20] rfl rfl rfl rfl (lo_buildSlice rfl rfl (by decide) (by decide) rfl rfl) (fun b20 hb20 => ?_)
    refine g_append1 1 [x19.sl m] rfl rfl rfl rfl rfl rfl rfl rfl hx.1 (fun w' hm => hm.row 20 (J := []) rfl) rfl (fun u hu => by obtain rfl := List.mem_singleton.1 hu; rfl) (by omega) (by omega) (fun p' c' => ?_)
    refine g_pu rfl rfl rfl (pu_assign rfl rfl) ?_
    refine g_nil ?_
    refine g_join_el 2 19 (S := x.S) (L := x.L) (ls := ls.take i) (x := x19) (n := m) (l := ls[i]) rfl rfl hq.len hq.big rfl ?_
    refine g_blk ?_
    (repeat refine g_seq ?_)
    refine g_region ?_
    refine g_pu rfl rfl rfl (pu_move rfl rfl) ?_
    refine g_pu rfl rfl rfl (pu_addI rfl rfl rfl (by omega)) ?_
    refine g_pu rfl rfl rfl (pu_assign rfl rfl) ?_
    refine g_nil ?_
    have ht : ls.take (i + 1) = ls.take i ++ [ls[i]] := by rw [List.take_add_one, hl]; rfl
    refine g_round2 (i + 1) (⟨p', c', x.L ++ [x19.sl m], fun j => x.S j ∨ At x19.p j⟩ : Owl) ⟨by omega, by simp [hx.1], by simp [hx.2, Ow.sl, isSl]⟩ (by omega) ⟨rfl, rfl, rfl, trivial⟩ ⟨rfl, by rw [ht]; rfl, trivial⟩
  · (repeat refine g_seq ?_)
    refine g_region ?_
    refine g_pu rfl rfl rfl (pu_move rfl rfl) ?_
    refine g_pu rfl rfl rfl (pu_move rfl rfl) ?_
    first | refine g_pu rfl rfl rfl (pu_len rfl rfl) ?_ | refine g_pu rfl rfl rfl (pu_lenS rfl rfl) ?_
    first | refine g_pu rfl rfl rfl (pu_lss_t rfl rfl rfl (by omega)) ?_ | refine g_pu rfl rfl rfl (pu_lss_f rfl rfl rfl (by omega)) ?_ | refine g_pu rfl rfl rfl (pu_lss rfl rfl rfl) ?_
    refine g_nil ?_
    (repeat refine g_seq ?_)
    refine g_cond_f rfl (g_exit rfl ?_)
    (repeat refine g_seq ?_)
    refine g_region ?_
    refine g_pu rfl rfl rfl (pu_move rfl rfl) ?_
    refine g_pu rfl rfl rfl (pu_assign rfl rfl) ?_
    refine g_nil ?_
    have e1 : i = n := by omega
    subst e1
    rw [List.take_of_length_le (by omega)]
    exact g_ret1 rfl rfl (fun w' hm => ⟨x, hx, rfl, hm.grows [1, 2] ⟨rfl, rfl, trivial⟩ rfl⟩)

/-! ## Turning lists by one another -/
def xorL (a b : List (BitVec 8)) : List (BitVec 8) := List.zipWith (· ^^^ ·) a b
def xorAt (a b : List (BitVec 8)) (i : Nat) : List (BitVec 8) := (xorL a b).take i ++ a.drop i
def xorOk : List (List (BitVec 8)) → Bool
  | [] => true
  | l :: r => r.all fun m => m.length == l.length
def xorV : List (List (BitVec 8)) → List (BitVec 8)
  | [] => []
  | l :: r => if xorOk (l :: r) then r.foldl xorL l else []
def xorE (ls : List (List (BitVec 8))) : Int := if xorOk ls then 0 else 2

theorem xorL_length {a b : List (BitVec 8)} (h : b.length = a.length) : (xorL a b).length = a.length := by simp [xorL, h]
theorem xorAt_zero (a b : List (BitVec 8)) : xorAt a b 0 = a := by simp [xorAt]
theorem xorAt_end {a b : List (BitVec 8)} {n : Nat} (h : b.length = a.length) (hn : a.length = n) : xorAt a b n = xorL a b := by
  unfold xorAt
  rw [List.take_of_length_le (by rw [xorL_length h]; omega), List.drop_of_length_le (by omega), List.append_nil]
theorem xorAt_length {a b : List (BitVec 8)} {i : Nat} (h : b.length = a.length) (hi : i ≤ a.length) : (xorAt a b i).length = a.length := by
  simp [xorAt, xorL_length h]; omega
theorem xorAt_get {a b : List (BitVec 8)} {i : Nat} (h : b.length = a.length) (hi : i < a.length) : (xorAt a b i)[i]? = a[i]? := by
  unfold xorAt
  rw [List.getElem?_append_right (by simp [xorL_length h]; omega)]
  simp [xorL_length h, Nat.min_eq_left (Nat.le_of_lt hi)]
theorem xorAt_set {a b : List (BitVec 8)} {i : Nat} {x y : BitVec 8} (h : b.length = a.length) (hx : a[i]? = some x) (hy : b[i]? = some y) (J : List Value) :
    (bs (xorAt a b i) ++ J).set i (b8 (x ^^^ y)) = bs (xorAt a b (i + 1)) ++ J := by
  have hi : i < a.length := (List.getElem?_eq_some_iff.1 hx).1
  have hl : (bs (xorAt a b i)).length = a.length := by rw [bs_length, xorAt_length h (by omega)]
  rw [List.set_append_left _ _ (by omega)]
  congr 1
  apply List.ext_getElem?
  intro j
  have hz : (xorL a b)[i]? = some (x ^^^ y) := by simp [xorL, List.getElem?_zipWith, hx, hy]
  have hxl := xorL_length h
  by_cases hj : i = j
  · subst hj
    rw [List.getElem?_set_self (by omega)]
    simp only [bs, List.getElem?_map, xorAt]
    rw [List.getElem?_append_left (by simp [hxl]; omega), List.getElem?_take, if_pos (by omega), hz]
    rfl
  · rw [List.getElem?_set_ne hj]
    simp only [bs, List.getElem?_map]
    congr 1
    unfold xorAt
    by_cases hlt : j < i
    · rw [List.getElem?_append_left (by simp [hxl]; omega), List.getElem?_append_left (by simp [hxl]; omega), List.getElem?_take, List.getElem?_take, if_pos hlt, if_pos (by omega)]
    · rw [List.getElem?_append_right (by simp [hxl]; omega), List.getElem?_append_right (by simp [hxl]; omega)]
      simp only [List.length_take, hxl, List.getElem?_drop]
      congr 1; omega

theorem ByL.cut {w : World} {p : Option Addr} {n c : Nat} {L : List Value} {ls : List (List (BitVec 8))} (h : ByL w p n L ls) (hc : n ≤ c) (j : Nat) : ByL w (cutp p c j 1) (n - j) (L.drop j) (ls.drop j) := by
  refine ⟨h.rd.cut (by rw [h.len]; exact hc), by rw [List.length_drop, h.len], ⟨by simp [h.els.1], fun i x y hx hy => ?_⟩, by have := h.big; omega⟩
  rw [List.getElem?_drop] at hx hy
  exact h.els.2 _ x y hx hy

end Go.Sx

/-
  The reference's turning of lists by one another. A list of lists takes at most 2^47 bytes.
-/
namespace Go.Sx
open Go Go.Proofs

def accR (ls : List (List (BitVec 8))) : Nat → List (BitVec 8)
  | 0 => []
  | i + 1 => match ls with
    | [] => []
    | l :: r => (r.take i).foldl xorL l
def okR (ls : List (List (BitVec 8))) : Nat → Bool
  | 0 => true
  | i + 1 => match ls with
    | [] => true
    | l :: r => ((r.take i).all fun m => m.length == l.length) && ((r.take i).foldl xorL l).length == l.length

end Go.Sx

/-
  Writing a number as bytes: the codec's way, its reference's way, and that it is read back.
-/
namespace Go.Sx
open Go Go.Proofs

theorem get_set (m : List (BitVec 8)) (i k : Nat) (x : BitVec 8) (hi : i < m.length) : (m.set i x)[k]? = if i = k then some x else m[k]? := by
  rw [List.getElem?_set]
  split
  · rfl
  · rfl
theorem bs_set (m : List (BitVec 8)) (J : List Value) (i : Nat) (x : BitVec 8) (hi : i < m.length) : (bs m ++ J).set i (b8 x) = bs (m.set i x) ++ J := by
  rw [List.set_append_left _ _ (by rw [bs_length]; exact hi)]
  simp [bs, List.map_set]
theorem bs_load {m : List (BitVec 8)} {J : List Value} {i : Nat} {x : BitVec 8} (h : m[i]? = some x) : (bs m ++ J).toArray[0 + i]? = some (b8 x) := by
  have hi := (List.getElem?_eq_some_iff.1 h).1
  rw [Nat.zero_add, List.getElem?_toArray, List.getElem?_append_left (by rw [bs_length]; exact hi)]
  exact bs_get h

end Go.Sx
