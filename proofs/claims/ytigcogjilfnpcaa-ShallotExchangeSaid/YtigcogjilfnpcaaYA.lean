import Derived.Test.YtigcogjilfnpcaaXC
import Derived.Test.YtigcogjilfnpcaaProg
import Derived.KernelRfl
set_option linter.unusedVariables false
set_option linter.unusedSimpArgs false
/- Closed facts on the types of this seat's translation. -/
namespace Go.Sx
open Go Go.Proofs
instance : Mix Try.prog := ⟨by kernel_rfl⟩
instance : Und Try.prog 2 (.int .i64) := ⟨Try.underlying2⟩
instance : Siz Try.prog 2 1 := ⟨by kernel_rfl⟩
instance : Byt Try.prog 2 8 := ⟨by kernel_rfl⟩
instance : Agg Try.prog 2 false := ⟨by kernel_rfl⟩
instance : One Try.prog 2 := ⟨by kernel_rfl⟩
instance : Zer Try.prog 2 (.int .i64 0) := ⟨by kernel_rfl⟩
instance : Und Try.prog 3 (.int .i64) := ⟨Try.underlying3⟩
instance : Siz Try.prog 3 1 := ⟨by kernel_rfl⟩
instance : Byt Try.prog 3 8 := ⟨by kernel_rfl⟩
instance : Agg Try.prog 3 false := ⟨by kernel_rfl⟩
instance : One Try.prog 3 := ⟨by kernel_rfl⟩
instance : Zer Try.prog 3 (.int .i64 0) := ⟨by kernel_rfl⟩
instance : Und Try.prog 4 .bool := ⟨Try.underlying4⟩
instance : Siz Try.prog 4 1 := ⟨by kernel_rfl⟩
instance : Byt Try.prog 4 1 := ⟨by kernel_rfl⟩
instance : Agg Try.prog 4 false := ⟨by kernel_rfl⟩
instance : One Try.prog 4 := ⟨by kernel_rfl⟩
instance : Zer Try.prog 4 (.bool false) := ⟨by kernel_rfl⟩
instance : Und Try.prog 5 (.int .u8) := ⟨Try.underlying5⟩
instance : Siz Try.prog 5 1 := ⟨by kernel_rfl⟩
instance : Byt Try.prog 5 1 := ⟨by kernel_rfl⟩
instance : Agg Try.prog 5 false := ⟨by kernel_rfl⟩
instance : One Try.prog 5 := ⟨by kernel_rfl⟩
instance : Zer Try.prog 5 (b8 0#8) := ⟨by kernel_rfl⟩
instance : Siz Try.prog 7 4 := ⟨by kernel_rfl⟩
instance : Byt Try.prog 7 24 := ⟨by kernel_rfl⟩
instance : Agg Try.prog 7 true := ⟨by kernel_rfl⟩
instance : Plc Try.prog 7 [(0, 1), (1, 1), (2, 1), (3, 1)] := ⟨by kernel_rfl⟩
instance : Ngd Try.prog 7 := ⟨by kernel_rfl⟩
instance : Zer Try.prog 7 (.agg (List.toArray [(.int .i64 0), (.int .i64 0), (.bool false), (b8 0#8)])) := ⟨by kernel_rfl⟩
instance : Und Try.prog 9 .string := ⟨Try.underlying9⟩
instance : Siz Try.prog 9 1 := ⟨by kernel_rfl⟩
instance : Byt Try.prog 9 16 := ⟨by kernel_rfl⟩
instance : Agg Try.prog 9 false := ⟨by kernel_rfl⟩
instance : One Try.prog 9 := ⟨by kernel_rfl⟩
instance : Zer Try.prog 9 (.string .empty) := ⟨by kernel_rfl⟩
instance : Und Try.prog 12 (.int .u64) := ⟨Try.underlying12⟩
instance : Siz Try.prog 12 1 := ⟨by kernel_rfl⟩
instance : Byt Try.prog 12 8 := ⟨by kernel_rfl⟩
instance : Agg Try.prog 12 false := ⟨by kernel_rfl⟩
instance : One Try.prog 12 := ⟨by kernel_rfl⟩
instance : Zer Try.prog 12 (b64 0#64) := ⟨by kernel_rfl⟩
instance : Siz Try.prog 13 2 := ⟨by kernel_rfl⟩
instance : Byt Try.prog 13 24 := ⟨by kernel_rfl⟩
instance : Agg Try.prog 13 true := ⟨by kernel_rfl⟩
instance : Plc Try.prog 13 [(0, 1), (1, 1)] := ⟨by kernel_rfl⟩
instance : Ngd Try.prog 13 := ⟨by kernel_rfl⟩
instance : Zer Try.prog 13 (.agg (List.toArray [(.string .empty), (b64 0#64)])) := ⟨by kernel_rfl⟩
instance : Siz Try.prog 18 1 := ⟨by kernel_rfl⟩
instance : Byt Try.prog 18 8 := ⟨by kernel_rfl⟩
instance : Agg Try.prog 18 true := ⟨by kernel_rfl⟩
instance : Plc Try.prog 18 [(0, 1)] := ⟨by kernel_rfl⟩
instance : Ngd Try.prog 18 := ⟨by kernel_rfl⟩
instance : Zer Try.prog 18 (.agg (List.toArray [(.pointer none)])) := ⟨by kernel_rfl⟩
instance : Und Try.prog 21 (.int .i32) := ⟨Try.underlying21⟩
instance : Siz Try.prog 21 1 := ⟨by kernel_rfl⟩
instance : Byt Try.prog 21 4 := ⟨by kernel_rfl⟩
instance : Agg Try.prog 21 false := ⟨by kernel_rfl⟩
instance : One Try.prog 21 := ⟨by kernel_rfl⟩
instance : Zer Try.prog 21 (.int .i32 0) := ⟨by kernel_rfl⟩
instance : Und Try.prog 22 (.slice 26) := ⟨Try.underlying22⟩
instance : Siz Try.prog 22 1 := ⟨by kernel_rfl⟩
instance : Byt Try.prog 22 24 := ⟨by kernel_rfl⟩
instance : Agg Try.prog 22 false := ⟨by kernel_rfl⟩
instance : One Try.prog 22 := ⟨by kernel_rfl⟩
instance : Zer Try.prog 22 (.slice none 0 0) := ⟨by kernel_rfl⟩
instance : Und Try.prog 23 (.slice 3) := ⟨Try.underlying23⟩
instance : Siz Try.prog 23 1 := ⟨by kernel_rfl⟩
instance : Byt Try.prog 23 24 := ⟨by kernel_rfl⟩
instance : Agg Try.prog 23 false := ⟨by kernel_rfl⟩
instance : One Try.prog 23 := ⟨by kernel_rfl⟩
instance : Zer Try.prog 23 (.slice none 0 0) := ⟨by kernel_rfl⟩
instance : Und Try.prog 24 (.array 32 5) := ⟨Try.underlying24⟩
instance : Siz Try.prog 24 32 := ⟨by kernel_rfl⟩
instance : Byt Try.prog 24 32 := ⟨by kernel_rfl⟩
instance : Agg Try.prog 24 true := ⟨by kernel_rfl⟩
instance : Ngd Try.prog 24 := ⟨by kernel_rfl⟩
instance : Zer Try.prog 24 (.agg (List.toArray [(b8 0#8), (b8 0#8), (b8 0#8), (b8 0#8), (b8 0#8), (b8 0#8), (b8 0#8), (b8 0#8), (b8 0#8), (b8 0#8), (b8 0#8), (b8 0#8), (b8 0#8), (b8 0#8), (b8 0#8), (b8 0#8), (b8 0#8), (b8 0#8), (b8 0#8), (b8 0#8), (b8 0#8), (b8 0#8), (b8 0#8), (b8 0#8), (b8 0#8), (b8 0#8), (b8 0#8), (b8 0#8), (b8 0#8), (b8 0#8), (b8 0#8), (b8 0#8)])) := ⟨by kernel_rfl⟩
instance : Und Try.prog 26 (.slice 5) := ⟨Try.underlying26⟩
instance : Siz Try.prog 26 1 := ⟨by kernel_rfl⟩
instance : Byt Try.prog 26 24 := ⟨by kernel_rfl⟩
instance : Agg Try.prog 26 false := ⟨by kernel_rfl⟩
instance : One Try.prog 26 := ⟨by kernel_rfl⟩
instance : Zer Try.prog 26 (.slice none 0 0) := ⟨by kernel_rfl⟩
instance : Und Try.prog 28 (.int .i64) := ⟨Try.underlying28⟩
instance : Siz Try.prog 28 1 := ⟨by kernel_rfl⟩
instance : Byt Try.prog 28 8 := ⟨by kernel_rfl⟩
instance : Agg Try.prog 28 false := ⟨by kernel_rfl⟩
instance : One Try.prog 28 := ⟨by kernel_rfl⟩
instance : Zer Try.prog 28 (.int .i64 0) := ⟨by kernel_rfl⟩
instance : Und Try.prog 33 (.pointer 67) := ⟨Try.underlying33⟩
instance : Siz Try.prog 33 1 := ⟨by kernel_rfl⟩
instance : Byt Try.prog 33 8 := ⟨by kernel_rfl⟩
instance : Agg Try.prog 33 false := ⟨by kernel_rfl⟩
instance : One Try.prog 33 := ⟨by kernel_rfl⟩
instance : Zer Try.prog 33 (.pointer none) := ⟨by kernel_rfl⟩
instance : Und Try.prog 35 (.pointer 54) := ⟨Try.underlying35⟩
instance : Siz Try.prog 35 1 := ⟨by kernel_rfl⟩
instance : Byt Try.prog 35 8 := ⟨by kernel_rfl⟩
instance : Agg Try.prog 35 false := ⟨by kernel_rfl⟩
instance : One Try.prog 35 := ⟨by kernel_rfl⟩
instance : Zer Try.prog 35 (.pointer none) := ⟨by kernel_rfl⟩
instance : Und Try.prog 42 (.slice 24) := ⟨Try.underlying42⟩
instance : Siz Try.prog 42 1 := ⟨by kernel_rfl⟩
instance : Byt Try.prog 42 24 := ⟨by kernel_rfl⟩
instance : Agg Try.prog 42 false := ⟨by kernel_rfl⟩
instance : One Try.prog 42 := ⟨by kernel_rfl⟩
instance : Zer Try.prog 42 (.slice none 0 0) := ⟨by kernel_rfl⟩
instance : Und Try.prog 47 (.pointer 56) := ⟨Try.underlying47⟩
instance : Siz Try.prog 47 1 := ⟨by kernel_rfl⟩
instance : Byt Try.prog 47 8 := ⟨by kernel_rfl⟩
instance : Agg Try.prog 47 false := ⟨by kernel_rfl⟩
instance : One Try.prog 47 := ⟨by kernel_rfl⟩
instance : Zer Try.prog 47 (.pointer none) := ⟨by kernel_rfl⟩
instance : Und Try.prog 49 (.int .u32) := ⟨Try.underlying49⟩
instance : Siz Try.prog 49 1 := ⟨by kernel_rfl⟩
instance : Byt Try.prog 49 4 := ⟨by kernel_rfl⟩
instance : Agg Try.prog 49 false := ⟨by kernel_rfl⟩
instance : One Try.prog 49 := ⟨by kernel_rfl⟩
instance : Zer Try.prog 49 (b32 0#32) := ⟨by kernel_rfl⟩
instance : Und Try.prog 50 (.array 8 49) := ⟨Try.underlying50⟩
instance : Siz Try.prog 50 8 := ⟨by kernel_rfl⟩
instance : Byt Try.prog 50 32 := ⟨by kernel_rfl⟩
instance : Agg Try.prog 50 true := ⟨by kernel_rfl⟩
instance : Ngd Try.prog 50 := ⟨by kernel_rfl⟩
instance : Zer Try.prog 50 (.agg (List.toArray [(b32 0#32), (b32 0#32), (b32 0#32), (b32 0#32), (b32 0#32), (b32 0#32), (b32 0#32), (b32 0#32)])) := ⟨by kernel_rfl⟩
instance : Siz Try.prog 51 10 := ⟨by kernel_rfl⟩
instance : Byt Try.prog 51 64 := ⟨by kernel_rfl⟩
instance : Agg Try.prog 51 true := ⟨by kernel_rfl⟩
instance : Plc Try.prog 51 [(0, 8), (8, 1), (9, 1)] := ⟨by kernel_rfl⟩
instance : Ngd Try.prog 51 := ⟨by kernel_rfl⟩
instance : Zer Try.prog 51 (.agg (List.toArray [(b32 0#32), (b32 0#32), (b32 0#32), (b32 0#32), (b32 0#32), (b32 0#32), (b32 0#32), (b32 0#32), (.slice none 0 0), (.int .i64 0)])) := ⟨by kernel_rfl⟩
instance : Siz Try.prog 52 10 := ⟨by kernel_rfl⟩
instance : Byt Try.prog 52 64 := ⟨by kernel_rfl⟩
instance : Agg Try.prog 52 true := ⟨by kernel_rfl⟩
instance : Plc Try.prog 52 [(0, 8), (8, 1), (9, 1)] := ⟨by kernel_rfl⟩
instance : Ngd Try.prog 52 := ⟨by kernel_rfl⟩
instance : Zer Try.prog 52 (.agg (List.toArray [(b32 0#32), (b32 0#32), (b32 0#32), (b32 0#32), (b32 0#32), (b32 0#32), (b32 0#32), (b32 0#32), (.slice none 0 0), (.int .i64 0)])) := ⟨by kernel_rfl⟩
instance : Siz Try.prog 53 10 := ⟨by kernel_rfl⟩
instance : Byt Try.prog 53 64 := ⟨by kernel_rfl⟩
instance : Agg Try.prog 53 true := ⟨by kernel_rfl⟩
instance : Plc Try.prog 53 [(0, 10)] := ⟨by kernel_rfl⟩
instance : Ngd Try.prog 53 := ⟨by kernel_rfl⟩
instance : Zer Try.prog 53 (.agg (List.toArray [(b32 0#32), (b32 0#32), (b32 0#32), (b32 0#32), (b32 0#32), (b32 0#32), (b32 0#32), (b32 0#32), (.slice none 0 0), (.int .i64 0)])) := ⟨by kernel_rfl⟩
instance : Siz Try.prog 54 10 := ⟨by kernel_rfl⟩
instance : Byt Try.prog 54 64 := ⟨by kernel_rfl⟩
instance : Agg Try.prog 54 true := ⟨by kernel_rfl⟩
instance : Plc Try.prog 54 [(0, 10)] := ⟨by kernel_rfl⟩
instance : Ngd Try.prog 54 := ⟨by kernel_rfl⟩
instance : Zer Try.prog 54 (.agg (List.toArray [(b32 0#32), (b32 0#32), (b32 0#32), (b32 0#32), (b32 0#32), (b32 0#32), (b32 0#32), (b32 0#32), (.slice none 0 0), (.int .i64 0)])) := ⟨by kernel_rfl⟩
instance : Siz Try.prog 55 11 := ⟨by kernel_rfl⟩
instance : Byt Try.prog 55 88 := ⟨by kernel_rfl⟩
instance : Agg Try.prog 55 true := ⟨by kernel_rfl⟩
instance : Plc Try.prog 55 [(0, 10), (10, 1)] := ⟨by kernel_rfl⟩
instance : Ngd Try.prog 55 := ⟨by kernel_rfl⟩
instance : Zer Try.prog 55 (.agg (List.toArray [(b32 0#32), (b32 0#32), (b32 0#32), (b32 0#32), (b32 0#32), (b32 0#32), (b32 0#32), (b32 0#32), (.slice none 0 0), (.int .i64 0), (.slice none 0 0)])) := ⟨by kernel_rfl⟩
instance : Siz Try.prog 56 11 := ⟨by kernel_rfl⟩
instance : Byt Try.prog 56 88 := ⟨by kernel_rfl⟩
instance : Agg Try.prog 56 true := ⟨by kernel_rfl⟩
instance : Plc Try.prog 56 [(0, 10), (10, 1)] := ⟨by kernel_rfl⟩
instance : Ngd Try.prog 56 := ⟨by kernel_rfl⟩
instance : Zer Try.prog 56 (.agg (List.toArray [(b32 0#32), (b32 0#32), (b32 0#32), (b32 0#32), (b32 0#32), (b32 0#32), (b32 0#32), (b32 0#32), (.slice none 0 0), (.int .i64 0), (.slice none 0 0)])) := ⟨by kernel_rfl⟩
instance : Und Try.prog 58 (.pointer 173) := ⟨Try.underlying58⟩
instance : Siz Try.prog 58 1 := ⟨by kernel_rfl⟩
instance : Byt Try.prog 58 8 := ⟨by kernel_rfl⟩
instance : Agg Try.prog 58 false := ⟨by kernel_rfl⟩
instance : One Try.prog 58 := ⟨by kernel_rfl⟩
instance : Zer Try.prog 58 (.pointer none) := ⟨by kernel_rfl⟩
instance : Und Try.prog 64 (.pointer 69) := ⟨Try.underlying64⟩
instance : Siz Try.prog 64 1 := ⟨by kernel_rfl⟩
instance : Byt Try.prog 64 8 := ⟨by kernel_rfl⟩
instance : Agg Try.prog 64 false := ⟨by kernel_rfl⟩
instance : One Try.prog 64 := ⟨by kernel_rfl⟩
instance : Zer Try.prog 64 (.pointer none) := ⟨by kernel_rfl⟩
instance : Siz Try.prog 66 2 := ⟨by kernel_rfl⟩
instance : Byt Try.prog 66 32 := ⟨by kernel_rfl⟩
instance : Agg Try.prog 66 true := ⟨by kernel_rfl⟩
instance : Plc Try.prog 66 [(0, 1), (1, 1)] := ⟨by kernel_rfl⟩
instance : Ngd Try.prog 66 := ⟨by kernel_rfl⟩
instance : Zer Try.prog 66 (.agg (List.toArray [(.slice none 0 0), (.int .i64 0)])) := ⟨by kernel_rfl⟩
instance : Siz Try.prog 67 2 := ⟨by kernel_rfl⟩
instance : Byt Try.prog 67 32 := ⟨by kernel_rfl⟩
instance : Agg Try.prog 67 true := ⟨by kernel_rfl⟩
instance : Plc Try.prog 67 [(0, 1), (1, 1)] := ⟨by kernel_rfl⟩
instance : Ngd Try.prog 67 := ⟨by kernel_rfl⟩
instance : Zer Try.prog 67 (.agg (List.toArray [(.slice none 0 0), (.int .i64 0)])) := ⟨by kernel_rfl⟩
instance : Siz Try.prog 68 2 := ⟨by kernel_rfl⟩
instance : Byt Try.prog 68 32 := ⟨by kernel_rfl⟩
instance : Agg Try.prog 68 true := ⟨by kernel_rfl⟩
instance : Plc Try.prog 68 [(0, 2)] := ⟨by kernel_rfl⟩
instance : Ngd Try.prog 68 := ⟨by kernel_rfl⟩
instance : Zer Try.prog 68 (.agg (List.toArray [(.slice none 0 0), (.int .i64 0)])) := ⟨by kernel_rfl⟩
instance : Siz Try.prog 69 2 := ⟨by kernel_rfl⟩
instance : Byt Try.prog 69 32 := ⟨by kernel_rfl⟩
instance : Agg Try.prog 69 true := ⟨by kernel_rfl⟩
instance : Plc Try.prog 69 [(0, 2)] := ⟨by kernel_rfl⟩
instance : Ngd Try.prog 69 := ⟨by kernel_rfl⟩
instance : Zer Try.prog 69 (.agg (List.toArray [(.slice none 0 0), (.int .i64 0)])) := ⟨by kernel_rfl⟩
instance : Und Try.prog 73 (.slice 78) := ⟨Try.underlying73⟩
instance : Siz Try.prog 73 1 := ⟨by kernel_rfl⟩
instance : Byt Try.prog 73 24 := ⟨by kernel_rfl⟩
instance : Agg Try.prog 73 false := ⟨by kernel_rfl⟩
instance : One Try.prog 73 := ⟨by kernel_rfl⟩
instance : Zer Try.prog 73 (.slice none 0 0) := ⟨by kernel_rfl⟩
instance : Und Try.prog 74 (.slice 97) := ⟨Try.underlying74⟩
instance : Siz Try.prog 74 1 := ⟨by kernel_rfl⟩
instance : Byt Try.prog 74 24 := ⟨by kernel_rfl⟩
instance : Agg Try.prog 74 false := ⟨by kernel_rfl⟩
instance : One Try.prog 74 := ⟨by kernel_rfl⟩
instance : Zer Try.prog 74 (.slice none 0 0) := ⟨by kernel_rfl⟩
instance : Und Try.prog 76 (.int .u64) := ⟨Try.underlying76⟩
instance : Siz Try.prog 76 1 := ⟨by kernel_rfl⟩
instance : Byt Try.prog 76 8 := ⟨by kernel_rfl⟩
instance : Agg Try.prog 76 false := ⟨by kernel_rfl⟩
instance : One Try.prog 76 := ⟨by kernel_rfl⟩
instance : Zer Try.prog 76 (b64 0#64) := ⟨by kernel_rfl⟩
instance : Siz Try.prog 77 66 := ⟨by kernel_rfl⟩
instance : Byt Try.prog 77 88 := ⟨by kernel_rfl⟩
instance : Agg Try.prog 77 true := ⟨by kernel_rfl⟩
instance : Plc Try.prog 77 [(0, 1), (1, 1), (2, 32), (34, 32)] := ⟨by kernel_rfl⟩
instance : Ngd Try.prog 77 := ⟨by kernel_rfl⟩
instance : Zer Try.prog 77 (.agg (List.toArray [(.string .empty), (b64 0#64), (b8 0#8), (b8 0#8), (b8 0#8), (b8 0#8), (b8 0#8), (b8 0#8), (b8 0#8), (b8 0#8), (b8 0#8), (b8 0#8), (b8 0#8), (b8 0#8), (b8 0#8), (b8 0#8), (b8 0#8), (b8 0#8), (b8 0#8), (b8 0#8), (b8 0#8), (b8 0#8), (b8 0#8), (b8 0#8), (b8 0#8), (b8 0#8), (b8 0#8), (b8 0#8), (b8 0#8), (b8 0#8), (b8 0#8), (b8 0#8), (b8 0#8), (b8 0#8), (b8 0#8), (b8 0#8), (b8 0#8), (b8 0#8), (b8 0#8), (b8 0#8), (b8 0#8), (b8 0#8), (b8 0#8), (b8 0#8), (b8 0#8), (b8 0#8), (b8 0#8), (b8 0#8), (b8 0#8), (b8 0#8), (b8 0#8), (b8 0#8), (b8 0#8), (b8 0#8), (b8 0#8), (b8 0#8), (b8 0#8), (b8 0#8), (b8 0#8), (b8 0#8), (b8 0#8), (b8 0#8), (b8 0#8), (b8 0#8), (b8 0#8), (b8 0#8)])) := ⟨by kernel_rfl⟩
instance : Siz Try.prog 78 66 := ⟨by kernel_rfl⟩
instance : Byt Try.prog 78 88 := ⟨by kernel_rfl⟩
instance : Agg Try.prog 78 true := ⟨by kernel_rfl⟩
instance : Plc Try.prog 78 [(0, 1), (1, 1), (2, 32), (34, 32)] := ⟨by kernel_rfl⟩
instance : Ngd Try.prog 78 := ⟨by kernel_rfl⟩
instance : Zer Try.prog 78 (.agg (List.toArray [(.string .empty), (b64 0#64), (b8 0#8), (b8 0#8), (b8 0#8), (b8 0#8), (b8 0#8), (b8 0#8), (b8 0#8), (b8 0#8), (b8 0#8), (b8 0#8), (b8 0#8), (b8 0#8), (b8 0#8), (b8 0#8), (b8 0#8), (b8 0#8), (b8 0#8), (b8 0#8), (b8 0#8), (b8 0#8), (b8 0#8), (b8 0#8), (b8 0#8), (b8 0#8), (b8 0#8), (b8 0#8), (b8 0#8), (b8 0#8), (b8 0#8), (b8 0#8), (b8 0#8), (b8 0#8), (b8 0#8), (b8 0#8), (b8 0#8), (b8 0#8), (b8 0#8), (b8 0#8), (b8 0#8), (b8 0#8), (b8 0#8), (b8 0#8), (b8 0#8), (b8 0#8), (b8 0#8), (b8 0#8), (b8 0#8), (b8 0#8), (b8 0#8), (b8 0#8), (b8 0#8), (b8 0#8), (b8 0#8), (b8 0#8), (b8 0#8), (b8 0#8), (b8 0#8), (b8 0#8), (b8 0#8), (b8 0#8), (b8 0#8), (b8 0#8), (b8 0#8), (b8 0#8)])) := ⟨by kernel_rfl⟩
instance : Und Try.prog 79 (.slice 102) := ⟨Try.underlying79⟩
instance : Siz Try.prog 79 1 := ⟨by kernel_rfl⟩
instance : Byt Try.prog 79 24 := ⟨by kernel_rfl⟩
instance : Agg Try.prog 79 false := ⟨by kernel_rfl⟩
instance : One Try.prog 79 := ⟨by kernel_rfl⟩
instance : Zer Try.prog 79 (.slice none 0 0) := ⟨by kernel_rfl⟩
instance : Und Try.prog 83 (.slice 88) := ⟨Try.underlying83⟩
instance : Siz Try.prog 83 1 := ⟨by kernel_rfl⟩
instance : Byt Try.prog 83 24 := ⟨by kernel_rfl⟩
instance : Agg Try.prog 83 false := ⟨by kernel_rfl⟩
instance : One Try.prog 83 := ⟨by kernel_rfl⟩
instance : Zer Try.prog 83 (.slice none 0 0) := ⟨by kernel_rfl⟩
instance : Und Try.prog 86 (.array 16 5) := ⟨Try.underlying86⟩
instance : Siz Try.prog 86 16 := ⟨by kernel_rfl⟩
instance : Byt Try.prog 86 16 := ⟨by kernel_rfl⟩
instance : Agg Try.prog 86 true := ⟨by kernel_rfl⟩
instance : Ngd Try.prog 86 := ⟨by kernel_rfl⟩
instance : Zer Try.prog 86 (.agg (List.toArray [(b8 0#8), (b8 0#8), (b8 0#8), (b8 0#8), (b8 0#8), (b8 0#8), (b8 0#8), (b8 0#8), (b8 0#8), (b8 0#8), (b8 0#8), (b8 0#8), (b8 0#8), (b8 0#8), (b8 0#8), (b8 0#8)])) := ⟨by kernel_rfl⟩
instance : Siz Try.prog 87 20 := ⟨by kernel_rfl⟩
instance : Byt Try.prog 87 32 := ⟨by kernel_rfl⟩
instance : Agg Try.prog 87 true := ⟨by kernel_rfl⟩
instance : Plc Try.prog 87 [(0, 1), (1, 1), (2, 1), (3, 1), (4, 16)] := ⟨by kernel_rfl⟩
instance : Ngd Try.prog 87 := ⟨by kernel_rfl⟩
instance : Zer Try.prog 87 (.agg (List.toArray [(b8 0#8), (b8 0#8), (b32 0#32), (b64 0#64), (b8 0#8), (b8 0#8), (b8 0#8), (b8 0#8), (b8 0#8), (b8 0#8), (b8 0#8), (b8 0#8), (b8 0#8), (b8 0#8), (b8 0#8), (b8 0#8), (b8 0#8), (b8 0#8), (b8 0#8), (b8 0#8)])) := ⟨by kernel_rfl⟩
instance : Siz Try.prog 88 20 := ⟨by kernel_rfl⟩
instance : Byt Try.prog 88 32 := ⟨by kernel_rfl⟩
instance : Agg Try.prog 88 true := ⟨by kernel_rfl⟩
instance : Plc Try.prog 88 [(0, 1), (1, 1), (2, 1), (3, 1), (4, 16)] := ⟨by kernel_rfl⟩
instance : Ngd Try.prog 88 := ⟨by kernel_rfl⟩
instance : Zer Try.prog 88 (.agg (List.toArray [(b8 0#8), (b8 0#8), (b32 0#32), (b64 0#64), (b8 0#8), (b8 0#8), (b8 0#8), (b8 0#8), (b8 0#8), (b8 0#8), (b8 0#8), (b8 0#8), (b8 0#8), (b8 0#8), (b8 0#8), (b8 0#8), (b8 0#8), (b8 0#8), (b8 0#8), (b8 0#8)])) := ⟨by kernel_rfl⟩
instance : Und Try.prog 89 (.slice 92) := ⟨Try.underlying89⟩
instance : Siz Try.prog 89 1 := ⟨by kernel_rfl⟩
instance : Byt Try.prog 89 24 := ⟨by kernel_rfl⟩
instance : Agg Try.prog 89 false := ⟨by kernel_rfl⟩
instance : One Try.prog 89 := ⟨by kernel_rfl⟩
instance : Zer Try.prog 89 (.slice none 0 0) := ⟨by kernel_rfl⟩
instance : Siz Try.prog 91 20 := ⟨by kernel_rfl⟩
instance : Byt Try.prog 91 32 := ⟨by kernel_rfl⟩
instance : Agg Try.prog 91 true := ⟨by kernel_rfl⟩
instance : Plc Try.prog 91 [(0, 20)] := ⟨by kernel_rfl⟩
instance : Ngd Try.prog 91 := ⟨by kernel_rfl⟩
instance : Zer Try.prog 91 (.agg (List.toArray [(b8 0#8), (b8 0#8), (b32 0#32), (b64 0#64), (b8 0#8), (b8 0#8), (b8 0#8), (b8 0#8), (b8 0#8), (b8 0#8), (b8 0#8), (b8 0#8), (b8 0#8), (b8 0#8), (b8 0#8), (b8 0#8), (b8 0#8), (b8 0#8), (b8 0#8), (b8 0#8)])) := ⟨by kernel_rfl⟩
instance : Siz Try.prog 92 20 := ⟨by kernel_rfl⟩
instance : Byt Try.prog 92 32 := ⟨by kernel_rfl⟩
instance : Agg Try.prog 92 true := ⟨by kernel_rfl⟩
instance : Plc Try.prog 92 [(0, 20)] := ⟨by kernel_rfl⟩
instance : Ngd Try.prog 92 := ⟨by kernel_rfl⟩
instance : Zer Try.prog 92 (.agg (List.toArray [(b8 0#8), (b8 0#8), (b32 0#32), (b64 0#64), (b8 0#8), (b8 0#8), (b8 0#8), (b8 0#8), (b8 0#8), (b8 0#8), (b8 0#8), (b8 0#8), (b8 0#8), (b8 0#8), (b8 0#8), (b8 0#8), (b8 0#8), (b8 0#8), (b8 0#8), (b8 0#8)])) := ⟨by kernel_rfl⟩
instance : Siz Try.prog 96 3 := ⟨by kernel_rfl⟩
instance : Byt Try.prog 96 32 := ⟨by kernel_rfl⟩
instance : Agg Try.prog 96 true := ⟨by kernel_rfl⟩
instance : Plc Try.prog 96 [(0, 1), (1, 1), (2, 1)] := ⟨by kernel_rfl⟩
instance : Ngd Try.prog 96 := ⟨by kernel_rfl⟩
instance : Zer Try.prog 96 (.agg (List.toArray [(.string .empty), (.int .i64 0), (.int .i64 0)])) := ⟨by kernel_rfl⟩
instance : Siz Try.prog 97 3 := ⟨by kernel_rfl⟩
instance : Byt Try.prog 97 32 := ⟨by kernel_rfl⟩
instance : Agg Try.prog 97 true := ⟨by kernel_rfl⟩
instance : Plc Try.prog 97 [(0, 1), (1, 1), (2, 1)] := ⟨by kernel_rfl⟩
instance : Ngd Try.prog 97 := ⟨by kernel_rfl⟩
instance : Zer Try.prog 97 (.agg (List.toArray [(.string .empty), (.int .i64 0), (.int .i64 0)])) := ⟨by kernel_rfl⟩
instance : Siz Try.prog 99 66 := ⟨by kernel_rfl⟩
instance : Byt Try.prog 99 88 := ⟨by kernel_rfl⟩
instance : Agg Try.prog 99 true := ⟨by kernel_rfl⟩
instance : Plc Try.prog 99 [(0, 66)] := ⟨by kernel_rfl⟩
instance : Ngd Try.prog 99 := ⟨by kernel_rfl⟩
instance : Zer Try.prog 99 (.agg (List.toArray [(.string .empty), (b64 0#64), (b8 0#8), (b8 0#8), (b8 0#8), (b8 0#8), (b8 0#8), (b8 0#8), (b8 0#8), (b8 0#8), (b8 0#8), (b8 0#8), (b8 0#8), (b8 0#8), (b8 0#8), (b8 0#8), (b8 0#8), (b8 0#8), (b8 0#8), (b8 0#8), (b8 0#8), (b8 0#8), (b8 0#8), (b8 0#8), (b8 0#8), (b8 0#8), (b8 0#8), (b8 0#8), (b8 0#8), (b8 0#8), (b8 0#8), (b8 0#8), (b8 0#8), (b8 0#8), (b8 0#8), (b8 0#8), (b8 0#8), (b8 0#8), (b8 0#8), (b8 0#8), (b8 0#8), (b8 0#8), (b8 0#8), (b8 0#8), (b8 0#8), (b8 0#8), (b8 0#8), (b8 0#8), (b8 0#8), (b8 0#8), (b8 0#8), (b8 0#8), (b8 0#8), (b8 0#8), (b8 0#8), (b8 0#8), (b8 0#8), (b8 0#8), (b8 0#8), (b8 0#8), (b8 0#8), (b8 0#8), (b8 0#8), (b8 0#8), (b8 0#8), (b8 0#8)])) := ⟨by kernel_rfl⟩
instance : Siz Try.prog 100 66 := ⟨by kernel_rfl⟩
instance : Byt Try.prog 100 88 := ⟨by kernel_rfl⟩
instance : Agg Try.prog 100 true := ⟨by kernel_rfl⟩
instance : Plc Try.prog 100 [(0, 66)] := ⟨by kernel_rfl⟩
instance : Ngd Try.prog 100 := ⟨by kernel_rfl⟩
instance : Zer Try.prog 100 (.agg (List.toArray [(.string .empty), (b64 0#64), (b8 0#8), (b8 0#8), (b8 0#8), (b8 0#8), (b8 0#8), (b8 0#8), (b8 0#8), (b8 0#8), (b8 0#8), (b8 0#8), (b8 0#8), (b8 0#8), (b8 0#8), (b8 0#8), (b8 0#8), (b8 0#8), (b8 0#8), (b8 0#8), (b8 0#8), (b8 0#8), (b8 0#8), (b8 0#8), (b8 0#8), (b8 0#8), (b8 0#8), (b8 0#8), (b8 0#8), (b8 0#8), (b8 0#8), (b8 0#8), (b8 0#8), (b8 0#8), (b8 0#8), (b8 0#8), (b8 0#8), (b8 0#8), (b8 0#8), (b8 0#8), (b8 0#8), (b8 0#8), (b8 0#8), (b8 0#8), (b8 0#8), (b8 0#8), (b8 0#8), (b8 0#8), (b8 0#8), (b8 0#8), (b8 0#8), (b8 0#8), (b8 0#8), (b8 0#8), (b8 0#8), (b8 0#8), (b8 0#8), (b8 0#8), (b8 0#8), (b8 0#8), (b8 0#8), (b8 0#8), (b8 0#8), (b8 0#8), (b8 0#8), (b8 0#8)])) := ⟨by kernel_rfl⟩
instance : Siz Try.prog 101 68 := ⟨by kernel_rfl⟩
instance : Byt Try.prog 101 104 := ⟨by kernel_rfl⟩
instance : Agg Try.prog 101 true := ⟨by kernel_rfl⟩
instance : Plc Try.prog 101 [(0, 66), (66, 1), (67, 1)] := ⟨by kernel_rfl⟩
instance : Ngd Try.prog 101 := ⟨by kernel_rfl⟩
instance : Zer Try.prog 101 (.agg (List.toArray [(.string .empty), (b64 0#64), (b8 0#8), (b8 0#8), (b8 0#8), (b8 0#8), (b8 0#8), (b8 0#8), (b8 0#8), (b8 0#8), (b8 0#8), (b8 0#8), (b8 0#8), (b8 0#8), (b8 0#8), (b8 0#8), (b8 0#8), (b8 0#8), (b8 0#8), (b8 0#8), (b8 0#8), (b8 0#8), (b8 0#8), (b8 0#8), (b8 0#8), (b8 0#8), (b8 0#8), (b8 0#8), (b8 0#8), (b8 0#8), (b8 0#8), (b8 0#8), (b8 0#8), (b8 0#8), (b8 0#8), (b8 0#8), (b8 0#8), (b8 0#8), (b8 0#8), (b8 0#8), (b8 0#8), (b8 0#8), (b8 0#8), (b8 0#8), (b8 0#8), (b8 0#8), (b8 0#8), (b8 0#8), (b8 0#8), (b8 0#8), (b8 0#8), (b8 0#8), (b8 0#8), (b8 0#8), (b8 0#8), (b8 0#8), (b8 0#8), (b8 0#8), (b8 0#8), (b8 0#8), (b8 0#8), (b8 0#8), (b8 0#8), (b8 0#8), (b8 0#8), (b8 0#8), (.int .i64 0), (.int .i64 0)])) := ⟨by kernel_rfl⟩
instance : Siz Try.prog 102 68 := ⟨by kernel_rfl⟩
instance : Byt Try.prog 102 104 := ⟨by kernel_rfl⟩
instance : Agg Try.prog 102 true := ⟨by kernel_rfl⟩
instance : Plc Try.prog 102 [(0, 66), (66, 1), (67, 1)] := ⟨by kernel_rfl⟩
instance : Ngd Try.prog 102 := ⟨by kernel_rfl⟩
instance : Zer Try.prog 102 (.agg (List.toArray [(.string .empty), (b64 0#64), (b8 0#8), (b8 0#8), (b8 0#8), (b8 0#8), (b8 0#8), (b8 0#8), (b8 0#8), (b8 0#8), (b8 0#8), (b8 0#8), (b8 0#8), (b8 0#8), (b8 0#8), (b8 0#8), (b8 0#8), (b8 0#8), (b8 0#8), (b8 0#8), (b8 0#8), (b8 0#8), (b8 0#8), (b8 0#8), (b8 0#8), (b8 0#8), (b8 0#8), (b8 0#8), (b8 0#8), (b8 0#8), (b8 0#8), (b8 0#8), (b8 0#8), (b8 0#8), (b8 0#8), (b8 0#8), (b8 0#8), (b8 0#8), (b8 0#8), (b8 0#8), (b8 0#8), (b8 0#8), (b8 0#8), (b8 0#8), (b8 0#8), (b8 0#8), (b8 0#8), (b8 0#8), (b8 0#8), (b8 0#8), (b8 0#8), (b8 0#8), (b8 0#8), (b8 0#8), (b8 0#8), (b8 0#8), (b8 0#8), (b8 0#8), (b8 0#8), (b8 0#8), (b8 0#8), (b8 0#8), (b8 0#8), (b8 0#8), (b8 0#8), (b8 0#8), (.int .i64 0), (.int .i64 0)])) := ⟨by kernel_rfl⟩
instance : Und Try.prog 109 (.slice 118) := ⟨Try.underlying109⟩
instance : Siz Try.prog 109 1 := ⟨by kernel_rfl⟩
instance : Byt Try.prog 109 24 := ⟨by kernel_rfl⟩
instance : Agg Try.prog 109 false := ⟨by kernel_rfl⟩
instance : One Try.prog 109 := ⟨by kernel_rfl⟩
instance : Zer Try.prog 109 (.slice none 0 0) := ⟨by kernel_rfl⟩
instance : Siz Try.prog 112 2 := ⟨by kernel_rfl⟩
instance : Byt Try.prog 112 32 := ⟨by kernel_rfl⟩
instance : Agg Try.prog 112 true := ⟨by kernel_rfl⟩
instance : Plc Try.prog 112 [(0, 1), (1, 1)] := ⟨by kernel_rfl⟩
instance : Ngd Try.prog 112 := ⟨by kernel_rfl⟩
instance : Zer Try.prog 112 (.agg (List.toArray [(b64 0#64), (.slice none 0 0)])) := ⟨by kernel_rfl⟩
instance : Siz Try.prog 113 2 := ⟨by kernel_rfl⟩
instance : Byt Try.prog 113 32 := ⟨by kernel_rfl⟩
instance : Agg Try.prog 113 true := ⟨by kernel_rfl⟩
instance : Plc Try.prog 113 [(0, 1), (1, 1)] := ⟨by kernel_rfl⟩
instance : Ngd Try.prog 113 := ⟨by kernel_rfl⟩
instance : Zer Try.prog 113 (.agg (List.toArray [(b64 0#64), (.slice none 0 0)])) := ⟨by kernel_rfl⟩
instance : Siz Try.prog 114 3 := ⟨by kernel_rfl⟩
instance : Byt Try.prog 114 48 := ⟨by kernel_rfl⟩
instance : Agg Try.prog 114 true := ⟨by kernel_rfl⟩
instance : Plc Try.prog 114 [(0, 2), (2, 1)] := ⟨by kernel_rfl⟩
instance : Ngd Try.prog 114 := ⟨by kernel_rfl⟩
instance : Zer Try.prog 114 (.agg (List.toArray [(b64 0#64), (.slice none 0 0), (.string .empty)])) := ⟨by kernel_rfl⟩
instance : Siz Try.prog 115 3 := ⟨by kernel_rfl⟩
instance : Byt Try.prog 115 48 := ⟨by kernel_rfl⟩
instance : Agg Try.prog 115 true := ⟨by kernel_rfl⟩
instance : Plc Try.prog 115 [(0, 2), (2, 1)] := ⟨by kernel_rfl⟩
instance : Ngd Try.prog 115 := ⟨by kernel_rfl⟩
instance : Zer Try.prog 115 (.agg (List.toArray [(b64 0#64), (.slice none 0 0), (.string .empty)])) := ⟨by kernel_rfl⟩
instance : Siz Try.prog 117 5 := ⟨by kernel_rfl⟩
instance : Byt Try.prog 117 56 := ⟨by kernel_rfl⟩
instance : Agg Try.prog 117 true := ⟨by kernel_rfl⟩
instance : Plc Try.prog 117 [(0, 1), (1, 1), (2, 1), (3, 1), (4, 1)] := ⟨by kernel_rfl⟩
instance : Ngd Try.prog 117 := ⟨by kernel_rfl⟩
instance : Zer Try.prog 117 (.agg (List.toArray [(b8 0#8), (b64 0#64), (.int .i64 0), (.int .i64 0), (.slice none 0 0)])) := ⟨by kernel_rfl⟩
instance : Siz Try.prog 118 5 := ⟨by kernel_rfl⟩
instance : Byt Try.prog 118 56 := ⟨by kernel_rfl⟩
instance : Agg Try.prog 118 true := ⟨by kernel_rfl⟩
instance : Plc Try.prog 118 [(0, 1), (1, 1), (2, 1), (3, 1), (4, 1)] := ⟨by kernel_rfl⟩
instance : Ngd Try.prog 118 := ⟨by kernel_rfl⟩
instance : Zer Try.prog 118 (.agg (List.toArray [(b8 0#8), (b64 0#64), (.int .i64 0), (.int .i64 0), (.slice none 0 0)])) := ⟨by kernel_rfl⟩
instance : Und Try.prog 131 (.array 4 76) := ⟨Try.underlying131⟩
instance : Siz Try.prog 131 4 := ⟨by kernel_rfl⟩
instance : Byt Try.prog 131 32 := ⟨by kernel_rfl⟩
instance : Agg Try.prog 131 true := ⟨by kernel_rfl⟩
instance : Ngd Try.prog 131 := ⟨by kernel_rfl⟩
instance : Zer Try.prog 131 (.agg (List.toArray [(b64 0#64), (b64 0#64), (b64 0#64), (b64 0#64)])) := ⟨by kernel_rfl⟩
instance : Und Try.prog 132 (.array 4 76) := ⟨Try.underlying132⟩
instance : Siz Try.prog 132 4 := ⟨by kernel_rfl⟩
instance : Byt Try.prog 132 32 := ⟨by kernel_rfl⟩
instance : Agg Try.prog 132 true := ⟨by kernel_rfl⟩
instance : Ngd Try.prog 132 := ⟨by kernel_rfl⟩
instance : Zer Try.prog 132 (.agg (List.toArray [(b64 0#64), (b64 0#64), (b64 0#64), (b64 0#64)])) := ⟨by kernel_rfl⟩
instance : Siz Try.prog 140 128 := ⟨by kernel_rfl⟩
instance : Byt Try.prog 140 128 := ⟨by kernel_rfl⟩
instance : Agg Try.prog 140 true := ⟨by kernel_rfl⟩
instance : Plc Try.prog 140 [(0, 32), (32, 32), (64, 32), (96, 32)] := ⟨by kernel_rfl⟩
instance : Ngd Try.prog 140 := ⟨by kernel_rfl⟩
instance : Siz Try.prog 141 128 := ⟨by kernel_rfl⟩
instance : Byt Try.prog 141 128 := ⟨by kernel_rfl⟩
instance : Agg Try.prog 141 true := ⟨by kernel_rfl⟩
instance : Plc Try.prog 141 [(0, 32), (32, 32), (64, 32), (96, 32)] := ⟨by kernel_rfl⟩
instance : Ngd Try.prog 141 := ⟨by kernel_rfl⟩
instance : Siz Try.prog 144 64 := ⟨by kernel_rfl⟩
instance : Byt Try.prog 144 64 := ⟨by kernel_rfl⟩
instance : Agg Try.prog 144 true := ⟨by kernel_rfl⟩
instance : Plc Try.prog 144 [(0, 32), (32, 32)] := ⟨by kernel_rfl⟩
instance : Ngd Try.prog 144 := ⟨by kernel_rfl⟩
instance : Zer Try.prog 144 (.agg (List.toArray [(b8 0#8), (b8 0#8), (b8 0#8), (b8 0#8), (b8 0#8), (b8 0#8), (b8 0#8), (b8 0#8), (b8 0#8), (b8 0#8), (b8 0#8), (b8 0#8), (b8 0#8), (b8 0#8), (b8 0#8), (b8 0#8), (b8 0#8), (b8 0#8), (b8 0#8), (b8 0#8), (b8 0#8), (b8 0#8), (b8 0#8), (b8 0#8), (b8 0#8), (b8 0#8), (b8 0#8), (b8 0#8), (b8 0#8), (b8 0#8), (b8 0#8), (b8 0#8), (b8 0#8), (b8 0#8), (b8 0#8), (b8 0#8), (b8 0#8), (b8 0#8), (b8 0#8), (b8 0#8), (b8 0#8), (b8 0#8), (b8 0#8), (b8 0#8), (b8 0#8), (b8 0#8), (b8 0#8), (b8 0#8), (b8 0#8), (b8 0#8), (b8 0#8), (b8 0#8), (b8 0#8), (b8 0#8), (b8 0#8), (b8 0#8), (b8 0#8), (b8 0#8), (b8 0#8), (b8 0#8), (b8 0#8), (b8 0#8), (b8 0#8), (b8 0#8)])) := ⟨by kernel_rfl⟩
instance : Siz Try.prog 145 64 := ⟨by kernel_rfl⟩
instance : Byt Try.prog 145 64 := ⟨by kernel_rfl⟩
instance : Agg Try.prog 145 true := ⟨by kernel_rfl⟩
instance : Plc Try.prog 145 [(0, 32), (32, 32)] := ⟨by kernel_rfl⟩
instance : Ngd Try.prog 145 := ⟨by kernel_rfl⟩
instance : Zer Try.prog 145 (.agg (List.toArray [(b8 0#8), (b8 0#8), (b8 0#8), (b8 0#8), (b8 0#8), (b8 0#8), (b8 0#8), (b8 0#8), (b8 0#8), (b8 0#8), (b8 0#8), (b8 0#8), (b8 0#8), (b8 0#8), (b8 0#8), (b8 0#8), (b8 0#8), (b8 0#8), (b8 0#8), (b8 0#8), (b8 0#8), (b8 0#8), (b8 0#8), (b8 0#8), (b8 0#8), (b8 0#8), (b8 0#8), (b8 0#8), (b8 0#8), (b8 0#8), (b8 0#8), (b8 0#8), (b8 0#8), (b8 0#8), (b8 0#8), (b8 0#8), (b8 0#8), (b8 0#8), (b8 0#8), (b8 0#8), (b8 0#8), (b8 0#8), (b8 0#8), (b8 0#8), (b8 0#8), (b8 0#8), (b8 0#8), (b8 0#8), (b8 0#8), (b8 0#8), (b8 0#8), (b8 0#8), (b8 0#8), (b8 0#8), (b8 0#8), (b8 0#8), (b8 0#8), (b8 0#8), (b8 0#8), (b8 0#8), (b8 0#8), (b8 0#8), (b8 0#8), (b8 0#8)])) := ⟨by kernel_rfl⟩
instance : Und Try.prog 148 (.slice 153) := ⟨Try.underlying148⟩
instance : Siz Try.prog 148 1 := ⟨by kernel_rfl⟩
instance : Byt Try.prog 148 24 := ⟨by kernel_rfl⟩
instance : Agg Try.prog 148 false := ⟨by kernel_rfl⟩
instance : One Try.prog 148 := ⟨by kernel_rfl⟩
instance : Zer Try.prog 148 (.slice none 0 0) := ⟨by kernel_rfl⟩
instance : Siz Try.prog 152 192 := ⟨by kernel_rfl⟩
instance : Byt Try.prog 152 192 := ⟨by kernel_rfl⟩
instance : Agg Try.prog 152 true := ⟨by kernel_rfl⟩
instance : Plc Try.prog 152 [(0, 128), (128, 32), (160, 32)] := ⟨by kernel_rfl⟩
instance : Ngd Try.prog 152 := ⟨by kernel_rfl⟩
instance : Siz Try.prog 153 192 := ⟨by kernel_rfl⟩
instance : Byt Try.prog 153 192 := ⟨by kernel_rfl⟩
instance : Agg Try.prog 153 true := ⟨by kernel_rfl⟩
instance : Plc Try.prog 153 [(0, 128), (128, 32), (160, 32)] := ⟨by kernel_rfl⟩
instance : Ngd Try.prog 153 := ⟨by kernel_rfl⟩
instance : Und Try.prog 160 (.int .u64) := ⟨Try.underlying160⟩
instance : Siz Try.prog 160 1 := ⟨by kernel_rfl⟩
instance : Byt Try.prog 160 8 := ⟨by kernel_rfl⟩
instance : Agg Try.prog 160 false := ⟨by kernel_rfl⟩
instance : One Try.prog 160 := ⟨by kernel_rfl⟩
instance : Zer Try.prog 160 (b64 0#64) := ⟨by kernel_rfl⟩
instance : Und Try.prog 166 (.slice 9) := ⟨Try.underlying166⟩
instance : Siz Try.prog 166 1 := ⟨by kernel_rfl⟩
instance : Byt Try.prog 166 24 := ⟨by kernel_rfl⟩
instance : Agg Try.prog 166 false := ⟨by kernel_rfl⟩
instance : One Try.prog 166 := ⟨by kernel_rfl⟩
instance : Zer Try.prog 166 (.slice none 0 0) := ⟨by kernel_rfl⟩
instance : Siz Try.prog 172 33 := ⟨by kernel_rfl⟩
instance : Byt Try.prog 172 40 := ⟨by kernel_rfl⟩
instance : Agg Try.prog 172 true := ⟨by kernel_rfl⟩
instance : Plc Try.prog 172 [(0, 32), (32, 1)] := ⟨by kernel_rfl⟩
instance : Ngd Try.prog 172 := ⟨by kernel_rfl⟩
instance : Zer Try.prog 172 (.agg (List.toArray [(b8 0#8), (b8 0#8), (b8 0#8), (b8 0#8), (b8 0#8), (b8 0#8), (b8 0#8), (b8 0#8), (b8 0#8), (b8 0#8), (b8 0#8), (b8 0#8), (b8 0#8), (b8 0#8), (b8 0#8), (b8 0#8), (b8 0#8), (b8 0#8), (b8 0#8), (b8 0#8), (b8 0#8), (b8 0#8), (b8 0#8), (b8 0#8), (b8 0#8), (b8 0#8), (b8 0#8), (b8 0#8), (b8 0#8), (b8 0#8), (b8 0#8), (b8 0#8), (.int .i64 0)])) := ⟨by kernel_rfl⟩
instance : Siz Try.prog 173 33 := ⟨by kernel_rfl⟩
instance : Byt Try.prog 173 40 := ⟨by kernel_rfl⟩
instance : Agg Try.prog 173 true := ⟨by kernel_rfl⟩
instance : Plc Try.prog 173 [(0, 32), (32, 1)] := ⟨by kernel_rfl⟩
instance : Ngd Try.prog 173 := ⟨by kernel_rfl⟩
instance : Zer Try.prog 173 (.agg (List.toArray [(b8 0#8), (b8 0#8), (b8 0#8), (b8 0#8), (b8 0#8), (b8 0#8), (b8 0#8), (b8 0#8), (b8 0#8), (b8 0#8), (b8 0#8), (b8 0#8), (b8 0#8), (b8 0#8), (b8 0#8), (b8 0#8), (b8 0#8), (b8 0#8), (b8 0#8), (b8 0#8), (b8 0#8), (b8 0#8), (b8 0#8), (b8 0#8), (b8 0#8), (b8 0#8), (b8 0#8), (b8 0#8), (b8 0#8), (b8 0#8), (b8 0#8), (b8 0#8), (.int .i64 0)])) := ⟨by kernel_rfl⟩
instance : Und Try.prog 176 (.map 9 3) := ⟨Try.underlying176⟩
instance : Siz Try.prog 176 1 := ⟨by kernel_rfl⟩
instance : Byt Try.prog 176 8 := ⟨by kernel_rfl⟩
instance : Agg Try.prog 176 false := ⟨by kernel_rfl⟩
instance : One Try.prog 176 := ⟨by kernel_rfl⟩
instance : Zer Try.prog 176 (.map none) := ⟨by kernel_rfl⟩
instance : Und Try.prog 177 (.map 76 3) := ⟨Try.underlying177⟩
instance : Siz Try.prog 177 1 := ⟨by kernel_rfl⟩
instance : Byt Try.prog 177 8 := ⟨by kernel_rfl⟩
instance : Agg Try.prog 177 false := ⟨by kernel_rfl⟩
instance : One Try.prog 177 := ⟨by kernel_rfl⟩
instance : Zer Try.prog 177 (.map none) := ⟨by kernel_rfl⟩
instance : Und Try.prog 191 (.pointer 113) := ⟨Try.underlying191⟩
instance : Siz Try.prog 191 1 := ⟨by kernel_rfl⟩
instance : Byt Try.prog 191 8 := ⟨by kernel_rfl⟩
instance : Agg Try.prog 191 false := ⟨by kernel_rfl⟩
instance : One Try.prog 191 := ⟨by kernel_rfl⟩
instance : Zer Try.prog 191 (.pointer none) := ⟨by kernel_rfl⟩
instance : Und Try.prog 203 (.pointer 52) := ⟨Try.underlying203⟩
instance : Siz Try.prog 203 1 := ⟨by kernel_rfl⟩
instance : Byt Try.prog 203 8 := ⟨by kernel_rfl⟩
instance : Agg Try.prog 203 false := ⟨by kernel_rfl⟩
instance : One Try.prog 203 := ⟨by kernel_rfl⟩
instance : Zer Try.prog 203 (.pointer none) := ⟨by kernel_rfl⟩
instance : Und Try.prog 210 (.array 12 5) := ⟨Try.underlying210⟩
instance : Siz Try.prog 210 12 := ⟨by kernel_rfl⟩
instance : Byt Try.prog 210 12 := ⟨by kernel_rfl⟩
instance : Agg Try.prog 210 true := ⟨by kernel_rfl⟩
instance : Ngd Try.prog 210 := ⟨by kernel_rfl⟩
instance : Zer Try.prog 210 (.agg (List.toArray [(b8 0#8), (b8 0#8), (b8 0#8), (b8 0#8), (b8 0#8), (b8 0#8), (b8 0#8), (b8 0#8), (b8 0#8), (b8 0#8), (b8 0#8), (b8 0#8)])) := ⟨by kernel_rfl⟩
instance : Und Try.prog 211 (.array 64 5) := ⟨Try.underlying211⟩
instance : Siz Try.prog 211 64 := ⟨by kernel_rfl⟩
instance : Byt Try.prog 211 64 := ⟨by kernel_rfl⟩
instance : Agg Try.prog 211 true := ⟨by kernel_rfl⟩
instance : Ngd Try.prog 211 := ⟨by kernel_rfl⟩
instance : Zer Try.prog 211 (.agg (List.toArray [(b8 0#8), (b8 0#8), (b8 0#8), (b8 0#8), (b8 0#8), (b8 0#8), (b8 0#8), (b8 0#8), (b8 0#8), (b8 0#8), (b8 0#8), (b8 0#8), (b8 0#8), (b8 0#8), (b8 0#8), (b8 0#8), (b8 0#8), (b8 0#8), (b8 0#8), (b8 0#8), (b8 0#8), (b8 0#8), (b8 0#8), (b8 0#8), (b8 0#8), (b8 0#8), (b8 0#8), (b8 0#8), (b8 0#8), (b8 0#8), (b8 0#8), (b8 0#8), (b8 0#8), (b8 0#8), (b8 0#8), (b8 0#8), (b8 0#8), (b8 0#8), (b8 0#8), (b8 0#8), (b8 0#8), (b8 0#8), (b8 0#8), (b8 0#8), (b8 0#8), (b8 0#8), (b8 0#8), (b8 0#8), (b8 0#8), (b8 0#8), (b8 0#8), (b8 0#8), (b8 0#8), (b8 0#8), (b8 0#8), (b8 0#8), (b8 0#8), (b8 0#8), (b8 0#8), (b8 0#8), (b8 0#8), (b8 0#8), (b8 0#8), (b8 0#8)])) := ⟨by kernel_rfl⟩
instance : Siz Try.prog 221 8 := ⟨by kernel_rfl⟩
instance : Byt Try.prog 221 64 := ⟨by kernel_rfl⟩
instance : Agg Try.prog 221 true := ⟨by kernel_rfl⟩
instance : Plc Try.prog 221 [(0, 4), (4, 4)] := ⟨by kernel_rfl⟩
instance : Ngd Try.prog 221 := ⟨by kernel_rfl⟩
instance : Zer Try.prog 221 (.agg (List.toArray [(b64 0#64), (b64 0#64), (b64 0#64), (b64 0#64), (b64 0#64), (b64 0#64), (b64 0#64), (b64 0#64)])) := ⟨by kernel_rfl⟩
instance : Siz Try.prog 222 8 := ⟨by kernel_rfl⟩
instance : Byt Try.prog 222 64 := ⟨by kernel_rfl⟩
instance : Agg Try.prog 222 true := ⟨by kernel_rfl⟩
instance : Plc Try.prog 222 [(0, 4), (4, 4)] := ⟨by kernel_rfl⟩
instance : Ngd Try.prog 222 := ⟨by kernel_rfl⟩
instance : Zer Try.prog 222 (.agg (List.toArray [(b64 0#64), (b64 0#64), (b64 0#64), (b64 0#64), (b64 0#64), (b64 0#64), (b64 0#64), (b64 0#64)])) := ⟨by kernel_rfl⟩
instance : Und Try.prog 229 (.array 64 49) := ⟨Try.underlying229⟩
instance : Siz Try.prog 229 64 := ⟨by kernel_rfl⟩
instance : Byt Try.prog 229 256 := ⟨by kernel_rfl⟩
instance : Agg Try.prog 229 true := ⟨by kernel_rfl⟩
instance : Ngd Try.prog 229 := ⟨by kernel_rfl⟩
instance : Zer Try.prog 229 (.agg (List.toArray [(b32 0#32), (b32 0#32), (b32 0#32), (b32 0#32), (b32 0#32), (b32 0#32), (b32 0#32), (b32 0#32), (b32 0#32), (b32 0#32), (b32 0#32), (b32 0#32), (b32 0#32), (b32 0#32), (b32 0#32), (b32 0#32), (b32 0#32), (b32 0#32), (b32 0#32), (b32 0#32), (b32 0#32), (b32 0#32), (b32 0#32), (b32 0#32), (b32 0#32), (b32 0#32), (b32 0#32), (b32 0#32), (b32 0#32), (b32 0#32), (b32 0#32), (b32 0#32), (b32 0#32), (b32 0#32), (b32 0#32), (b32 0#32), (b32 0#32), (b32 0#32), (b32 0#32), (b32 0#32), (b32 0#32), (b32 0#32), (b32 0#32), (b32 0#32), (b32 0#32), (b32 0#32), (b32 0#32), (b32 0#32), (b32 0#32), (b32 0#32), (b32 0#32), (b32 0#32), (b32 0#32), (b32 0#32), (b32 0#32), (b32 0#32), (b32 0#32), (b32 0#32), (b32 0#32), (b32 0#32), (b32 0#32), (b32 0#32), (b32 0#32), (b32 0#32)])) := ⟨by kernel_rfl⟩
instance : Und Try.prog 233 (.array 16 49) := ⟨Try.underlying233⟩
instance : Siz Try.prog 233 16 := ⟨by kernel_rfl⟩
instance : Byt Try.prog 233 64 := ⟨by kernel_rfl⟩
instance : Agg Try.prog 233 true := ⟨by kernel_rfl⟩
instance : Ngd Try.prog 233 := ⟨by kernel_rfl⟩
instance : Zer Try.prog 233 (.agg (List.toArray [(b32 0#32), (b32 0#32), (b32 0#32), (b32 0#32), (b32 0#32), (b32 0#32), (b32 0#32), (b32 0#32), (b32 0#32), (b32 0#32), (b32 0#32), (b32 0#32), (b32 0#32), (b32 0#32), (b32 0#32), (b32 0#32)])) := ⟨by kernel_rfl⟩
instance : Und Try.prog 236 (.pointer 233) := ⟨Try.underlying236⟩
instance : Siz Try.prog 236 1 := ⟨by kernel_rfl⟩
instance : Byt Try.prog 236 8 := ⟨by kernel_rfl⟩
instance : Agg Try.prog 236 false := ⟨by kernel_rfl⟩
instance : One Try.prog 236 := ⟨by kernel_rfl⟩
instance : Zer Try.prog 236 (.pointer none) := ⟨by kernel_rfl⟩
instance : Und Try.prog 249 (.int .i64) := ⟨Try.underlying249⟩
instance : Siz Try.prog 249 1 := ⟨by kernel_rfl⟩
instance : Byt Try.prog 249 8 := ⟨by kernel_rfl⟩
instance : Agg Try.prog 249 false := ⟨by kernel_rfl⟩
instance : One Try.prog 249 := ⟨by kernel_rfl⟩
instance : Zer Try.prog 249 (.int .i64 0) := ⟨by kernel_rfl⟩
instance : Und Try.prog 258 (.slice 132) := ⟨Try.underlying258⟩
instance : Siz Try.prog 258 1 := ⟨by kernel_rfl⟩
instance : Byt Try.prog 258 24 := ⟨by kernel_rfl⟩
instance : Agg Try.prog 258 false := ⟨by kernel_rfl⟩
instance : One Try.prog 258 := ⟨by kernel_rfl⟩
instance : Zer Try.prog 258 (.slice none 0 0) := ⟨by kernel_rfl⟩
instance : Und Try.prog 262 (.int .u64) := ⟨Try.underlying262⟩
instance : Siz Try.prog 262 1 := ⟨by kernel_rfl⟩
instance : Byt Try.prog 262 8 := ⟨by kernel_rfl⟩
instance : Agg Try.prog 262 false := ⟨by kernel_rfl⟩
instance : One Try.prog 262 := ⟨by kernel_rfl⟩
instance : Zer Try.prog 262 (b64 0#64) := ⟨by kernel_rfl⟩
instance : Und Try.prog 266 (.pointer 3) := ⟨Try.underlying266⟩
instance : Siz Try.prog 266 1 := ⟨by kernel_rfl⟩
instance : Byt Try.prog 266 8 := ⟨by kernel_rfl⟩
instance : Agg Try.prog 266 false := ⟨by kernel_rfl⟩
instance : One Try.prog 266 := ⟨by kernel_rfl⟩
instance : Zer Try.prog 266 (.pointer none) := ⟨by kernel_rfl⟩
instance : Und Try.prog 268 (.array 8 76) := ⟨Try.underlying268⟩
instance : Siz Try.prog 268 8 := ⟨by kernel_rfl⟩
instance : Byt Try.prog 268 64 := ⟨by kernel_rfl⟩
instance : Agg Try.prog 268 true := ⟨by kernel_rfl⟩
instance : Ngd Try.prog 268 := ⟨by kernel_rfl⟩
instance : Zer Try.prog 268 (.agg (List.toArray [(b64 0#64), (b64 0#64), (b64 0#64), (b64 0#64), (b64 0#64), (b64 0#64), (b64 0#64), (b64 0#64)])) := ⟨by kernel_rfl⟩
instance : Und Try.prog 275 (.pointer 262) := ⟨Try.underlying275⟩
instance : Siz Try.prog 275 1 := ⟨by kernel_rfl⟩
instance : Byt Try.prog 275 8 := ⟨by kernel_rfl⟩
instance : Agg Try.prog 275 false := ⟨by kernel_rfl⟩
instance : One Try.prog 275 := ⟨by kernel_rfl⟩
instance : Zer Try.prog 275 (.pointer none) := ⟨by kernel_rfl⟩
instance : Siz Try.prog 281 4 := ⟨by kernel_rfl⟩
instance : Byt Try.prog 281 40 := ⟨by kernel_rfl⟩
instance : Agg Try.prog 281 true := ⟨by kernel_rfl⟩
instance : Plc Try.prog 281 [(0, 1), (1, 1), (2, 1), (3, 1)] := ⟨by kernel_rfl⟩
instance : Ngd Try.prog 281 := ⟨by kernel_rfl⟩
instance : Zer Try.prog 281 (.agg (List.toArray [(.pointer none), (.pointer none), (.pointer none), (.string .empty)])) := ⟨by kernel_rfl⟩
instance : Und Try.prog 283 (.array 0 16) := ⟨Try.underlying283⟩
instance : Siz Try.prog 283 0 := ⟨by kernel_rfl⟩
instance : Byt Try.prog 283 0 := ⟨by kernel_rfl⟩
instance : Agg Try.prog 283 true := ⟨by kernel_rfl⟩
instance : Ngd Try.prog 283 := ⟨by kernel_rfl⟩
instance : Zer Try.prog 283 (.agg (List.toArray [])) := ⟨by kernel_rfl⟩
instance : Siz Try.prog 284 0 := ⟨by kernel_rfl⟩
instance : Byt Try.prog 284 0 := ⟨by kernel_rfl⟩
instance : Agg Try.prog 284 true := ⟨by kernel_rfl⟩
instance : Plc Try.prog 284 [(0, 0)] := ⟨by kernel_rfl⟩
instance : Ngd Try.prog 284 := ⟨by kernel_rfl⟩
instance : Zer Try.prog 284 (.agg (List.toArray [])) := ⟨by kernel_rfl⟩
instance : Und Try.prog 289 (.pointer 5) := ⟨Try.underlying289⟩
instance : Siz Try.prog 289 1 := ⟨by kernel_rfl⟩
instance : Byt Try.prog 289 8 := ⟨by kernel_rfl⟩
instance : Agg Try.prog 289 false := ⟨by kernel_rfl⟩
instance : One Try.prog 289 := ⟨by kernel_rfl⟩
instance : Zer Try.prog 289 (.pointer none) := ⟨by kernel_rfl⟩
instance : Siz Try.prog 292 11 := ⟨by kernel_rfl⟩
instance : Byt Try.prog 292 48 := ⟨by kernel_rfl⟩
instance : Agg Try.prog 292 true := ⟨by kernel_rfl⟩
instance : Plc Try.prog 292 [(0, 1), (1, 1), (2, 1), (3, 1), (4, 1), (5, 1), (6, 1), (7, 1), (8, 1), (9, 1), (10, 1)] := ⟨by kernel_rfl⟩
instance : Ngd Try.prog 292 := ⟨by kernel_rfl⟩
instance : Zer Try.prog 292 (.agg (List.toArray [(b64 0#64), (b64 0#64), (b32 0#32), (b8 0#8), (b8 0#8), (b8 0#8), (b8 0#8), .nilFunc, (.pointer none), (.int .i32 0), (.int .i32 0)])) := ⟨by kernel_rfl⟩
instance : Fld Try.prog 51 0 0 8 true := ⟨by kernel_rfl⟩
instance : Fld Try.prog 51 1 8 1 false := ⟨by kernel_rfl⟩
instance : Fld Try.prog 51 2 9 1 false := ⟨by kernel_rfl⟩
instance : Fld Try.prog 52 0 0 8 true := ⟨by kernel_rfl⟩
instance : Fld Try.prog 52 1 8 1 false := ⟨by kernel_rfl⟩
instance : Fld Try.prog 52 2 9 1 false := ⟨by kernel_rfl⟩
instance : Fld Try.prog 53 0 0 10 true := ⟨by kernel_rfl⟩
instance : Fld Try.prog 54 0 0 10 true := ⟨by kernel_rfl⟩
instance : Fld Try.prog 55 0 0 10 true := ⟨by kernel_rfl⟩
instance : Fld Try.prog 55 1 10 1 false := ⟨by kernel_rfl⟩
instance : Fld Try.prog 56 0 0 10 true := ⟨by kernel_rfl⟩
instance : Fld Try.prog 56 1 10 1 false := ⟨by kernel_rfl⟩
instance : Fld Try.prog 66 0 0 1 false := ⟨by kernel_rfl⟩
instance : Fld Try.prog 66 1 1 1 false := ⟨by kernel_rfl⟩
instance : Fld Try.prog 67 0 0 1 false := ⟨by kernel_rfl⟩
instance : Fld Try.prog 67 1 1 1 false := ⟨by kernel_rfl⟩
instance : Fld Try.prog 68 0 0 2 true := ⟨by kernel_rfl⟩
instance : Fld Try.prog 69 0 0 2 true := ⟨by kernel_rfl⟩
instance : Fld Try.prog 77 0 0 1 false := ⟨by kernel_rfl⟩
instance : Fld Try.prog 77 1 1 1 false := ⟨by kernel_rfl⟩
instance : Fld Try.prog 77 2 2 32 true := ⟨by kernel_rfl⟩
instance : Fld Try.prog 77 3 34 32 true := ⟨by kernel_rfl⟩
instance : Fld Try.prog 78 0 0 1 false := ⟨by kernel_rfl⟩
instance : Fld Try.prog 78 1 1 1 false := ⟨by kernel_rfl⟩
instance : Fld Try.prog 78 2 2 32 true := ⟨by kernel_rfl⟩
instance : Fld Try.prog 78 3 34 32 true := ⟨by kernel_rfl⟩
instance : Fld Try.prog 87 0 0 1 false := ⟨by kernel_rfl⟩
instance : Fld Try.prog 87 1 1 1 false := ⟨by kernel_rfl⟩
instance : Fld Try.prog 87 2 2 1 false := ⟨by kernel_rfl⟩
instance : Fld Try.prog 87 3 3 1 false := ⟨by kernel_rfl⟩
instance : Fld Try.prog 87 4 4 16 true := ⟨by kernel_rfl⟩
instance : Fld Try.prog 88 0 0 1 false := ⟨by kernel_rfl⟩
instance : Fld Try.prog 88 1 1 1 false := ⟨by kernel_rfl⟩
instance : Fld Try.prog 88 2 2 1 false := ⟨by kernel_rfl⟩
instance : Fld Try.prog 88 3 3 1 false := ⟨by kernel_rfl⟩
instance : Fld Try.prog 88 4 4 16 true := ⟨by kernel_rfl⟩
instance : Fld Try.prog 91 0 0 20 true := ⟨by kernel_rfl⟩
instance : Fld Try.prog 92 0 0 20 true := ⟨by kernel_rfl⟩
instance : Fld Try.prog 96 0 0 1 false := ⟨by kernel_rfl⟩
instance : Fld Try.prog 96 1 1 1 false := ⟨by kernel_rfl⟩
instance : Fld Try.prog 96 2 2 1 false := ⟨by kernel_rfl⟩
instance : Fld Try.prog 97 0 0 1 false := ⟨by kernel_rfl⟩
instance : Fld Try.prog 97 1 1 1 false := ⟨by kernel_rfl⟩
instance : Fld Try.prog 97 2 2 1 false := ⟨by kernel_rfl⟩
instance : Fld Try.prog 99 0 0 66 true := ⟨by kernel_rfl⟩
instance : Fld Try.prog 100 0 0 66 true := ⟨by kernel_rfl⟩
instance : Fld Try.prog 101 0 0 66 true := ⟨by kernel_rfl⟩
instance : Fld Try.prog 101 1 66 1 false := ⟨by kernel_rfl⟩
instance : Fld Try.prog 101 2 67 1 false := ⟨by kernel_rfl⟩
instance : Fld Try.prog 102 0 0 66 true := ⟨by kernel_rfl⟩
instance : Fld Try.prog 102 1 66 1 false := ⟨by kernel_rfl⟩
instance : Fld Try.prog 102 2 67 1 false := ⟨by kernel_rfl⟩
instance : Fld Try.prog 112 0 0 1 false := ⟨by kernel_rfl⟩
instance : Fld Try.prog 112 1 1 1 false := ⟨by kernel_rfl⟩
instance : Fld Try.prog 113 0 0 1 false := ⟨by kernel_rfl⟩
instance : Fld Try.prog 113 1 1 1 false := ⟨by kernel_rfl⟩
instance : Fld Try.prog 114 0 0 2 true := ⟨by kernel_rfl⟩
instance : Fld Try.prog 114 1 2 1 false := ⟨by kernel_rfl⟩
instance : Fld Try.prog 115 0 0 2 true := ⟨by kernel_rfl⟩
instance : Fld Try.prog 115 1 2 1 false := ⟨by kernel_rfl⟩
instance : Fld Try.prog 117 0 0 1 false := ⟨by kernel_rfl⟩
instance : Fld Try.prog 117 1 1 1 false := ⟨by kernel_rfl⟩
instance : Fld Try.prog 117 2 2 1 false := ⟨by kernel_rfl⟩
instance : Fld Try.prog 117 3 3 1 false := ⟨by kernel_rfl⟩
instance : Fld Try.prog 117 4 4 1 false := ⟨by kernel_rfl⟩
instance : Fld Try.prog 118 0 0 1 false := ⟨by kernel_rfl⟩
instance : Fld Try.prog 118 1 1 1 false := ⟨by kernel_rfl⟩
instance : Fld Try.prog 118 2 2 1 false := ⟨by kernel_rfl⟩
instance : Fld Try.prog 118 3 3 1 false := ⟨by kernel_rfl⟩
instance : Fld Try.prog 118 4 4 1 false := ⟨by kernel_rfl⟩
instance : Fld Try.prog 140 0 0 32 true := ⟨by kernel_rfl⟩
instance : Fld Try.prog 140 1 32 32 true := ⟨by kernel_rfl⟩
instance : Fld Try.prog 140 2 64 32 true := ⟨by kernel_rfl⟩
instance : Fld Try.prog 140 3 96 32 true := ⟨by kernel_rfl⟩
instance : Fld Try.prog 141 0 0 32 true := ⟨by kernel_rfl⟩
instance : Fld Try.prog 141 1 32 32 true := ⟨by kernel_rfl⟩
instance : Fld Try.prog 141 2 64 32 true := ⟨by kernel_rfl⟩
instance : Fld Try.prog 141 3 96 32 true := ⟨by kernel_rfl⟩
instance : Fld Try.prog 144 0 0 32 true := ⟨by kernel_rfl⟩
instance : Fld Try.prog 144 1 32 32 true := ⟨by kernel_rfl⟩
instance : Fld Try.prog 145 0 0 32 true := ⟨by kernel_rfl⟩
instance : Fld Try.prog 145 1 32 32 true := ⟨by kernel_rfl⟩
instance : Fld Try.prog 152 0 0 128 true := ⟨by kernel_rfl⟩
instance : Fld Try.prog 152 1 128 32 true := ⟨by kernel_rfl⟩
instance : Fld Try.prog 152 2 160 32 true := ⟨by kernel_rfl⟩
instance : Fld Try.prog 153 0 0 128 true := ⟨by kernel_rfl⟩
instance : Fld Try.prog 153 1 128 32 true := ⟨by kernel_rfl⟩
instance : Fld Try.prog 153 2 160 32 true := ⟨by kernel_rfl⟩
instance : Fld Try.prog 172 0 0 32 true := ⟨by kernel_rfl⟩
instance : Fld Try.prog 172 1 32 1 false := ⟨by kernel_rfl⟩
instance : Fld Try.prog 173 0 0 32 true := ⟨by kernel_rfl⟩
instance : Fld Try.prog 173 1 32 1 false := ⟨by kernel_rfl⟩
instance : Fld Try.prog 221 0 0 4 true := ⟨by kernel_rfl⟩
instance : Fld Try.prog 221 1 4 4 true := ⟨by kernel_rfl⟩
instance : Fld Try.prog 222 0 0 4 true := ⟨by kernel_rfl⟩
instance : Fld Try.prog 222 1 4 4 true := ⟨by kernel_rfl⟩
instance : Fld Try.prog 281 0 0 1 false := ⟨by kernel_rfl⟩
instance : Fld Try.prog 281 1 1 1 false := ⟨by kernel_rfl⟩
instance : Fld Try.prog 281 2 2 1 false := ⟨by kernel_rfl⟩
instance : Fld Try.prog 281 3 3 1 false := ⟨by kernel_rfl⟩
instance : Fld Try.prog 284 0 0 0 true := ⟨by kernel_rfl⟩
instance : Fld Try.prog 292 0 0 1 false := ⟨by kernel_rfl⟩
instance : Fld Try.prog 292 1 1 1 false := ⟨by kernel_rfl⟩
instance : Fld Try.prog 292 2 2 1 false := ⟨by kernel_rfl⟩
instance : Fld Try.prog 292 3 3 1 false := ⟨by kernel_rfl⟩
instance : Fld Try.prog 292 4 4 1 false := ⟨by kernel_rfl⟩
instance : Fld Try.prog 292 5 5 1 false := ⟨by kernel_rfl⟩
instance : Fld Try.prog 292 6 6 1 false := ⟨by kernel_rfl⟩
instance : Fld Try.prog 292 7 7 1 false := ⟨by kernel_rfl⟩
instance : Fld Try.prog 292 8 8 1 false := ⟨by kernel_rfl⟩
instance : Fld Try.prog 292 9 9 1 false := ⟨by kernel_rfl⟩
instance : Fld Try.prog 292 10 10 1 false := ⟨by kernel_rfl⟩
instance : Mnz Try.prog 117 5 := ⟨Try.f117, 26, Try.func117, by kernel_rfl, rfl, by kernel_rfl, by kernel_rfl, Try.underlying26⟩
instance : Cal Try.prog 2 := ⟨Try.f2, Try.func2, by kernel_rfl, rfl⟩
instance : Cal Try.prog 3 := ⟨Try.f3, Try.func3, by kernel_rfl, rfl⟩
instance : Cal Try.prog 4 := ⟨Try.f4, Try.func4, by kernel_rfl, rfl⟩
instance : Cal Try.prog 5 := ⟨Try.f5, Try.func5, by kernel_rfl, rfl⟩
instance : Cal Try.prog 6 := ⟨Try.f6, Try.func6, by kernel_rfl, rfl⟩
instance : Cal Try.prog 7 := ⟨Try.f7, Try.func7, by kernel_rfl, rfl⟩
instance : Cal Try.prog 8 := ⟨Try.f8, Try.func8, by kernel_rfl, rfl⟩
instance : Cal Try.prog 9 := ⟨Try.f9, Try.func9, by kernel_rfl, rfl⟩
instance : Cal Try.prog 10 := ⟨Try.f10, Try.func10, by kernel_rfl, rfl⟩
instance : Cal Try.prog 11 := ⟨Try.f11, Try.func11, by kernel_rfl, rfl⟩
instance : Cal Try.prog 12 := ⟨Try.f12, Try.func12, by kernel_rfl, rfl⟩
instance : Cal Try.prog 13 := ⟨Try.f13, Try.func13, by kernel_rfl, rfl⟩
instance : Cal Try.prog 14 := ⟨Try.f14, Try.func14, by kernel_rfl, rfl⟩
instance : Cal Try.prog 15 := ⟨Try.f15, Try.func15, by kernel_rfl, rfl⟩
instance : Cal Try.prog 16 := ⟨Try.f16, Try.func16, by kernel_rfl, rfl⟩
instance : Cal Try.prog 17 := ⟨Try.f17, Try.func17, by kernel_rfl, rfl⟩
instance : Cal Try.prog 18 := ⟨Try.f18, Try.func18, by kernel_rfl, rfl⟩
instance : Cal Try.prog 19 := ⟨Try.f19, Try.func19, by kernel_rfl, rfl⟩
instance : Cal Try.prog 20 := ⟨Try.f20, Try.func20, by kernel_rfl, rfl⟩
instance : Cal Try.prog 21 := ⟨Try.f21, Try.func21, by kernel_rfl, rfl⟩
instance : Cal Try.prog 22 := ⟨Try.f22, Try.func22, by kernel_rfl, rfl⟩
instance : Cal Try.prog 23 := ⟨Try.f23, Try.func23, by kernel_rfl, rfl⟩
instance : Cal Try.prog 24 := ⟨Try.f24, Try.func24, by kernel_rfl, rfl⟩
instance : Cal Try.prog 25 := ⟨Try.f25, Try.func25, by kernel_rfl, rfl⟩
instance : Cal Try.prog 26 := ⟨Try.f26, Try.func26, by kernel_rfl, rfl⟩
instance : Cal Try.prog 27 := ⟨Try.f27, Try.func27, by kernel_rfl, rfl⟩
instance : Cal Try.prog 28 := ⟨Try.f28, Try.func28, by kernel_rfl, rfl⟩
instance : Cal Try.prog 29 := ⟨Try.f29, Try.func29, by kernel_rfl, rfl⟩
instance : Cal Try.prog 30 := ⟨Try.f30, Try.func30, by kernel_rfl, rfl⟩
instance : Cal Try.prog 31 := ⟨Try.f31, Try.func31, by kernel_rfl, rfl⟩
instance : Cal Try.prog 32 := ⟨Try.f32, Try.func32, by kernel_rfl, rfl⟩
instance : Cal Try.prog 33 := ⟨Try.f33, Try.func33, by kernel_rfl, rfl⟩
instance : Cal Try.prog 34 := ⟨Try.f34, Try.func34, by kernel_rfl, rfl⟩
instance : Cal Try.prog 35 := ⟨Try.f35, Try.func35, by kernel_rfl, rfl⟩
instance : Cal Try.prog 36 := ⟨Try.f36, Try.func36, by kernel_rfl, rfl⟩
instance : Cal Try.prog 37 := ⟨Try.f37, Try.func37, by kernel_rfl, rfl⟩
instance : Cal Try.prog 38 := ⟨Try.f38, Try.func38, by kernel_rfl, rfl⟩
instance : Cal Try.prog 39 := ⟨Try.f39, Try.func39, by kernel_rfl, rfl⟩
instance : Cal Try.prog 40 := ⟨Try.f40, Try.func40, by kernel_rfl, rfl⟩
instance : Cal Try.prog 41 := ⟨Try.f41, Try.func41, by kernel_rfl, rfl⟩
instance : Cal Try.prog 42 := ⟨Try.f42, Try.func42, by kernel_rfl, rfl⟩
instance : Cal Try.prog 43 := ⟨Try.f43, Try.func43, by kernel_rfl, rfl⟩
instance : Cal Try.prog 44 := ⟨Try.f44, Try.func44, by kernel_rfl, rfl⟩
instance : Cal Try.prog 45 := ⟨Try.f45, Try.func45, by kernel_rfl, rfl⟩
instance : Cal Try.prog 46 := ⟨Try.f46, Try.func46, by kernel_rfl, rfl⟩
instance : Cal Try.prog 47 := ⟨Try.f47, Try.func47, by kernel_rfl, rfl⟩
instance : Cal Try.prog 48 := ⟨Try.f48, Try.func48, by kernel_rfl, rfl⟩
instance : Cal Try.prog 49 := ⟨Try.f49, Try.func49, by kernel_rfl, rfl⟩
instance : Cal Try.prog 50 := ⟨Try.f50, Try.func50, by kernel_rfl, rfl⟩
instance : Cal Try.prog 51 := ⟨Try.f51, Try.func51, by kernel_rfl, rfl⟩
instance : Cal Try.prog 52 := ⟨Try.f52, Try.func52, by kernel_rfl, rfl⟩
instance : Cal Try.prog 53 := ⟨Try.f53, Try.func53, by kernel_rfl, rfl⟩
instance : Cal Try.prog 54 := ⟨Try.f54, Try.func54, by kernel_rfl, rfl⟩
instance : Cal Try.prog 55 := ⟨Try.f55, Try.func55, by kernel_rfl, rfl⟩
instance : Cal Try.prog 56 := ⟨Try.f56, Try.func56, by kernel_rfl, rfl⟩
instance : Cal Try.prog 57 := ⟨Try.f57, Try.func57, by kernel_rfl, rfl⟩
instance : Cal Try.prog 58 := ⟨Try.f58, Try.func58, by kernel_rfl, rfl⟩
instance : Cal Try.prog 59 := ⟨Try.f59, Try.func59, by kernel_rfl, rfl⟩
instance : Cal Try.prog 60 := ⟨Try.f60, Try.func60, by kernel_rfl, rfl⟩
instance : Cal Try.prog 61 := ⟨Try.f61, Try.func61, by kernel_rfl, rfl⟩
instance : Cal Try.prog 62 := ⟨Try.f62, Try.func62, by kernel_rfl, rfl⟩
instance : Cal Try.prog 63 := ⟨Try.f63, Try.func63, by kernel_rfl, rfl⟩
instance : Cal Try.prog 64 := ⟨Try.f64, Try.func64, by kernel_rfl, rfl⟩
instance : Cal Try.prog 65 := ⟨Try.f65, Try.func65, by kernel_rfl, rfl⟩
instance : Cal Try.prog 66 := ⟨Try.f66, Try.func66, by kernel_rfl, rfl⟩
instance : Cal Try.prog 67 := ⟨Try.f67, Try.func67, by kernel_rfl, rfl⟩
instance : Cal Try.prog 68 := ⟨Try.f68, Try.func68, by kernel_rfl, rfl⟩
instance : Cal Try.prog 69 := ⟨Try.f69, Try.func69, by kernel_rfl, rfl⟩
instance : Cal Try.prog 70 := ⟨Try.f70, Try.func70, by kernel_rfl, rfl⟩
instance : Cal Try.prog 71 := ⟨Try.f71, Try.func71, by kernel_rfl, rfl⟩
instance : Cal Try.prog 72 := ⟨Try.f72, Try.func72, by kernel_rfl, rfl⟩
instance : Cal Try.prog 73 := ⟨Try.f73, Try.func73, by kernel_rfl, rfl⟩
instance : Cal Try.prog 74 := ⟨Try.f74, Try.func74, by kernel_rfl, rfl⟩
instance : Cal Try.prog 75 := ⟨Try.f75, Try.func75, by kernel_rfl, rfl⟩
instance : Cal Try.prog 76 := ⟨Try.f76, Try.func76, by kernel_rfl, rfl⟩
instance : Cal Try.prog 77 := ⟨Try.f77, Try.func77, by kernel_rfl, rfl⟩
instance : Cal Try.prog 78 := ⟨Try.f78, Try.func78, by kernel_rfl, rfl⟩
instance : Cal Try.prog 79 := ⟨Try.f79, Try.func79, by kernel_rfl, rfl⟩
instance : Cal Try.prog 80 := ⟨Try.f80, Try.func80, by kernel_rfl, rfl⟩
instance : Cal Try.prog 81 := ⟨Try.f81, Try.func81, by kernel_rfl, rfl⟩
instance : Cal Try.prog 82 := ⟨Try.f82, Try.func82, by kernel_rfl, rfl⟩
instance : Cal Try.prog 83 := ⟨Try.f83, Try.func83, by kernel_rfl, rfl⟩
instance : Cal Try.prog 84 := ⟨Try.f84, Try.func84, by kernel_rfl, rfl⟩
instance : Cal Try.prog 85 := ⟨Try.f85, Try.func85, by kernel_rfl, rfl⟩
instance : Cal Try.prog 86 := ⟨Try.f86, Try.func86, by kernel_rfl, rfl⟩
instance : Cal Try.prog 87 := ⟨Try.f87, Try.func87, by kernel_rfl, rfl⟩
instance : Cal Try.prog 88 := ⟨Try.f88, Try.func88, by kernel_rfl, rfl⟩
instance : Cal Try.prog 89 := ⟨Try.f89, Try.func89, by kernel_rfl, rfl⟩
instance : Cal Try.prog 90 := ⟨Try.f90, Try.func90, by kernel_rfl, rfl⟩
instance : Cal Try.prog 91 := ⟨Try.f91, Try.func91, by kernel_rfl, rfl⟩
instance : Cal Try.prog 92 := ⟨Try.f92, Try.func92, by kernel_rfl, rfl⟩
instance : Cal Try.prog 93 := ⟨Try.f93, Try.func93, by kernel_rfl, rfl⟩
instance : Cal Try.prog 94 := ⟨Try.f94, Try.func94, by kernel_rfl, rfl⟩
instance : Cal Try.prog 95 := ⟨Try.f95, Try.func95, by kernel_rfl, rfl⟩
instance : Cal Try.prog 96 := ⟨Try.f96, Try.func96, by kernel_rfl, rfl⟩
instance : Cal Try.prog 97 := ⟨Try.f97, Try.func97, by kernel_rfl, rfl⟩
instance : Cal Try.prog 98 := ⟨Try.f98, Try.func98, by kernel_rfl, rfl⟩
instance : Cal Try.prog 99 := ⟨Try.f99, Try.func99, by kernel_rfl, rfl⟩
instance : Cal Try.prog 100 := ⟨Try.f100, Try.func100, by kernel_rfl, rfl⟩
instance : Cal Try.prog 101 := ⟨Try.f101, Try.func101, by kernel_rfl, rfl⟩
instance : Cal Try.prog 102 := ⟨Try.f102, Try.func102, by kernel_rfl, rfl⟩
instance : Cal Try.prog 103 := ⟨Try.f103, Try.func103, by kernel_rfl, rfl⟩
instance : Cal Try.prog 104 := ⟨Try.f104, Try.func104, by kernel_rfl, rfl⟩
instance : Cal Try.prog 105 := ⟨Try.f105, Try.func105, by kernel_rfl, rfl⟩
instance : Cal Try.prog 106 := ⟨Try.f106, Try.func106, by kernel_rfl, rfl⟩
instance : Cal Try.prog 107 := ⟨Try.f107, Try.func107, by kernel_rfl, rfl⟩
instance : Cal Try.prog 108 := ⟨Try.f108, Try.func108, by kernel_rfl, rfl⟩
instance : Cal Try.prog 109 := ⟨Try.f109, Try.func109, by kernel_rfl, rfl⟩
instance : Cal Try.prog 110 := ⟨Try.f110, Try.func110, by kernel_rfl, rfl⟩
instance : Cal Try.prog 111 := ⟨Try.f111, Try.func111, by kernel_rfl, rfl⟩
instance : Cal Try.prog 112 := ⟨Try.f112, Try.func112, by kernel_rfl, rfl⟩
instance : Cal Try.prog 113 := ⟨Try.f113, Try.func113, by kernel_rfl, rfl⟩
instance : Cal Try.prog 114 := ⟨Try.f114, Try.func114, by kernel_rfl, rfl⟩
instance : Cal Try.prog 115 := ⟨Try.f115, Try.func115, by kernel_rfl, rfl⟩
instance : Cal Try.prog 116 := ⟨Try.f116, Try.func116, by kernel_rfl, rfl⟩
instance : Cal Try.prog 118 := ⟨Try.f118, Try.func118, by kernel_rfl, rfl⟩
instance : Cal Try.prog 119 := ⟨Try.f119, Try.func119, by kernel_rfl, rfl⟩
instance : Cal Try.prog 120 := ⟨Try.f120, Try.func120, by kernel_rfl, rfl⟩
instance : Cal Try.prog 121 := ⟨Try.f121, Try.func121, by kernel_rfl, rfl⟩
instance : Cal Try.prog 122 := ⟨Try.f122, Try.func122, by kernel_rfl, rfl⟩
instance : Cal Try.prog 123 := ⟨Try.f123, Try.func123, by kernel_rfl, rfl⟩
instance : Cal Try.prog 124 := ⟨Try.f124, Try.func124, by kernel_rfl, rfl⟩
instance : Cal Try.prog 125 := ⟨Try.f125, Try.func125, by kernel_rfl, rfl⟩
instance : Cal Try.prog 126 := ⟨Try.f126, Try.func126, by kernel_rfl, rfl⟩
instance : Cal Try.prog 127 := ⟨Try.f127, Try.func127, by kernel_rfl, rfl⟩
instance : Cal Try.prog 128 := ⟨Try.f128, Try.func128, by kernel_rfl, rfl⟩
instance : Cal Try.prog 129 := ⟨Try.f129, Try.func129, by kernel_rfl, rfl⟩
instance : Cal Try.prog 130 := ⟨Try.f130, Try.func130, by kernel_rfl, rfl⟩
instance : Cal Try.prog 131 := ⟨Try.f131, Try.func131, by kernel_rfl, rfl⟩
instance : Cal Try.prog 132 := ⟨Try.f132, Try.func132, by kernel_rfl, rfl⟩
instance : Cal Try.prog 133 := ⟨Try.f133, Try.func133, by kernel_rfl, rfl⟩
instance : Cal Try.prog 134 := ⟨Try.f134, Try.func134, by kernel_rfl, rfl⟩
instance : Cal Try.prog 135 := ⟨Try.f135, Try.func135, by kernel_rfl, rfl⟩
instance : Cal Try.prog 136 := ⟨Try.f136, Try.func136, by kernel_rfl, rfl⟩
instance : Cal Try.prog 137 := ⟨Try.f137, Try.func137, by kernel_rfl, rfl⟩
instance : Cal Try.prog 138 := ⟨Try.f138, Try.func138, by kernel_rfl, rfl⟩
instance : Cal Try.prog 140 := ⟨Try.f140, Try.func140, by kernel_rfl, rfl⟩
instance : Cal Try.prog 141 := ⟨Try.f141, Try.func141, by kernel_rfl, rfl⟩
instance : Cal Try.prog 142 := ⟨Try.f142, Try.func142, by kernel_rfl, rfl⟩
instance : Cal Try.prog 143 := ⟨Try.f143, Try.func143, by kernel_rfl, rfl⟩
instance : Cal Try.prog 144 := ⟨Try.f144, Try.func144, by kernel_rfl, rfl⟩
instance : Cal Try.prog 145 := ⟨Try.f145, Try.func145, by kernel_rfl, rfl⟩
instance : Cal Try.prog 146 := ⟨Try.f146, Try.func146, by kernel_rfl, rfl⟩
instance : Cal Try.prog 147 := ⟨Try.f147, Try.func147, by kernel_rfl, rfl⟩
instance : Cal Try.prog 148 := ⟨Try.f148, Try.func148, by kernel_rfl, rfl⟩
instance : Cal Try.prog 149 := ⟨Try.f149, Try.func149, by kernel_rfl, rfl⟩
instance : Cal Try.prog 150 := ⟨Try.f150, Try.func150, by kernel_rfl, rfl⟩
instance : Cal Try.prog 151 := ⟨Try.f151, Try.func151, by kernel_rfl, rfl⟩
instance : Cal Try.prog 152 := ⟨Try.f152, Try.func152, by kernel_rfl, rfl⟩
instance : Cal Try.prog 153 := ⟨Try.f153, Try.func153, by kernel_rfl, rfl⟩
instance : Cal Try.prog 154 := ⟨Try.f154, Try.func154, by kernel_rfl, rfl⟩
instance : Cal Try.prog 155 := ⟨Try.f155, Try.func155, by kernel_rfl, rfl⟩
instance : Cal Try.prog 156 := ⟨Try.f156, Try.func156, by kernel_rfl, rfl⟩
instance : Cal Try.prog 157 := ⟨Try.f157, Try.func157, by kernel_rfl, rfl⟩
instance : Cal Try.prog 158 := ⟨Try.f158, Try.func158, by kernel_rfl, rfl⟩
instance : Cal Try.prog 159 := ⟨Try.f159, Try.func159, by kernel_rfl, rfl⟩
instance : Cal Try.prog 160 := ⟨Try.f160, Try.func160, by kernel_rfl, rfl⟩
instance : Cal Try.prog 161 := ⟨Try.f161, Try.func161, by kernel_rfl, rfl⟩
instance : Cal Try.prog 162 := ⟨Try.f162, Try.func162, by kernel_rfl, rfl⟩
instance : Cal Try.prog 163 := ⟨Try.f163, Try.func163, by kernel_rfl, rfl⟩
instance : Cal Try.prog 164 := ⟨Try.f164, Try.func164, by kernel_rfl, rfl⟩
instance : Cal Try.prog 165 := ⟨Try.f165, Try.func165, by kernel_rfl, rfl⟩
instance : Cal Try.prog 166 := ⟨Try.f166, Try.func166, by kernel_rfl, rfl⟩
instance : Cal Try.prog 167 := ⟨Try.f167, Try.func167, by kernel_rfl, rfl⟩
instance : Cal Try.prog 168 := ⟨Try.f168, Try.func168, by kernel_rfl, rfl⟩
instance : Cal Try.prog 169 := ⟨Try.f169, Try.func169, by kernel_rfl, rfl⟩
instance : Cal Try.prog 170 := ⟨Try.f170, Try.func170, by kernel_rfl, rfl⟩
instance : Cal Try.prog 171 := ⟨Try.f171, Try.func171, by kernel_rfl, rfl⟩
instance : Cal Try.prog 172 := ⟨Try.f172, Try.func172, by kernel_rfl, rfl⟩
instance : Cal Try.prog 173 := ⟨Try.f173, Try.func173, by kernel_rfl, rfl⟩
instance : Cal Try.prog 174 := ⟨Try.f174, Try.func174, by kernel_rfl, rfl⟩
instance : Cal Try.prog 175 := ⟨Try.f175, Try.func175, by kernel_rfl, rfl⟩
instance : Cal Try.prog 176 := ⟨Try.f176, Try.func176, by kernel_rfl, rfl⟩
instance : Cal Try.prog 177 := ⟨Try.f177, Try.func177, by kernel_rfl, rfl⟩
instance : Cal Try.prog 178 := ⟨Try.f178, Try.func178, by kernel_rfl, rfl⟩
instance : Cal Try.prog 179 := ⟨Try.f179, Try.func179, by kernel_rfl, rfl⟩
instance : Cal Try.prog 180 := ⟨Try.f180, Try.func180, by kernel_rfl, rfl⟩
instance : Cal Try.prog 181 := ⟨Try.f181, Try.func181, by kernel_rfl, rfl⟩
instance : Cal Try.prog 183 := ⟨Try.f183, Try.func183, by kernel_rfl, rfl⟩
instance : Cal Try.prog 184 := ⟨Try.f184, Try.func184, by kernel_rfl, rfl⟩
instance : Cal Try.prog 185 := ⟨Try.f185, Try.func185, by kernel_rfl, rfl⟩
instance : Cal Try.prog 186 := ⟨Try.f186, Try.func186, by kernel_rfl, rfl⟩
instance : Cal Try.prog 187 := ⟨Try.f187, Try.func187, by kernel_rfl, rfl⟩
instance : Cal Try.prog 188 := ⟨Try.f188, Try.func188, by kernel_rfl, rfl⟩
instance : Cal Try.prog 189 := ⟨Try.f189, Try.func189, by kernel_rfl, rfl⟩
end Go.Sx

/-
  Contracts of the reference's copies and equality of lists of bytes, and of the codec's padding with its reference. Each list is at most 2^47 bytes long.
-/
namespace Go.Sx
open Go Go.Proofs

theorem Copy_spec (w : World) (p : Option Addr) (n c : Nat) (l : List (BitVec 8)) (hr : RdV w p (bs l)) (hn : l.length = n) (hbig : n ≤ 140737488355328) :
    Spec Try.prog 89 #[.slice p n c] w (σ := Ow) (fun _ => True) (fun x => x.sl n) Nob (fun x => [x.ck 5 1 (bs l)]) := by
  refine enter Try.func89 rfl rfl (Mem.start w) ?_
  (repeat refine g_seq ?_)
  refine g_region ?_
  refine g_pu rfl rfl rfl (pu_assign rfl rfl) ?_
  refine g_nil ?_
  (repeat refine g_seq ?_)
  refine g_region ?_
  refine g_lo [3] rfl rfl rfl rfl (lo_buildSlice0 rfl) (fun b3 hb3 => ?_)
  refine g_pu rfl rfl rfl (pu_move rfl rfl) ?_
  refine g_own 3 (L := []) (J := []) (c := 0) (s := 1) rfl (by simp) (by omega) ?_
  refine g_append1 3 (bs l) rfl rfl rfl rfl rfl rfl rfl rfl rfl (fun w' hm => hr.mem0 hm) (by rw [bs_length, hn]) (oneCell_bs l) (by omega) (by omega) (fun p' c' => ?_)
  refine g_pu rfl rfl rfl (pu_assign rfl rfl) ?_
  refine g_nil ?_
  exact g_ret1 rfl rfl (fun w' hm => ⟨⟨p', c'⟩, trivial, by simp [Ow.sl], hm.grows [3] ⟨rfl, trivial⟩ rfl⟩)

/-! ## Padding -/
def padE (n : Nat) (z : Int) : Int := if z < 0 ∨ z > 16777216 then 1 else if (n : Int) > z then 2 else 0
def padL (l : List (BitVec 8)) (z : Int) : List (BitVec 8) := if padE l.length z = 0 then l ++ List.replicate (z.toNat - l.length) 0#8 else []

theorem Pad_spec (w : World) (p : Option Addr) (n c : Nat) (l : List (BitVec 8)) (z : Int) (hr : RdV w p (bs l)) (hn : l.length = n) (hbig : n ≤ 140737488355328) :
    Spec Try.prog 102 #[.slice p n c, .int .i64 z] w (σ := Ow) (fun _ => True) (fun x => .tuple #[x.sl (padL l z).length, .int .i64 (padE n z)]) Nob (fun x => [x.ck 5 1 (bs (padL l z))]) := by
  refine enter Try.func102 rfl rfl (Mem.start w) ?_
  (repeat refine g_seq ?_)
  refine g_region ?_
  refine g_pu rfl rfl rfl (pu_assign rfl rfl) ?_
  refine g_pu rfl rfl rfl (pu_assign rfl rfl) ?_
  refine g_nil ?_
  by_cases h1 : z < 0
  · (repeat refine g_seq ?_)
    refine g_region ?_
    refine g_pu rfl rfl rfl (pu_move rfl rfl) ?_
    first | refine g_pu rfl rfl rfl (pu_lss_t rfl rfl rfl (by omega)) ?_ | refine g_pu rfl rfl rfl (pu_lss_f rfl rfl rfl (by omega)) ?_ | refine g_pu rfl rfl rfl (pu_lss rfl rfl rfl) ?_
    refine g_pu rfl rfl rfl (pu_move rfl rfl) ?_
    first | refine g_pass rfl rfl rfl ?_ | refine g_pu rfl rfl rfl (pu_move rfl rfl) ?_
    first | refine g_pass rfl rfl rfl ?_ | refine g_pu rfl rfl rfl (pu_gtr_t rfl rfl rfl (by omega)) ?_ | refine g_pu rfl rfl rfl (pu_gtr_f rfl rfl rfl (by omega)) ?_ | refine g_pu rfl rfl rfl (pu_gtr rfl rfl rfl) ?_
    first | refine g_pu rfl rfl rfl (pu_pick_t rfl rfl rfl) ?_ | refine g_pu rfl rfl rfl (pu_pick_f rfl rfl rfl) ?_
    refine g_nil ?_
    refine g_cond_t rfl ?_
    (repeat refine g_seq ?_)
    refine g_region ?_
    refine g_pu rfl rfl rfl (pu_assign rfl rfl) ?_
    refine g_pu rfl rfl rfl (pu_assign rfl rfl) ?_
    refine g_nil ?_
    refine g_nilOwn 90 5 1 rfl (g_ret2 rfl rfl rfl (fun w' hm => ?_))
    have hE : padE n z = 1 := by simp [padE, h1]
    have hL : padL l z = [] := by simp [padL, hn, hE]
    exact ⟨⟨none, 0⟩, trivial, by rw [hL, hE]; rfl, by rw [hL]; exact hm.grows [90] ⟨rfl, trivial⟩ rfl⟩
  · by_cases h2 : z > 16777216
    · (repeat refine g_seq ?_)
      refine g_region ?_
      refine g_pu rfl rfl rfl (pu_move rfl rfl) ?_
      first | refine g_pu rfl rfl rfl (pu_lss_t rfl rfl rfl (by omega)) ?_ | refine g_pu rfl rfl rfl (pu_lss_f rfl rfl rfl (by omega)) ?_ | refine g_pu rfl rfl rfl (pu_lss rfl rfl rfl) ?_
      refine g_pu rfl rfl rfl (pu_move rfl rfl) ?_
      first | refine g_pass rfl rfl rfl ?_ | refine g_pu rfl rfl rfl (pu_move rfl rfl) ?_
      first | refine g_pass rfl rfl rfl ?_ | refine g_pu rfl rfl rfl (pu_gtr_t rfl rfl rfl (by omega)) ?_ | refine g_pu rfl rfl rfl (pu_gtr_f rfl rfl rfl (by omega)) ?_ | refine g_pu rfl rfl rfl (pu_gtr rfl rfl rfl) ?_
      first | refine g_pu rfl rfl rfl (pu_pick_t rfl rfl rfl) ?_ | refine g_pu rfl rfl rfl (pu_pick_f rfl rfl rfl) ?_
      refine g_nil ?_
      refine g_cond_t rfl ?_
      (repeat refine g_seq ?_)
      refine g_region ?_
      refine g_pu rfl rfl rfl (pu_assign rfl rfl) ?_
      refine g_pu rfl rfl rfl (pu_assign rfl rfl) ?_
      refine g_nil ?_
      refine g_nilOwn 90 5 1 rfl (g_ret2 rfl rfl rfl (fun w' hm => ?_))
      have hE : padE n z = 1 := by simp [padE, h2]
      have hL : padL l z = [] := by simp [padL, hn, hE]
      exact ⟨⟨none, 0⟩, trivial, by rw [hL, hE]; rfl, by rw [hL]; exact hm.grows [90] ⟨rfl, trivial⟩ rfl⟩
    · (repeat refine g_seq ?_)
      refine g_region ?_
      refine g_pu rfl rfl rfl (pu_move rfl rfl) ?_
      first | refine g_pu rfl rfl rfl (pu_lss_t rfl rfl rfl (by omega)) ?_ | refine g_pu rfl rfl rfl (pu_lss_f rfl rfl rfl (by omega)) ?_ | refine g_pu rfl rfl rfl (pu_lss rfl rfl rfl) ?_
      refine g_pu rfl rfl rfl (pu_move rfl rfl) ?_
      first | refine g_pass rfl rfl rfl ?_ | refine g_pu rfl rfl rfl (pu_move rfl rfl) ?_
      first | refine g_pass rfl rfl rfl ?_ | refine g_pu rfl rfl rfl (pu_gtr_t rfl rfl rfl (by omega)) ?_ | refine g_pu rfl rfl rfl (pu_gtr_f rfl rfl rfl (by omega)) ?_ | refine g_pu rfl rfl rfl (pu_gtr rfl rfl rfl) ?_
      first | refine g_pu rfl rfl rfl (pu_pick_t rfl rfl rfl) ?_ | refine g_pu rfl rfl rfl (pu_pick_f rfl rfl rfl) ?_
      refine g_nil ?_
      refine g_cond_f rfl (g_skip ?_)
      by_cases h3 : (n : Int) > z
      · (repeat refine g_seq ?_)
        refine g_region ?_
        refine g_pu rfl rfl rfl (pu_move rfl rfl) ?_
        first | refine g_pu rfl rfl rfl (pu_len rfl rfl) ?_ | refine g_pu rfl rfl rfl (pu_lenS rfl rfl) ?_
        refine g_pu rfl rfl rfl (pu_move rfl rfl) ?_
        first | refine g_pu rfl rfl rfl (pu_gtr_t rfl rfl rfl (by omega)) ?_ | refine g_pu rfl rfl rfl (pu_gtr_f rfl rfl rfl (by omega)) ?_ | refine g_pu rfl rfl rfl (pu_gtr rfl rfl rfl) ?_
        refine g_nil ?_
        refine g_cond_t rfl ?_
        (repeat refine g_seq ?_)
        refine g_region ?_
        refine g_pu rfl rfl rfl (pu_assign rfl rfl) ?_
        refine g_pu rfl rfl rfl (pu_assign rfl rfl) ?_
        refine g_nil ?_
        refine g_nilOwn 90 5 1 rfl (g_ret2 rfl rfl rfl (fun w' hm => ?_))
        have hE : padE n z = 2 := by simp [padE, h1, h2, h3]
        have hL : padL l z = [] := by simp [padL, hn, hE]
        exact ⟨⟨none, 0⟩, trivial, by rw [hL, hE]; rfl, by rw [hL]; exact hm.grows [90] ⟨rfl, trivial⟩ rfl⟩
      · obtain ⟨k, rfl⟩ := Int.eq_ofNat_of_zero_le (show 0 ≤ z by omega)
        (repeat refine g_seq ?_)
        refine g_region ?_
        refine g_pu rfl rfl rfl (pu_move rfl rfl) ?_
        first | refine g_pu rfl rfl rfl (pu_len rfl rfl) ?_ | refine g_pu rfl rfl rfl (pu_lenS rfl rfl) ?_
        refine g_pu rfl rfl rfl (pu_move rfl rfl) ?_
        first | refine g_pu rfl rfl rfl (pu_gtr_t rfl rfl rfl (by omega)) ?_ | refine g_pu rfl rfl rfl (pu_gtr_f rfl rfl rfl (by omega)) ?_ | refine g_pu rfl rfl rfl (pu_gtr rfl rfl rfl) ?_
        refine g_nil ?_
        refine g_cond_f rfl (g_skip ?_)
        (repeat refine g_seq ?_)
        refine g_region ?_
        refine g_pu rfl rfl rfl (pu_move rfl rfl) ?_
        refine g_lo [18] rfl rfl rfl rfl (lo_make (n := k) (c := k) rfl rfl rfl (by omega) (by omega) (by omega) rfl) (fun b18 hb18 => ?_)
        refine g_pu rfl rfl rfl (pu_assign rfl rfl) ?_
        refine g_nil ?_
        (repeat refine g_seq ?_)
        refine g_region ?_
        refine g_pu rfl rfl rfl (pu_move rfl rfl) ?_
        refine g_pu rfl rfl rfl (pu_move rfl rfl) ?_
        refine g_copy 18 (bs l) rfl rfl rfl rfl rfl rfl rfl (fun w' hm => hr.mem0 hm) (by rw [bs_length, hn]) (by simp) (oneCell_bs l) ?_
        refine g_nil ?_
        (repeat refine g_seq ?_)
        refine g_region ?_
        refine g_pu rfl rfl rfl (pu_move rfl rfl) ?_
        refine g_pu rfl rfl rfl (pu_assign rfl rfl) ?_
        refine g_pu rfl rfl rfl (pu_assign rfl rfl) ?_
        refine g_nil ?_
        have hE : padE n (k : Int) = 0 := by simp [padE]; omega
        have hL : padL l (k : Int) = l ++ List.replicate (k - n) 0#8 := by simp [padL, hn, hE]
        have hmin : Nat.min n k = n := Nat.min_eq_left (by omega)
        have hrow : (List.replicate k (b8 0#8)).take 0 ++ (bs l).take (Nat.min n k) ++ (List.replicate k (b8 0#8)).drop (0 + Nat.min n k) = bs (padL l k) ++ [] := by
          have ht : (bs l).take n = bs l := List.take_of_length_le (by rw [bs_length]; omega)
          rw [hmin, hL, ht]
          simp [bs]
        have hlen : (padL l (k : Int)).length = k := by rw [hL]; simp; omega
        refine g_own 18 (L := bs (padL l k)) (J := []) (c := k) (s := 1) (congrArg (fun L => some (Ck.pt b18 (.cells (List.toArray L) 5 (0, 0)))) hrow) (by simp [bs_length, hlen]) (by omega) ?_
        exact g_ret2 rfl rfl rfl (fun w' hm => ⟨⟨some ⟨b18, 0, none⟩, k⟩, trivial, by rw [hlen, hE]; rfl, hm.grows [18] ⟨rfl, trivial⟩ rfl⟩)

end Go.Sx

/-
  Contracts in the words of 'By': copy, equality, padding. Looks of the codec and of its reference.
-/
namespace Go.Sx
open Go Go.Proofs

theorem Copy_b (w : World) {p : Option Addr} {n : Nat} (c : Nat) {l : List (BitVec 8)} (h : By w p n l) :
    Spec Try.prog 89 #[.slice p n c] w (σ := Ow) (fun _ => True) (fun x => x.sl n) Nob (fun x => [x.ck 5 1 (bs l)]) := Copy_spec w p n c l h.rd h.len h.big
def looksN (a b : List (BitVec 8)) : Int := if a.length = b.length then a.length else 0

theorem Looks_b (w : World) {p q : Option Addr} {n m : Nat} (c d : Nat) {a b : List (BitVec 8)} (ha : By w p n a) (hb : By w q m b) :
    Spec Try.prog 122 #[.slice p n c, .slice q m d] w (σ := Unit) (fun _ => True) (fun _ => .tuple #[.bool (decide (a = b)), .int .i64 (looksN a b)]) Nob (fun _ => []) := by
  refine enter Try.func122 rfl rfl (Mem.start w) ?_
  have hn := ha.len
  have hm := hb.len
  have hbig := ha.big
  (repeat refine g_seq ?_)
  refine g_region ?_
  refine g_pu rfl rfl rfl (pu_assign rfl rfl) ?_
  refine g_pu rfl rfl rfl (pu_assign rfl rfl) ?_
  refine g_nil ?_
  (repeat refine g_seq ?_)
  refine g_region ?_
  refine g_pu rfl rfl rfl (pu_move rfl rfl) ?_
  first | refine g_pu rfl rfl rfl (pu_len rfl rfl) ?_ | refine g_pu rfl rfl rfl (pu_lenS rfl rfl) ?_
  refine g_pu rfl rfl rfl (pu_move rfl rfl) ?_
  first | refine g_pu rfl rfl rfl (pu_len rfl rfl) ?_ | refine g_pu rfl rfl rfl (pu_lenS rfl rfl) ?_
  first | refine g_pu rfl rfl rfl (pu_neq_t rfl rfl rfl (by omega)) ?_ | refine g_pu rfl rfl rfl (pu_neq_f rfl rfl rfl (by omega)) ?_ | refine g_pu rfl rfl rfl (pu_neq rfl rfl rfl) ?_
  refine g_nil ?_
  refine g_if rfl (fun h => ?_) (fun h => g_skip ?_)
  · (repeat refine g_seq ?_)
    refine g_region ?_
    refine g_pu rfl rfl rfl (pu_assign rfl rfl) ?_
    refine g_pu rfl rfl rfl (pu_assign rfl rfl) ?_
    refine g_nil ?_
    refine g_ret2 rfl rfl rfl (fun w' hm' => ⟨(), trivial, ?_, hm'.grows [] trivial rfl⟩)
    have h1 : ¬ a.length = b.length := by omega
    have h2 : ¬ a = b := by rintro rfl; exact h1 rfl
    simp [looksN, h1, h2]
  · have hnm : n = m := by omega
    subst hnm
    (repeat refine g_seq ?_)
    refine g_region ?_
    refine g_pu rfl rfl rfl (pu_assign (v := b8 0#8) rfl rfl) ?_
    refine g_pu rfl rfl rfl (pu_assign rfl rfl) ?_
    refine g_nil ?_
    (repeat refine g_seq ?_)
    refine g_region ?_
    refine g_pu rfl rfl rfl (pu_move rfl rfl) ?_
    first | refine g_pu rfl rfl rfl (pu_len rfl rfl) ?_ | refine g_pu rfl rfl rfl (pu_lenS rfl rfl) ?_
    refine g_pu rfl rfl rfl (pu_move rfl rfl) ?_
    refine g_nil ?_
    refine g_block (g_loop2 (fun (i : Nat) (x : BitVec 8) => [(0, .slice p n c), (1, .slice q n d), (6, b8 x), (7, .int .i64 (i : Int)), (15, .int .i64 (n : Int)), (16, .int .i64 (i : Int))]) (fun _ _ => []) (fun i x => i ≤ n ∧ (x = 0#8 ↔ a.take i = b.take i)) (fun i _ => n - i) 0 0#8 ⟨rfl, rfl, rfl, rfl, rfl, rfl, trivial⟩ trivial (by simp) ?_)
    intro i x ⟨hi, hx⟩
    by_cases hlt : i < n
    · (repeat refine g_seq ?_)
      refine g_region ?_
      first | refine g_pu rfl rfl rfl (pu_lss_t rfl rfl rfl (by omega)) ?_ | refine g_pu rfl rfl rfl (pu_lss_f rfl rfl rfl (by omega)) ?_ | refine g_pu rfl rfl rfl (pu_lss rfl rfl rfl) ?_
      refine g_nil ?_
      refine g_seq (g_cond_t rfl (g_skip ?_))
      have h1 : a[i]? = some a[i] := List.getElem?_eq_getElem (by omega)
      have h2 : b[i]? = some b[i] := List.getElem?_eq_getElem (by omega)
      (repeat refine g_seq ?_); refine g_block ?_
      (repeat refine g_seq ?_)
      refine g_region ?_
      refine g_pu rfl rfl rfl (pu_move rfl rfl) ?_
      refine g_pu rfl rfl rfl (pu_assign rfl rfl) ?_
      refine g_nil ?_
      (repeat refine g_seq ?_)
      refine g_any (12, []) ?_
      refine a_pu 0 rfl rfl rfl rfl (pu_move rfl rfl) rfl rfl (by kernel_rfl) ?_
      refine a_pu 1 rfl rfl rfl rfl (pu_move rfl rfl) rfl rfl (by kernel_rfl) ?_
      refine a_pu 2 rfl rfl rfl rfl (pu_move rfl rfl) rfl rfl (by kernel_rfl) ?_
      refine a_pu 3 rfl rfl rfl rfl (pu_atR i ha.rd rfl rfl rfl rfl (by omega) (by rw [bs_length]; omega)) rfl rfl (by kernel_rfl) ?_
      refine a_pu 4 rfl rfl rfl rfl (pu_rd0 ha.rd rfl rfl (bs_get h1)) rfl rfl (by kernel_rfl) ?_
      refine a_pu 5 rfl rfl rfl rfl (pu_move rfl rfl) rfl rfl (by kernel_rfl) ?_
      refine a_pu 6 rfl rfl rfl rfl (pu_move rfl rfl) rfl rfl (by kernel_rfl) ?_
      refine a_pu 7 rfl rfl rfl rfl (pu_atR i hb.rd rfl rfl rfl rfl (by omega) (by rw [bs_length]; omega)) rfl rfl (by kernel_rfl) ?_
      refine a_pu 8 rfl rfl rfl rfl (pu_rd0 hb.rd rfl rfl (bs_get h2)) rfl rfl (by kernel_rfl) ?_
      refine a_pu 9 rfl rfl rfl rfl (pu_xor8 rfl rfl rfl) rfl rfl (by kernel_rfl) ?_
      refine a_pu 10 rfl rfl rfl rfl (pu_or8 rfl rfl rfl) rfl rfl (by kernel_rfl) ?_
      refine a_pu 11 rfl rfl rfl rfl (pu_assign rfl rfl) rfl rfl (by kernel_rfl) ?_
      refine a_done (by kernel_rfl) ?_
      (repeat refine g_seq ?_)
      refine g_region ?_
      refine g_pu rfl rfl rfl (pu_move rfl rfl) ?_
      refine g_pu rfl rfl rfl (pu_addI rfl rfl rfl (by omega)) ?_
      refine g_pu rfl rfl rfl (pu_assign rfl rfl) ?_
      refine g_nil ?_
      refine g_blk ?_
      (repeat refine g_seq ?_)
      refine g_region ?_
      refine g_pu rfl rfl rfl (pu_addI rfl rfl rfl (by omega)) ?_
      refine g_pu rfl rfl rfl (pu_move rfl rfl) ?_
      refine g_nil ?_
      refine g_round2 (i + 1) (x ||| (a[i] ^^^ b[i])) ⟨by omega, ?_⟩ (by omega) ⟨rfl, rfl, rfl, rfl, rfl, rfl, trivial⟩ trivial
      rw [List.take_add_one, List.take_add_one, h1, h2]
      have e1 : (x ||| (a[i] ^^^ b[i]) = 0#8) ↔ (x = 0#8 ∧ a[i] = b[i]) := by
        generalize a[i] = u
        generalize b[i] = v
        constructor
        · intro h
          have hx0 : x = 0#8 := by
            apply BitVec.eq_of_getElem_eq
            intro j hj
            have := congrArg (fun y => y[j]) h
            simp at this
            simp [this.1]
          have hu : u ^^^ v = 0#8 := by
            apply BitVec.eq_of_getElem_eq
            intro j hj
            have := congrArg (fun y => y[j]) h
            simp at this
            simp [this.2]
          exact ⟨hx0, by simpa using hu⟩
        · rintro ⟨rfl, rfl⟩; simp
      rw [e1, hx]
      constructor
      · rintro ⟨e2, e3⟩; rw [e2, e3]
      · intro e2
        have := List.append_inj e2 (by simp; omega)
        exact ⟨this.1, by simpa using this.2⟩
    · (repeat refine g_seq ?_)
      refine g_region ?_
      first | refine g_pu rfl rfl rfl (pu_lss_t rfl rfl rfl (by omega)) ?_ | refine g_pu rfl rfl rfl (pu_lss_f rfl rfl rfl (by omega)) ?_ | refine g_pu rfl rfl rfl (pu_lss rfl rfl rfl) ?_
      refine g_nil ?_
      refine g_seq (g_cond_f rfl (g_exit rfl ?_))
      (repeat refine g_seq ?_)
      refine g_region ?_
      refine g_pu rfl rfl rfl (pu_move rfl rfl) ?_
      first | refine g_pu rfl rfl rfl (pu_eql8_t (b := 0#8) rfl rfl rfl (by first | rfl | assumption | decide)) ?_ | refine g_pu rfl rfl rfl (pu_eql8_f (b := 0#8) rfl rfl rfl (by first | assumption | decide)) ?_ | refine g_pu rfl rfl rfl (pu_eql8 (b := 0#8) rfl rfl rfl) ?_
      refine g_pu rfl rfl rfl (pu_move rfl rfl) ?_
      refine g_pu rfl rfl rfl (pu_assign rfl rfl) ?_
      refine g_pu rfl rfl rfl (pu_assign rfl rfl) ?_
      refine g_nil ?_
      refine g_ret2 rfl rfl rfl (fun w' hm' => ⟨(), trivial, ?_, hm'.grows [] trivial rfl⟩)
      have e : i = n := by omega
      subst e
      rw [List.take_of_length_le (by omega), List.take_of_length_le (by omega)] at hx
      simp [looksN, ha.len, hb.len, hx]

theorem Same_b (w : World) {p q : Option Addr} {n m : Nat} (c d : Nat) {a b : List (BitVec 8)} (ha : By w p n a) (hb : By w q m b) :
    Spec Try.prog 85 #[.slice p n c, .slice q m d] w (σ := Unit) (fun _ => True) (fun _ => .bool (decide (a = b))) Nob (fun _ => []) := by
  refine enter Try.func85 rfl rfl (Mem.start w) ?_
  (repeat refine g_seq ?_)
  refine g_region ?_
  refine g_pu rfl rfl rfl (pu_assign rfl rfl) ?_
  refine g_nil ?_
  (repeat refine g_seq ?_)
  refine g_region ?_
  refine g_pu rfl rfl rfl (pu_move rfl rfl) ?_
  refine g_pu rfl rfl rfl (pu_move rfl rfl) ?_
  refine g_call [] rfl rfl rfl rfl rfl rfl (fun w' hm => Looks_b w' c d (ha.m hm) (hb.m hm)) (fun _ _ => ?_)
  refine g_pu rfl rfl rfl (pu_move rfl rfl) ?_
  refine g_pu rfl rfl rfl (pu_extract rfl rfl rfl) ?_
  refine g_pu rfl rfl rfl (pu_extract rfl rfl rfl) ?_
  refine g_pu rfl rfl rfl (pu_assign rfl rfl) ?_
  refine g_pu rfl rfl rfl (pu_assign rfl rfl) ?_
  refine g_nil ?_
  (repeat refine g_seq ?_)
  refine g_region ?_
  refine g_pu rfl rfl rfl (pu_move rfl rfl) ?_
  refine g_pu rfl rfl rfl (pu_assign rfl rfl) ?_
  refine g_nil ?_
  exact g_ret1 rfl rfl (fun w' hm => ⟨(), trivial, rfl, hm.grows [] trivial rfl⟩)

end Go.Sx

/-
  Reading a number out of bytes: the codec's way and its reference's way come to the same. The order is 1 or 2, the width 1 to 8.
-/
namespace Go.Sx
open Go Go.Proofs

abbrev ShapeOk (o z : Int) : Prop := (o = 1 ∨ o = 2) ∧ 1 ≤ z ∧ z ≤ 8

theorem shape_b (w : World) (o z : Int) : Spec Try.prog 120 #[.int .i64 o, .int .i64 z] w (σ := Unit) (fun _ => True) (fun _ => .int .i64 (if ShapeOk o z then 0 else 1)) Nob (fun _ => []) := by
  refine enter Try.func120 rfl rfl (Mem.start w) ?_
  (repeat refine g_seq ?_)
  refine g_region ?_
  refine g_pu rfl rfl rfl (pu_assign rfl rfl) ?_
  refine g_nil ?_
  by_cases h : ShapeOk o z
  · have h1 : 1 ≤ z := h.2.1
    have h2 : z ≤ 8 := h.2.2
    rcases h.1 with h3 | h3 <;> (
      (repeat refine g_seq ?_)
      refine g_region ?_
      refine g_pu rfl rfl rfl (pu_move rfl rfl) ?_
      first | refine g_pu rfl rfl rfl (pu_neq_t rfl rfl rfl (by omega)) ?_ | refine g_pu rfl rfl rfl (pu_neq_f rfl rfl rfl (by omega)) ?_ | refine g_pu rfl rfl rfl (pu_neq rfl rfl rfl) ?_
      refine g_pu rfl rfl rfl (pu_move rfl rfl) ?_
      first | refine g_pass rfl rfl rfl ?_ | refine g_pu rfl rfl rfl (pu_move rfl rfl) ?_
      first | refine g_pass rfl rfl rfl ?_ | refine g_pu rfl rfl rfl (pu_neq_t rfl rfl rfl (by omega)) ?_ | refine g_pu rfl rfl rfl (pu_neq_f rfl rfl rfl (by omega)) ?_ | refine g_pu rfl rfl rfl (pu_neq rfl rfl rfl) ?_
      first | refine g_pu rfl rfl rfl (pu_pick_t rfl rfl rfl) ?_ | refine g_pu rfl rfl rfl (pu_pick_f rfl rfl rfl) ?_
      refine g_pu rfl rfl rfl (pu_move rfl rfl) ?_
      first | refine g_pass rfl rfl rfl ?_ | refine g_pu rfl rfl rfl (pu_move rfl rfl) ?_
      first | refine g_pass rfl rfl rfl ?_ | refine g_pu rfl rfl rfl (pu_lss_t rfl rfl rfl (by omega)) ?_ | refine g_pu rfl rfl rfl (pu_lss_f rfl rfl rfl (by omega)) ?_ | refine g_pu rfl rfl rfl (pu_lss rfl rfl rfl) ?_
      first | refine g_pu rfl rfl rfl (pu_pick_t rfl rfl rfl) ?_ | refine g_pu rfl rfl rfl (pu_pick_f rfl rfl rfl) ?_
      refine g_pu rfl rfl rfl (pu_move rfl rfl) ?_
      first | refine g_pass rfl rfl rfl ?_ | refine g_pu rfl rfl rfl (pu_move rfl rfl) ?_
      first | refine g_pass rfl rfl rfl ?_ | refine g_pu rfl rfl rfl (pu_gtr_t rfl rfl rfl (by omega)) ?_ | refine g_pu rfl rfl rfl (pu_gtr_f rfl rfl rfl (by omega)) ?_ | refine g_pu rfl rfl rfl (pu_gtr rfl rfl rfl) ?_
      first | refine g_pu rfl rfl rfl (pu_pick_t rfl rfl rfl) ?_ | refine g_pu rfl rfl rfl (pu_pick_f rfl rfl rfl) ?_
      refine g_nil ?_
      (repeat refine g_seq ?_)
      refine g_cond_f rfl (g_skip ?_)
      (repeat refine g_seq ?_)
      refine g_region ?_
      refine g_pu rfl rfl rfl (pu_assign rfl rfl) ?_
      refine g_nil ?_
      exact g_ret1 rfl rfl (fun w' hm => ⟨(), trivial, by rw [if_pos h], hm.grows [] trivial rfl⟩))
  · by_cases h1 : o = 1 <;> by_cases h2 : o = 2 <;> by_cases h3 : z < 1 <;> by_cases h4 : z > 8 <;> first | exact absurd ⟨by first | exact .inl h1 | exact .inr h2, by omega, by omega⟩ h | (
      (repeat refine g_seq ?_)
      refine g_region ?_
      refine g_pu rfl rfl rfl (pu_move rfl rfl) ?_
      first | refine g_pu rfl rfl rfl (pu_neq_t rfl rfl rfl (by omega)) ?_ | refine g_pu rfl rfl rfl (pu_neq_f rfl rfl rfl (by omega)) ?_ | refine g_pu rfl rfl rfl (pu_neq rfl rfl rfl) ?_
      refine g_pu rfl rfl rfl (pu_move rfl rfl) ?_
      first | refine g_pass rfl rfl rfl ?_ | refine g_pu rfl rfl rfl (pu_move rfl rfl) ?_
      first | refine g_pass rfl rfl rfl ?_ | refine g_pu rfl rfl rfl (pu_neq_t rfl rfl rfl (by omega)) ?_ | refine g_pu rfl rfl rfl (pu_neq_f rfl rfl rfl (by omega)) ?_ | refine g_pu rfl rfl rfl (pu_neq rfl rfl rfl) ?_
      first | refine g_pu rfl rfl rfl (pu_pick_t rfl rfl rfl) ?_ | refine g_pu rfl rfl rfl (pu_pick_f rfl rfl rfl) ?_
      refine g_pu rfl rfl rfl (pu_move rfl rfl) ?_
      first | refine g_pass rfl rfl rfl ?_ | refine g_pu rfl rfl rfl (pu_move rfl rfl) ?_
      first | refine g_pass rfl rfl rfl ?_ | refine g_pu rfl rfl rfl (pu_lss_t rfl rfl rfl (by omega)) ?_ | refine g_pu rfl rfl rfl (pu_lss_f rfl rfl rfl (by omega)) ?_ | refine g_pu rfl rfl rfl (pu_lss rfl rfl rfl) ?_
      first | refine g_pu rfl rfl rfl (pu_pick_t rfl rfl rfl) ?_ | refine g_pu rfl rfl rfl (pu_pick_f rfl rfl rfl) ?_
      refine g_pu rfl rfl rfl (pu_move rfl rfl) ?_
      first | refine g_pass rfl rfl rfl ?_ | refine g_pu rfl rfl rfl (pu_move rfl rfl) ?_
      first | refine g_pass rfl rfl rfl ?_ | refine g_pu rfl rfl rfl (pu_gtr_t rfl rfl rfl (by omega)) ?_ | refine g_pu rfl rfl rfl (pu_gtr_f rfl rfl rfl (by omega)) ?_ | refine g_pu rfl rfl rfl (pu_gtr rfl rfl rfl) ?_
      first | refine g_pu rfl rfl rfl (pu_pick_t rfl rfl rfl) ?_ | refine g_pu rfl rfl rfl (pu_pick_f rfl rfl rfl) ?_
      refine g_nil ?_
      (repeat refine g_seq ?_)
      refine g_cond_t rfl ?_
      (repeat refine g_seq ?_)
      refine g_region ?_
      refine g_pu rfl rfl rfl (pu_assign rfl rfl) ?_
      refine g_nil ?_
      exact g_ret1 rfl rfl (fun w' hm => ⟨(), trivial, by rw [if_neg h], hm.grows [] trivial rfl⟩))

theorem rshape_b (w : World) (o z : Int) : Spec Try.prog 176 #[.int .i64 o, .int .i64 z] w (σ := Unit) (fun _ => True) (fun _ => .bool (decide (ShapeOk o z))) Nob (fun _ => []) := by
  refine enter Try.func176 rfl rfl (Mem.start w) ?_
  (repeat refine g_seq ?_)
  refine g_region ?_
  refine g_pu rfl rfl rfl (pu_assign rfl rfl) ?_
  refine g_nil ?_
  by_cases h1 : o = 1 <;> by_cases h2 : o = 2 <;> by_cases h3 : z < 1 <;> by_cases h4 : z > 8 <;> (
    (repeat refine g_seq ?_)
    refine g_region ?_
    refine g_pu rfl rfl rfl (pu_move rfl rfl) ?_
    first | refine g_pu rfl rfl rfl (pu_eql_t rfl rfl rfl (by omega)) ?_ | refine g_pu rfl rfl rfl (pu_eql_f rfl rfl rfl (by omega)) ?_ | refine g_pu rfl rfl rfl (pu_eql rfl rfl rfl) ?_
    refine g_pu rfl rfl rfl (pu_move rfl rfl) ?_
    first | refine g_pass rfl rfl rfl ?_ | refine g_pu rfl rfl rfl (pu_move rfl rfl) ?_
    first | refine g_pass rfl rfl rfl ?_ | refine g_pu rfl rfl rfl (pu_eql_t rfl rfl rfl (by omega)) ?_ | refine g_pu rfl rfl rfl (pu_eql_f rfl rfl rfl (by omega)) ?_ | refine g_pu rfl rfl rfl (pu_eql rfl rfl rfl) ?_
    first | refine g_pu rfl rfl rfl (pu_pick_t rfl rfl rfl) ?_ | refine g_pu rfl rfl rfl (pu_pick_f rfl rfl rfl) ?_
    refine g_pu rfl rfl rfl (pu_move rfl rfl) ?_
    first | refine g_pass rfl rfl rfl ?_ | refine g_pu rfl rfl rfl (pu_move rfl rfl) ?_
    first | refine g_pass rfl rfl rfl ?_ | refine g_pu rfl rfl rfl (pu_geq_t rfl rfl rfl (by omega)) ?_ | refine g_pu rfl rfl rfl (pu_geq_f rfl rfl rfl (by omega)) ?_ | refine g_pu rfl rfl rfl (pu_geq rfl rfl rfl) ?_
    first | refine g_pu rfl rfl rfl (pu_pick_t rfl rfl rfl) ?_ | refine g_pu rfl rfl rfl (pu_pick_f rfl rfl rfl) ?_
    refine g_pu rfl rfl rfl (pu_move rfl rfl) ?_
    first | refine g_pass rfl rfl rfl ?_ | refine g_pu rfl rfl rfl (pu_move rfl rfl) ?_
    first | refine g_pass rfl rfl rfl ?_ | refine g_pu rfl rfl rfl (pu_leq_t rfl rfl rfl (by omega)) ?_ | refine g_pu rfl rfl rfl (pu_leq_f rfl rfl rfl (by omega)) ?_ | refine g_pu rfl rfl rfl (pu_leq rfl rfl rfl) ?_
    first | refine g_pu rfl rfl rfl (pu_pick_t rfl rfl rfl) ?_ | refine g_pu rfl rfl rfl (pu_pick_f rfl rfl rfl) ?_
    refine g_pu rfl rfl rfl (pu_assign rfl rfl) ?_
    refine g_nil ?_
    refine g_ret1 rfl rfl (fun w' hm => ⟨(), trivial, ?_, hm.grows [] trivial rfl⟩)
    first | exact congrArg (fun b => Ending.returned (.bool b)) (decide_eq_true (by unfold ShapeOk; omega)).symm | exact congrArg (fun b => Ending.returned (.bool b)) (decide_eq_false (by unfold ShapeOk; omega)).symm)

/-! ## The plain law -/
def beV (r : List (BitVec 8)) : BitVec 64 := r.foldl (fun n b => (n <<< 8) ||| b.setWidth 64) 0#64
def leV : List (BitVec 8) → BitVec 64
  | [] => 0#64
  | b :: t => b.setWidth 64 + 256#64 * leV t
def win (l : List (BitVec 8)) (t z : Nat) : List (BitVec 8) := (l.drop t).take z
def rdS (o : Int) (s : List (BitVec 8)) : List (BitVec 8) := if o = 2 then s else s.reverse
def getE (o : Int) (n : Nat) (t z : Int) : Int := if ¬ ShapeOk o z ∨ t < 0 then 1 else if (n : Int) < t + z then 2 else 0
def getV (o : Int) (l : List (BitVec 8)) (t z : Int) : BitVec 64 := if getE o l.length t z = 0 then beV (rdS o (win l t.toNat z.toNat)) else 0#64

theorem or_add (n : BitVec 64) (b : BitVec 8) : (n <<< 8) ||| b.setWidth 64 = b.setWidth 64 + 256#64 * n := by
  have h : (n <<< 8) &&& b.setWidth 64 = 0#64 := by
    apply BitVec.eq_of_getLsbD_eq
    intro i hi
    by_cases h : i < 8
    · simp [h]
    · simp [BitVec.getLsbD_of_ge b i (by omega)]
  rw [← BitVec.add_eq_or_of_and_eq_zero _ _ h, BitVec.add_comm]
  congr 1
  rw [BitVec.shiftLeft_eq_mul_twoPow, BitVec.mul_comm]
  rfl
theorem beV_snoc (r : List (BitVec 8)) (b : BitVec 8) : beV (r ++ [b]) = (beV r <<< 8) ||| b.setWidth 64 := by simp [beV]
theorem leV_rev (r : List (BitVec 8)) : leV r = beV r.reverse := by
  induction r with
  | nil => rfl
  | cons b r ih => rw [List.reverse_cons, beV_snoc, or_add, ← ih]; rfl
theorem beV_rev (r : List (BitVec 8)) : beV r = leV r.reverse := by rw [leV_rev, List.reverse_reverse]
theorem leV_snoc (t : List (BitVec 8)) (b : BitVec 8) : leV (t ++ [b]) = leV t + (256#64 ^ t.length) * b.setWidth 64 := by
  induction t with
  | nil => simp [leV]
  | cons a t ih =>
    simp only [List.cons_append, leV, ih, List.length_cons]
    rw [BitVec.mul_add, BitVec.add_assoc, ← BitVec.mul_assoc, BitVec.pow_succ, BitVec.mul_comm (256#64 ^ t.length) 256#64]
theorem win_length {l : List (BitVec 8)} {t z : Nat} (h : t + z ≤ l.length) : (win l t z).length = z := by simp [win]; omega
theorem win_get {l : List (BitVec 8)} {t z i : Nat} (hi : i < z) : (win l t z)[i]? = l[t + i]? := by simp [win, List.getElem?_take, hi]
theorem rdS_length {o : Int} {s : List (BitVec 8)} : (rdS o s).length = s.length := by unfold rdS; split <;> simp
/-- The byte that is read in round i. -/
theorem rdS_get {o : Int} {l : List (BitVec 8)} {t z i : Nat} (h : t + z ≤ l.length) (hi : i < z) : (rdS o (win l t z))[i]? = l[if o = 2 then t + i else t + z - 1 - i]? := by
  unfold rdS
  split
  · exact win_get hi
  · rw [List.getElem?_reverse (by rw [win_length h]; exact hi), win_length h, win_get (by omega)]
    congr 1; omega
theorem rdSr_get {o : Int} {l : List (BitVec 8)} {t z i : Nat} (h : t + z ≤ l.length) (hi : i < z) : (rdS o (win l t z)).reverse[i]? = l[if o = 2 then t + z - 1 - i else t + i]? := by
  rw [List.getElem?_reverse (by rw [rdS_length, win_length h]; exact hi), rdS_length, win_length h, rdS_get h (by omega)]
  split <;> (congr 1; omega)

theorem Get_b (w : World) (o : Int) {p : Option Addr} {n : Nat} (c : Nat) {l : List (BitVec 8)} (t z : Int) (ha : By w p n l) :
    Spec Try.prog 97 #[.int .i64 o, .slice p n c, .int .i64 t, .int .i64 z] w (σ := Unit) (fun _ => True) (fun _ => .tuple #[b64 (getV o l t z), .int .i64 (getE o n t z)]) Nob (fun _ => []) := by
  refine enter Try.func97 rfl rfl (Mem.start w) ?_
  have hn := ha.len
  have hbig := ha.big
  (repeat refine g_seq ?_)
  refine g_region ?_
  refine g_pu rfl rfl rfl (pu_assign (v := b64 0#64) rfl rfl) ?_
  refine g_pu rfl rfl rfl (pu_assign rfl rfl) ?_
  refine g_nil ?_
  (repeat refine g_seq ?_)
  refine g_region ?_
  refine g_pu rfl rfl rfl (pu_move rfl rfl) ?_
  refine g_pu rfl rfl rfl (pu_move rfl rfl) ?_
  refine g_call [] rfl rfl rfl rfl rfl rfl (fun w' hm => shape_b w' o z) (fun _ _ => ?_)
  refine g_pu rfl rfl rfl (pu_assign rfl rfl) ?_
  refine g_nil ?_
  by_cases hs : ShapeOk o z
  · rw [if_pos hs]
    have hz := hs.2
    by_cases ht : t < 0
    · (repeat refine g_seq ?_)
      refine g_region ?_
      refine g_pu rfl rfl rfl (pu_move rfl rfl) ?_
      first | refine g_pu rfl rfl rfl (pu_neq_t rfl rfl rfl (by omega)) ?_ | refine g_pu rfl rfl rfl (pu_neq_f rfl rfl rfl (by omega)) ?_ | refine g_pu rfl rfl rfl (pu_neq rfl rfl rfl) ?_
      refine g_pu rfl rfl rfl (pu_move rfl rfl) ?_
      first | refine g_pass rfl rfl rfl ?_ | refine g_pu rfl rfl rfl (pu_move rfl rfl) ?_
      first | refine g_pass rfl rfl rfl ?_ | refine g_pu rfl rfl rfl (pu_lss_t rfl rfl rfl (by omega)) ?_ | refine g_pu rfl rfl rfl (pu_lss_f rfl rfl rfl (by omega)) ?_ | refine g_pu rfl rfl rfl (pu_lss rfl rfl rfl) ?_
      first | refine g_pu rfl rfl rfl (pu_pick_t rfl rfl rfl) ?_ | refine g_pu rfl rfl rfl (pu_pick_f rfl rfl rfl) ?_
      refine g_nil ?_
      (repeat refine g_seq ?_)
      refine g_cond_t rfl ?_
      (repeat refine g_seq ?_)
      refine g_region ?_
      refine g_pu rfl rfl rfl (pu_assign (v := b64 0#64) rfl rfl) ?_
      refine g_pu rfl rfl rfl (pu_assign rfl rfl) ?_
      refine g_nil ?_
      refine g_ret2 rfl rfl rfl (fun w' hm => ⟨(), trivial, ?_, hm.grows [] trivial rfl⟩)
      have he : getE o n t z = 1 := by simp [getE, ht]
      simp [getV, hn, he]
    · obtain ⟨t, rfl⟩ := Int.eq_ofNat_of_zero_le (show 0 ≤ t by omega)
      obtain ⟨z, rfl⟩ := Int.eq_ofNat_of_zero_le (show 0 ≤ z by omega)
      (repeat refine g_seq ?_)
      refine g_region ?_
      refine g_pu rfl rfl rfl (pu_move rfl rfl) ?_
      first | refine g_pu rfl rfl rfl (pu_neq_t rfl rfl rfl (by omega)) ?_ | refine g_pu rfl rfl rfl (pu_neq_f rfl rfl rfl (by omega)) ?_ | refine g_pu rfl rfl rfl (pu_neq rfl rfl rfl) ?_
      refine g_pu rfl rfl rfl (pu_move rfl rfl) ?_
      first | refine g_pass rfl rfl rfl ?_ | refine g_pu rfl rfl rfl (pu_move rfl rfl) ?_
      first | refine g_pass rfl rfl rfl ?_ | refine g_pu rfl rfl rfl (pu_lss_t rfl rfl rfl (by omega)) ?_ | refine g_pu rfl rfl rfl (pu_lss_f rfl rfl rfl (by omega)) ?_ | refine g_pu rfl rfl rfl (pu_lss rfl rfl rfl) ?_
      first | refine g_pu rfl rfl rfl (pu_pick_t rfl rfl rfl) ?_ | refine g_pu rfl rfl rfl (pu_pick_f rfl rfl rfl) ?_
      refine g_nil ?_
      (repeat refine g_seq ?_)
      refine g_cond_f rfl (g_skip ?_)
      by_cases hr : t + z ≤ n
      · (repeat refine g_seq ?_)
        refine g_region ?_
        refine g_pu rfl rfl rfl (pu_move rfl rfl) ?_
        refine g_pu rfl rfl rfl (pu_move rfl rfl) ?_
        first | refine g_pu rfl rfl rfl (pu_len rfl rfl) ?_ | refine g_pu rfl rfl rfl (pu_lenS rfl rfl) ?_
        first | refine g_pu rfl rfl rfl (pu_gtr_t rfl rfl rfl (by omega)) ?_ | refine g_pu rfl rfl rfl (pu_gtr_f rfl rfl rfl (by omega)) ?_ | refine g_pu rfl rfl rfl (pu_gtr rfl rfl rfl) ?_
        refine g_pu rfl rfl rfl (pu_move rfl rfl) ?_
        first | refine g_pass rfl rfl rfl ?_ | refine g_pu rfl rfl rfl (pu_move rfl rfl) ?_
        first | refine g_pass rfl rfl rfl ?_ | refine g_pu rfl rfl rfl (pu_move rfl rfl) ?_
        first | refine g_pass rfl rfl rfl ?_ | refine g_pu rfl rfl rfl (pu_len rfl rfl) ?_ | refine g_pu rfl rfl rfl (pu_lenS rfl rfl) ?_
        first | refine g_pass rfl rfl rfl ?_ | refine g_pu rfl rfl rfl (pu_move rfl rfl) ?_
        first | refine g_pass rfl rfl rfl ?_ | refine g_pu rfl rfl rfl (pu_subI rfl rfl rfl (by omega)) ?_
        first | refine g_pass rfl rfl rfl ?_ | refine g_pu rfl rfl rfl (pu_gtr_t rfl rfl rfl (by omega)) ?_ | refine g_pu rfl rfl rfl (pu_gtr_f rfl rfl rfl (by omega)) ?_ | refine g_pu rfl rfl rfl (pu_gtr rfl rfl rfl) ?_
        first | refine g_pu rfl rfl rfl (pu_pick_t rfl rfl rfl) ?_ | refine g_pu rfl rfl rfl (pu_pick_f rfl rfl rfl) ?_
        refine g_nil ?_
        (repeat refine g_seq ?_)
        refine g_cond_f rfl (g_skip ?_)
        have he : getE o n t z = 0 := by unfold getE; rw [if_neg (by omega), if_neg (by omega)]
        have hv : getV o l t z = beV (rdS o (win l t z)) := by simp [getV, hn, he]
        (repeat refine g_seq ?_)
        refine g_region ?_
        refine g_pu rfl rfl rfl (pu_assign (v := b64 0#64) rfl rfl) ?_
        refine g_nil ?_
        (repeat refine g_seq ?_)
        refine g_region ?_
        refine g_pu rfl rfl rfl (pu_move rfl rfl) ?_
        refine g_pu rfl rfl rfl (pu_move rfl rfl) ?_
        refine g_nil ?_
        refine g_block (g_loop2 (fun (i : Nat) (x : BitVec 64) => [(0, .int .i64 o), (1, .slice p n c), (2, .int .i64 (t : Int)), (3, .int .i64 (z : Int)), (11, b64 x), (35, .int .i64 (z : Int)), (36, .int .i64 (i : Int))]) (fun _ _ => []) (fun i x => i ≤ z ∧ x = beV ((rdS o (win l t z)).take i)) (fun i _ => z - i) 0 0#64 ⟨rfl, rfl, rfl, rfl, rfl, rfl, rfl, trivial⟩ trivial (by simp [beV]) ?_)
        intro i x ⟨hi, hx⟩
        by_cases hlt : i < z
        · (repeat refine g_seq ?_)
          refine g_region ?_
          first | refine g_pu rfl rfl rfl (pu_lss_t rfl rfl rfl (by omega)) ?_ | refine g_pu rfl rfl rfl (pu_lss_f rfl rfl rfl (by omega)) ?_ | refine g_pu rfl rfl rfl (pu_lss rfl rfl rfl) ?_
          refine g_nil ?_
          (repeat refine g_seq ?_)
          refine g_cond_t rfl (g_skip ?_)
          have hl := rdS_get (o := o) (l := l) (t := t) (z := z) (i := i) (by omega) hlt
          (repeat refine g_seq ?_); refine g_block ?_
          (repeat refine g_seq ?_)
          refine g_region ?_
          refine g_pu rfl rfl rfl (pu_move rfl rfl) ?_
          refine g_pu rfl rfl rfl (pu_assign rfl rfl) ?_
          refine g_nil ?_
          (repeat refine g_seq ?_)
          refine g_region ?_
          refine g_pu rfl rfl rfl (pu_move rfl rfl) ?_
          refine g_pu rfl rfl rfl (pu_move rfl rfl) ?_
          refine g_pu rfl rfl rfl (pu_addI rfl rfl rfl (by omega)) ?_
          refine g_pu rfl rfl rfl (pu_assign rfl rfl) ?_
          refine g_nil ?_
          refine g_seq ?_
          refine g_join (σ := Int) (fun k => [(0, .int .i64 o), (1, .slice p n c), (2, .int .i64 (t : Int)), (3, .int .i64 (z : Int)), (11, b64 x), (35, .int .i64 (z : Int)), (36, .int .i64 (i : Int)), (13, .int .i64 k)]) (fun _ => []) (fun k => k = if o = 2 then (t : Int) + i else t + z - 1 - i) ?_ (fun k hk => ?_)
          · rcases hs.1 with h1 | h1
            · (repeat refine g_seq ?_)
              refine g_region ?_
              refine g_pu rfl rfl rfl (pu_move rfl rfl) ?_
              first | refine g_pu rfl rfl rfl (pu_eql_t rfl rfl rfl (by omega)) ?_ | refine g_pu rfl rfl rfl (pu_eql_f rfl rfl rfl (by omega)) ?_ | refine g_pu rfl rfl rfl (pu_eql rfl rfl rfl) ?_
              refine g_nil ?_
              (repeat refine g_seq ?_)
              refine g_cond_t rfl ?_
              (repeat refine g_seq ?_)
              refine g_region ?_
              refine g_pu rfl rfl rfl (pu_move rfl rfl) ?_
              refine g_pu rfl rfl rfl (pu_move rfl rfl) ?_
              refine g_pu rfl rfl rfl (pu_addI rfl rfl rfl (by omega)) ?_
              refine g_pu rfl rfl rfl (pu_subI rfl rfl rfl (by omega)) ?_
              refine g_pu rfl rfl rfl (pu_move rfl rfl) ?_
              refine g_pu rfl rfl rfl (pu_subI rfl rfl rfl (by omega)) ?_
              refine g_pu rfl rfl rfl (pu_assign rfl rfl) ?_
              refine g_nil ?_
              exact g_meet _ (by rw [if_neg (by omega)]) ⟨rfl, rfl, rfl, rfl, rfl, rfl, rfl, rfl, trivial⟩ trivial
            · (repeat refine g_seq ?_)
              refine g_region ?_
              refine g_pu rfl rfl rfl (pu_move rfl rfl) ?_
              first | refine g_pu rfl rfl rfl (pu_eql_t rfl rfl rfl (by omega)) ?_ | refine g_pu rfl rfl rfl (pu_eql_f rfl rfl rfl (by omega)) ?_ | refine g_pu rfl rfl rfl (pu_eql rfl rfl rfl) ?_
              refine g_nil ?_
              (repeat refine g_seq ?_)
              refine g_cond_f rfl (g_skip ?_)
              exact g_meet _ (by rw [if_pos h1]) ⟨rfl, rfl, rfl, rfl, rfl, rfl, rfl, rfl, trivial⟩ trivial
          · have hkn : k = ((if o = 2 then t + i else t + z - 1 - i : Nat) : Int) := by rw [hk]; split <;> omega
            have hlt2 : (if o = 2 then t + i else t + z - 1 - i) < n := by split <;> omega
            generalize (if o = 2 then t + i else t + z - 1 - i) = j at hkn hlt2 hl
            have h1 : l[j]? = some l[j] := List.getElem?_eq_getElem (by omega)
            rw [h1] at hl
            (repeat refine g_seq ?_)
            refine g_region ?_
            refine g_pu rfl rfl rfl (pu_move rfl rfl) ?_
            refine g_pu rfl rfl rfl (pu_shl64 rfl rfl rfl (by omega)) ?_
            refine g_pu rfl rfl rfl (pu_move rfl rfl) ?_
            refine g_pu rfl rfl rfl (pu_move rfl rfl) ?_
            refine g_pu rfl rfl rfl (pu_atB j (fun w' hm => ha.m hm) rfl rfl rfl (by omega) (by omega)) ?_
            refine g_pu rfl rfl rfl (pu_rdB (fun w' hm => ha.m hm) rfl rfl h1) ?_
            refine g_pu rfl rfl rfl (pu_conv8_64 rfl rfl) ?_
            refine g_pu rfl rfl rfl (pu_or64 rfl rfl rfl) ?_
            refine g_pu rfl rfl rfl (pu_assign rfl rfl) ?_
            refine g_nil ?_
            refine g_blk ?_
            (repeat refine g_seq ?_)
            refine g_region ?_
            refine g_pu rfl rfl rfl (pu_addI rfl rfl rfl (by omega)) ?_
            refine g_pu rfl rfl rfl (pu_move rfl rfl) ?_
            refine g_nil ?_
            refine g_round2 (i + 1) _ ⟨by omega, ?_⟩ (by omega) ⟨rfl, rfl, rfl, rfl, rfl, rfl, rfl, trivial⟩ trivial
            rw [List.take_add_one, hl, hx]
            exact (beV_snoc _ _).symm
        · (repeat refine g_seq ?_)
          refine g_region ?_
          first | refine g_pu rfl rfl rfl (pu_lss_t rfl rfl rfl (by omega)) ?_ | refine g_pu rfl rfl rfl (pu_lss_f rfl rfl rfl (by omega)) ?_ | refine g_pu rfl rfl rfl (pu_lss rfl rfl rfl) ?_
          refine g_nil ?_
          (repeat refine g_seq ?_)
          refine g_cond_f rfl (g_exit rfl ?_)
          (repeat refine g_seq ?_)
          refine g_region ?_
          refine g_pu rfl rfl rfl (pu_move rfl rfl) ?_
          refine g_pu rfl rfl rfl (pu_assign rfl rfl) ?_
          refine g_pu rfl rfl rfl (pu_assign rfl rfl) ?_
          refine g_nil ?_
          have e : i = z := by omega
          subst e
          rw [List.take_of_length_le (by rw [rdS_length, win_length (by omega)]; exact Nat.le_refl _)] at hx
          exact g_ret2 rfl rfl rfl (fun w' hm => ⟨(), trivial, by rw [he, hv, hx], hm.grows [] trivial rfl⟩)
      · have he : getE o n t z = 2 := by unfold getE; rw [if_neg (by omega), if_pos (by omega)]
        by_cases h1 : t > n
        · (repeat refine g_seq ?_)
          refine g_region ?_
          refine g_pu rfl rfl rfl (pu_move rfl rfl) ?_
          refine g_pu rfl rfl rfl (pu_move rfl rfl) ?_
          first | refine g_pu rfl rfl rfl (pu_len rfl rfl) ?_ | refine g_pu rfl rfl rfl (pu_lenS rfl rfl) ?_
          first | refine g_pu rfl rfl rfl (pu_gtr_t rfl rfl rfl (by omega)) ?_ | refine g_pu rfl rfl rfl (pu_gtr_f rfl rfl rfl (by omega)) ?_ | refine g_pu rfl rfl rfl (pu_gtr rfl rfl rfl) ?_
          refine g_pu rfl rfl rfl (pu_move rfl rfl) ?_
          first | refine g_pass rfl rfl rfl ?_ | refine g_pu rfl rfl rfl (pu_move rfl rfl) ?_
          first | refine g_pass rfl rfl rfl ?_ | refine g_pu rfl rfl rfl (pu_move rfl rfl) ?_
          first | refine g_pass rfl rfl rfl ?_ | refine g_pu rfl rfl rfl (pu_len rfl rfl) ?_ | refine g_pu rfl rfl rfl (pu_lenS rfl rfl) ?_
          first | refine g_pass rfl rfl rfl ?_ | refine g_pu rfl rfl rfl (pu_move rfl rfl) ?_
          first | refine g_pass rfl rfl rfl ?_ | refine g_pu rfl rfl rfl (pu_subI rfl rfl rfl (by omega)) ?_
          first | refine g_pass rfl rfl rfl ?_ | refine g_pu rfl rfl rfl (pu_gtr_t rfl rfl rfl (by omega)) ?_ | refine g_pu rfl rfl rfl (pu_gtr_f rfl rfl rfl (by omega)) ?_ | refine g_pu rfl rfl rfl (pu_gtr rfl rfl rfl) ?_
          first | refine g_pu rfl rfl rfl (pu_pick_t rfl rfl rfl) ?_ | refine g_pu rfl rfl rfl (pu_pick_f rfl rfl rfl) ?_
          refine g_nil ?_
          (repeat refine g_seq ?_)
          refine g_cond_t rfl ?_
          (repeat refine g_seq ?_)
          refine g_region ?_
          refine g_pu rfl rfl rfl (pu_assign (v := b64 0#64) rfl rfl) ?_
          refine g_pu rfl rfl rfl (pu_assign rfl rfl) ?_
          refine g_nil ?_
          exact g_ret2 rfl rfl rfl (fun w' hm => ⟨(), trivial, by simp [getV, hn, he], hm.grows [] trivial rfl⟩)
        · (repeat refine g_seq ?_)
          refine g_region ?_
          refine g_pu rfl rfl rfl (pu_move rfl rfl) ?_
          refine g_pu rfl rfl rfl (pu_move rfl rfl) ?_
          first | refine g_pu rfl rfl rfl (pu_len rfl rfl) ?_ | refine g_pu rfl rfl rfl (pu_lenS rfl rfl) ?_
          first | refine g_pu rfl rfl rfl (pu_gtr_t rfl rfl rfl (by omega)) ?_ | refine g_pu rfl rfl rfl (pu_gtr_f rfl rfl rfl (by omega)) ?_ | refine g_pu rfl rfl rfl (pu_gtr rfl rfl rfl) ?_
          refine g_pu rfl rfl rfl (pu_move rfl rfl) ?_
          first | refine g_pass rfl rfl rfl ?_ | refine g_pu rfl rfl rfl (pu_move rfl rfl) ?_
          first | refine g_pass rfl rfl rfl ?_ | refine g_pu rfl rfl rfl (pu_move rfl rfl) ?_
          first | refine g_pass rfl rfl rfl ?_ | refine g_pu rfl rfl rfl (pu_len rfl rfl) ?_ | refine g_pu rfl rfl rfl (pu_lenS rfl rfl) ?_
          first | refine g_pass rfl rfl rfl ?_ | refine g_pu rfl rfl rfl (pu_move rfl rfl) ?_
          first | refine g_pass rfl rfl rfl ?_ | refine g_pu rfl rfl rfl (pu_subI rfl rfl rfl (by omega)) ?_
          first | refine g_pass rfl rfl rfl ?_ | refine g_pu rfl rfl rfl (pu_gtr_t rfl rfl rfl (by omega)) ?_ | refine g_pu rfl rfl rfl (pu_gtr_f rfl rfl rfl (by omega)) ?_ | refine g_pu rfl rfl rfl (pu_gtr rfl rfl rfl) ?_
          first | refine g_pu rfl rfl rfl (pu_pick_t rfl rfl rfl) ?_ | refine g_pu rfl rfl rfl (pu_pick_f rfl rfl rfl) ?_
          refine g_nil ?_
          (repeat refine g_seq ?_)
          refine g_cond_t rfl ?_
          (repeat refine g_seq ?_)
          refine g_region ?_
          refine g_pu rfl rfl rfl (pu_assign (v := b64 0#64) rfl rfl) ?_
          refine g_pu rfl rfl rfl (pu_assign rfl rfl) ?_
          refine g_nil ?_
          exact g_ret2 rfl rfl rfl (fun w' hm => ⟨(), trivial, by simp [getV, hn, he], hm.grows [] trivial rfl⟩)
  · rw [if_neg hs]
    (repeat refine g_seq ?_)
    refine g_region ?_
    refine g_pu rfl rfl rfl (pu_move rfl rfl) ?_
    first | refine g_pu rfl rfl rfl (pu_neq_t rfl rfl rfl (by omega)) ?_ | refine g_pu rfl rfl rfl (pu_neq_f rfl rfl rfl (by omega)) ?_ | refine g_pu rfl rfl rfl (pu_neq rfl rfl rfl) ?_
    refine g_pu rfl rfl rfl (pu_move rfl rfl) ?_
    first | refine g_pass rfl rfl rfl ?_ | refine g_pu rfl rfl rfl (pu_move rfl rfl) ?_
    first | refine g_pass rfl rfl rfl ?_ | refine g_pu rfl rfl rfl (pu_lss_t rfl rfl rfl (by omega)) ?_ | refine g_pu rfl rfl rfl (pu_lss_f rfl rfl rfl (by omega)) ?_ | refine g_pu rfl rfl rfl (pu_lss rfl rfl rfl) ?_
    first | refine g_pu rfl rfl rfl (pu_pick_t rfl rfl rfl) ?_ | refine g_pu rfl rfl rfl (pu_pick_f rfl rfl rfl) ?_
    refine g_nil ?_
    (repeat refine g_seq ?_)
    refine g_cond_t rfl ?_
    (repeat refine g_seq ?_)
    refine g_region ?_
    refine g_pu rfl rfl rfl (pu_assign (v := b64 0#64) rfl rfl) ?_
    refine g_pu rfl rfl rfl (pu_assign rfl rfl) ?_
    refine g_nil ?_
    refine g_ret2 rfl rfl rfl (fun w' hm => ⟨(), trivial, ?_, hm.grows [] trivial rfl⟩)
    have he : getE o n t z = 1 := by unfold getE; rw [if_pos (.inl hs)]
    simp [getV, hn, he]
end Go.Sx

/-
  The reference's way to read a number out of bytes. The order is 1 or 2, the width 1 to 8.
-/
namespace Go.Sx
open Go Go.Proofs

end Go.Sx

/-
  Copies of lists of bytes; the place by place turning of lists, of the codec and of its reference. A list of lists takes at most 2^47 bytes.
-/
namespace Go.Sx
open Go Go.Proofs

theorem isSl_of {L : List Value} (h : L.all isSl = true) {v : Value} (hv : v ∈ L) : ∃ q m c, v = .slice q m c := by
  have := List.all_eq_true.1 h v hv
  cases v <;> simp [isSl] at this ⊢
theorem oneCell_sl {L : List Value} (h : L.all isSl = true) : ∀ u ∈ L, u.oneCell' = true := fun u hu => by
  obtain ⟨q, m, c, rfl⟩ := isSl_of h hu; rfl

theorem Clone_b (w : World) {p : Option Addr} {n : Nat} (c : Nat) {l : List (BitVec 8)} (ha : By w p n l) :
    Spec Try.prog 74 #[.slice p n c] w (σ := Ow) (fun _ => True) (fun x => x.sl n) Nob (fun x => [x.ck 5 1 (bs l)]) := by
  refine enter Try.func74 rfl rfl (Mem.start w) ?_
  have hn := ha.len
  have hbig := ha.big
  (repeat refine g_seq ?_)
  refine g_region ?_
  refine g_pu rfl rfl rfl (pu_assign rfl rfl) ?_
  refine g_nil ?_
  cases p with
  | none =>
    have h0 := ha.nil0
    subst h0
    have hl0 : l = [] := List.eq_nil_of_length_eq_zero hn
    subst hl0
    (repeat refine g_seq ?_)
    refine g_region ?_
    refine g_pu rfl rfl rfl (pu_move rfl rfl) ?_
    refine g_pu rfl rfl rfl (pu_eqlN rfl rfl rfl) ?_
    refine g_nil ?_
    (repeat refine g_seq ?_)
    refine g_cond_t rfl ?_
    (repeat refine g_seq ?_)
    refine g_region ?_
    refine g_pu rfl rfl rfl (pu_assign rfl rfl) ?_
    refine g_nil ?_
    exact g_nilOwn 90 5 1 rfl (g_ret1 rfl rfl (fun w' hm => ⟨⟨none, 0⟩, trivial, rfl, hm.grows [90] ⟨rfl, trivial⟩ rfl⟩))
  | some a =>
    (repeat refine g_seq ?_)
    refine g_region ?_
    refine g_pu rfl rfl rfl (pu_move rfl rfl) ?_
    refine g_pu rfl rfl rfl (pu_eqlN rfl rfl rfl) ?_
    refine g_nil ?_
    (repeat refine g_seq ?_)
    refine g_cond_f rfl (g_skip ?_)
    (repeat refine g_seq ?_)
    refine g_region ?_
    refine g_lo [5] rfl rfl rfl rfl (lo_buildSlice0 rfl) (fun b5 hb5 => ?_)
    refine g_own 5 (L := []) (J := []) (c := 0) (s := 1) rfl (by simp) (by omega) ?_
    refine g_pu rfl rfl rfl (pu_move rfl rfl) ?_
    refine g_append1 5 (bs l) rfl rfl rfl rfl rfl rfl rfl rfl rfl (fun w' hm => (ha.m hm).rd) (by rw [bs_length, hn]) (oneCell_bs l) (by omega) (by omega) (fun p' c' => ?_)
    refine g_pu rfl rfl rfl (pu_assign rfl rfl) ?_
    refine g_nil ?_
    exact g_ret1 rfl rfl (fun w' hm => ⟨⟨p', c'⟩, trivial, by simp [Ow.sl], hm.grows [5] ⟨rfl, trivial⟩ rfl⟩)

/-! ## Turning lists by one another -/
def xorL (a b : List (BitVec 8)) : List (BitVec 8) := List.zipWith (· ^^^ ·) a b
def xorAt (a b : List (BitVec 8)) (i : Nat) : List (BitVec 8) := (xorL a b).take i ++ a.drop i
def xorOk : List (List (BitVec 8)) → Bool
  | [] => true
  | l :: r => r.all fun m => m.length == l.length
def xorV : List (List (BitVec 8)) → List (BitVec 8)
  | [] => []
  | l :: r => if xorOk (l :: r) then r.foldl xorL l else []
def xorE (ls : List (List (BitVec 8))) : Int := if xorOk ls then 0 else 2

theorem xorL_length {a b : List (BitVec 8)} (h : b.length = a.length) : (xorL a b).length = a.length := by simp [xorL, h]
theorem xorAt_zero (a b : List (BitVec 8)) : xorAt a b 0 = a := by simp [xorAt]
theorem xorAt_end {a b : List (BitVec 8)} {n : Nat} (h : b.length = a.length) (hn : a.length = n) : xorAt a b n = xorL a b := by
  unfold xorAt
  rw [List.take_of_length_le (by rw [xorL_length h]; omega), List.drop_of_length_le (by omega), List.append_nil]
theorem xorAt_length {a b : List (BitVec 8)} {i : Nat} (h : b.length = a.length) (hi : i ≤ a.length) : (xorAt a b i).length = a.length := by
  simp [xorAt, xorL_length h]; omega
theorem xorAt_get {a b : List (BitVec 8)} {i : Nat} (h : b.length = a.length) (hi : i < a.length) : (xorAt a b i)[i]? = a[i]? := by
  unfold xorAt
  rw [List.getElem?_append_right (by simp [xorL_length h]; omega)]
  simp [xorL_length h, Nat.min_eq_left (Nat.le_of_lt hi)]
theorem xorAt_set {a b : List (BitVec 8)} {i : Nat} {x y : BitVec 8} (h : b.length = a.length) (hx : a[i]? = some x) (hy : b[i]? = some y) (J : List Value) :
    (bs (xorAt a b i) ++ J).set i (b8 (x ^^^ y)) = bs (xorAt a b (i + 1)) ++ J := by
  have hi : i < a.length := (List.getElem?_eq_some_iff.1 hx).1
  have hl : (bs (xorAt a b i)).length = a.length := by rw [bs_length, xorAt_length h (by omega)]
  rw [List.set_append_left _ _ (by omega)]
  congr 1
  apply List.ext_getElem?
  intro j
  have hz : (xorL a b)[i]? = some (x ^^^ y) := by simp [xorL, List.getElem?_zipWith, hx, hy]
  have hxl := xorL_length h
  by_cases hj : i = j
  · subst hj
    rw [List.getElem?_set_self (by omega)]
    simp only [bs, List.getElem?_map, xorAt]
    rw [List.getElem?_append_left (by simp [hxl]; omega), List.getElem?_take, if_pos (by omega), hz]
    rfl
  · rw [List.getElem?_set_ne hj]
    simp only [bs, List.getElem?_map]
    congr 1
    unfold xorAt
    by_cases hlt : j < i
    · rw [List.getElem?_append_left (by simp [hxl]; omega), List.getElem?_append_left (by simp [hxl]; omega), List.getElem?_take, List.getElem?_take, if_pos hlt, if_pos (by omega)]
    · rw [List.getElem?_append_right (by simp [hxl]; omega), List.getElem?_append_right (by simp [hxl]; omega)]
      simp only [List.length_take, hxl, List.getElem?_drop]
      congr 1; omega

theorem ByL.cut {w : World} {p : Option Addr} {n c : Nat} {L : List Value} {ls : List (List (BitVec 8))} (h : ByL w p n L ls) (hc : n ≤ c) (j : Nat) : ByL w (cutp p c j 1) (n - j) (L.drop j) (ls.drop j) := by
  refine ⟨h.rd.cut (by rw [h.len]; exact hc), by rw [List.length_drop, h.len], ⟨by simp [h.els.1], fun i x y hx hy => ?_⟩, by have := h.big; omega⟩
  rw [List.getElem?_drop] at hx hy
  exact h.els.2 _ x y hx hy

theorem Xor_b (w : World) {p : Option Addr} {n : Nat} (c : Nat) {L : List Value} {ls : List (List (BitVec 8))} (ha : ByL w p n L ls) (hc : n ≤ c) :
    Spec Try.prog 87 #[.slice p n c] w (σ := Ow) (fun _ => True) (fun x => .tuple #[x.sl (xorV ls).length, .int .i64 (xorE ls)]) Nob (fun x => [x.ck 5 1 (bs (xorV ls))]) := by
  refine enter Try.func87 rfl rfl (Mem.start w) ?_
  have hn := ha.len
  have hbig := ha.big
  have hln := ha.lenL
  (repeat refine g_seq ?_)
  refine g_region ?_
  refine g_pu rfl rfl rfl (pu_assign rfl rfl) ?_
  refine g_pu rfl rfl rfl (pu_assign rfl rfl) ?_
  refine g_nil ?_
  by_cases h0 : n = 0
  · (repeat refine g_seq ?_)
    refine g_region ?_
    refine g_pu rfl rfl rfl (pu_move rfl rfl) ?_
    first | refine g_pu rfl rfl rfl (pu_len rfl rfl) ?_ | refine g_pu rfl rfl rfl (pu_lenS rfl rfl) ?_
    first | refine g_pu rfl rfl rfl (pu_eql_t rfl rfl rfl (by omega)) ?_ | refine g_pu rfl rfl rfl (pu_eql_f rfl rfl rfl (by omega)) ?_ | refine g_pu rfl rfl rfl (pu_eql rfl rfl rfl) ?_
    refine g_nil ?_
    (repeat refine g_seq ?_)
    refine g_cond_t rfl ?_
    (repeat refine g_seq ?_)
    refine g_region ?_
    refine g_pu rfl rfl rfl (pu_assign rfl rfl) ?_
    refine g_pu rfl rfl rfl (pu_assign rfl rfl) ?_
    refine g_nil ?_
    have hl0 : ls = [] := List.eq_nil_of_length_eq_zero (by omega)
    subst hl0
    exact g_nilOwn 90 5 1 rfl (g_ret2 rfl rfl rfl (fun w' hm => ⟨⟨none, 0⟩, trivial, rfl, hm.grows [90] ⟨rfl, trivial⟩ rfl⟩))
  · (repeat refine g_seq ?_)
    refine g_region ?_
    refine g_pu rfl rfl rfl (pu_move rfl rfl) ?_
    first | refine g_pu rfl rfl rfl (pu_len rfl rfl) ?_ | refine g_pu rfl rfl rfl (pu_lenS rfl rfl) ?_
    first | refine g_pu rfl rfl rfl (pu_eql_t rfl rfl rfl (by omega)) ?_ | refine g_pu rfl rfl rfl (pu_eql_f rfl rfl rfl (by omega)) ?_ | refine g_pu rfl rfl rfl (pu_eql rfl rfl rfl) ?_
    refine g_nil ?_
    (repeat refine g_seq ?_)
    refine g_cond_f rfl (g_skip ?_)
    obtain ⟨l0, r, rfl⟩ : ∃ l0 r, ls = l0 :: r := by
      cases ls with
      | nil => simp at hln; omega
      | cons a r => exact ⟨a, r, rfl⟩
    obtain ⟨q, m, cc, hL, hq⟩ := ha.at (i := 0) (l := l0) rfl
    have hq1 := hq.len
    have hq2 := hq.big
    have hcut := ha.cut hc 1
    simp only [List.drop_succ_cons, List.drop_zero] at hcut
    have hrl : r.length = n - 1 := by simp at hln; omega
    (repeat refine g_seq ?_)
    refine g_region ?_
    refine g_pu rfl rfl rfl (pu_move rfl rfl) ?_
    refine g_pu rfl rfl rfl (pu_atM1 0 (fun w' hm => (ha.m hm).rd) rfl rfl rfl rfl (by omega) (by omega)) ?_
    refine g_pu rfl rfl rfl (pu_rdM (fun w' hm => (ha.m hm).rd) rfl rfl hL) ?_
    refine g_call [14] rfl rfl rfl rfl rfl rfl (fun w' hm => Clone_b w' cc (hq.m hm)) (fun x14 _ => ?_)
    refine g_pu rfl rfl rfl (pu_assign rfl rfl) ?_
    refine g_nil ?_
    obtain ⟨p14, c14⟩ := x14
    (repeat refine g_seq ?_)
    refine g_region ?_
    refine g_pu rfl rfl rfl (pu_move rfl rfl) ?_
    refine g_pu rfl rfl rfl (pu_slice_l 1 rfl rfl rfl rfl (by omega)) ?_
    first | refine g_pu rfl rfl rfl (pu_len rfl rfl) ?_ | refine g_pu rfl rfl rfl (pu_lenS rfl rfl) ?_
    refine g_pu rfl rfl rfl (pu_move rfl rfl) ?_
    refine g_nil ?_
    refine g_block (g_loop (σ := Nat) (fun j => [(4, .slice p14 m c14), (16, .slice (cutp p c 1 1) (n - 1) (c - 1)), (17, .int .i64 ((n - 1 : Nat) : Int)), (18, .int .i64 (j : Int))]) (fun j => [(14, .fact (At p14) (Own 5 1 p14 c14 (bs ((r.take j).foldl xorL l0))))]) (fun j => j ≤ r.length ∧ ((r.take j).all fun m => m.length == l0.length) = true ∧ ((r.take j).foldl xorL l0).length = m) (fun j => n - j) 0 ⟨rfl, rfl, rfl, rfl, trivial⟩ ⟨rfl, trivial⟩ ⟨by omega, rfl, hq1⟩ ?_)
    intro j ⟨hj, hall, hlen⟩
    by_cases hlt : j < n - 1
    · (repeat refine g_seq ?_)
      refine g_region ?_
      first | refine g_pu rfl rfl rfl (pu_lss_t rfl rfl rfl (by omega)) ?_ | refine g_pu rfl rfl rfl (pu_lss_f rfl rfl rfl (by omega)) ?_ | refine g_pu rfl rfl rfl (pu_lss rfl rfl rfl) ?_
      refine g_nil ?_
      (repeat refine g_seq ?_)
      refine g_cond_t rfl (g_skip ?_)
      have hl : r[j]? = some r[j] := List.getElem?_eq_getElem (by omega)
      generalize r[j] = b at hl
      obtain ⟨q2, m2, c2, hL2, hq'⟩ := hcut.at hl
      have hq3 := hq'.len
      have ht : r.take (j + 1) = r.take j ++ [b] := by rw [List.take_add_one, hl]; rfl
      (repeat refine g_seq ?_); refine g_block ?_
      (repeat refine g_seq ?_)
      refine g_region ?_
      refine g_pu rfl rfl rfl (pu_atM1 j (fun w' hm => (hcut.m hm).rd) rfl rfl rfl rfl (by omega) (by rw [hcut.len]; omega)) ?_
      refine g_pu rfl rfl rfl (pu_rdM (fun w' hm => (hcut.m hm).rd) rfl rfl hL2) ?_
      refine g_pu rfl rfl rfl (pu_assign rfl rfl) ?_
      refine g_nil ?_
      by_cases hne : m2 = m
      · (repeat refine g_seq ?_)
        refine g_region ?_
        refine g_pu rfl rfl rfl (pu_move rfl rfl) ?_
        first | refine g_pu rfl rfl rfl (pu_len rfl rfl) ?_ | refine g_pu rfl rfl rfl (pu_lenS rfl rfl) ?_
        refine g_pu rfl rfl rfl (pu_move rfl rfl) ?_
        first | refine g_pu rfl rfl rfl (pu_len rfl rfl) ?_ | refine g_pu rfl rfl rfl (pu_lenS rfl rfl) ?_
        first | refine g_pu rfl rfl rfl (pu_neq_t rfl rfl rfl (by omega)) ?_ | refine g_pu rfl rfl rfl (pu_neq_f rfl rfl rfl (by omega)) ?_ | refine g_pu rfl rfl rfl (pu_neq rfl rfl rfl) ?_
        refine g_nil ?_
        (repeat refine g_seq ?_)
        refine g_cond_f rfl (g_skip ?_)
        subst hne
        generalize hacc : (r.take j).foldl xorL l0 = a at hlen
        (repeat refine g_seq ?_)
        refine g_region ?_
        refine g_pu rfl rfl rfl (pu_move rfl rfl) ?_
        first | refine g_pu rfl rfl rfl (pu_len rfl rfl) ?_ | refine g_pu rfl rfl rfl (pu_lenS rfl rfl) ?_
        refine g_pu rfl rfl rfl (pu_move rfl rfl) ?_
        refine g_nil ?_
        have hab : b.length = a.length := by omega
        refine g_block (g_loop (σ := Nat) (fun i => [(4, .slice p14 m2 c14), (6, .slice q2 m2 c2), (16, .slice (cutp p c 1 1) (n - 1) (c - 1)), (17, .int .i64 ((n - 1 : Nat) : Int)), (18, .int .i64 (j : Int)), (28, .int .i64 (m2 : Int)), (29, .int .i64 (i : Int))]) (fun i => [(14, .fact (At p14) (Own 5 1 p14 c14 (bs (xorAt a b i))))]) (fun i => i ≤ m2) (fun i => m2 - i) 0 ⟨rfl, rfl, rfl, rfl, rfl, rfl, rfl, trivial⟩ ⟨by rw [xorAt_zero, ← hacc]; rfl, trivial⟩ (by omega) ?_)
        intro i hi
        have hxl := xorAt_length (i := i) hab (by omega)
        by_cases hlt2 : i < m2
        · (repeat refine g_seq ?_)
          refine g_region ?_
          first | refine g_pu rfl rfl rfl (pu_lss_t rfl rfl rfl (by omega)) ?_ | refine g_pu rfl rfl rfl (pu_lss_f rfl rfl rfl (by omega)) ?_ | refine g_pu rfl rfl rfl (pu_lss rfl rfl rfl) ?_
          refine g_nil ?_
          (repeat refine g_seq ?_)
          refine g_cond_t rfl (g_skip ?_)
          have h1 : a[i]? = some a[i] := List.getElem?_eq_getElem (by omega)
          have h2 : b[i]? = some b[i] := List.getElem?_eq_getElem (by omega)
          (repeat refine g_seq ?_); refine g_block ?_
          (repeat refine g_seq ?_)
          refine g_region ?_
          refine g_pu rfl rfl rfl (pu_move rfl rfl) ?_
          refine g_pu rfl rfl rfl (pu_assign rfl rfl) ?_
          refine g_nil ?_
          refine g_row 14 rfl (by rw [bs_length]; omega) (fun bb J hp hJ hcap => ?_)
          subst hp
          (repeat refine g_seq ?_)
          refine g_any (10, []) ?_
          refine a_pu 0 rfl rfl rfl rfl (pu_move rfl rfl) rfl rfl (by kernel_rfl) ?_
          refine a_pu 1 rfl rfl rfl rfl (pu_move rfl rfl) rfl rfl (by kernel_rfl) ?_
          refine a_pu 2 rfl rfl rfl rfl (pu_at1 i rfl rfl rfl rfl (by omega)) rfl rfl (by kernel_rfl) ?_
          refine a_pu 3 rfl rfl rfl rfl (pu_load 14 (v := b8 a[i]) rfl rfl rfl (by rw [Nat.zero_add, List.getElem?_toArray, List.getElem?_append_left (by rw [bs_length]; omega)]; exact bs_get ((xorAt_get hab (by omega)).trans h1))) rfl rfl (by kernel_rfl) ?_
          refine a_pu 4 rfl rfl rfl rfl (pu_move rfl rfl) rfl rfl (by kernel_rfl) ?_
          refine a_pu 5 rfl rfl rfl rfl (pu_move rfl rfl) rfl rfl (by kernel_rfl) ?_
          refine a_pu 6 rfl rfl rfl rfl (pu_atB i (fun w' hm => hq'.m hm) rfl rfl rfl (by omega) (by omega)) rfl rfl (by kernel_rfl) ?_
          refine a_pu 7 rfl rfl rfl rfl (pu_rdB (fun w' hm => hq'.m hm) rfl rfl h2) rfl rfl (by kernel_rfl) ?_
          refine a_pu 8 rfl rfl rfl rfl (pu_xor8 rfl rfl rfl) rfl rfl (by kernel_rfl) ?_
          refine a_pu 9 rfl rfl rfl rfl (pu_at1 i rfl rfl rfl rfl (by omega)) rfl rfl (by kernel_rfl) ?_
          refine a_tail [10] (by kernel_rfl) rfl rfl (by kernel_rfl) ?_
          refine g_store 14 (v := b8 (a[i] ^^^ b[i])) rfl rfl rfl rfl rfl rfl rfl (by rw [List.length_append, bs_length]; omega) ?_
          refine g_nil ?_
          have hset := xorAt_set (i := i) hab h1 h2 J
          refine g_own 14 (L := bs (xorAt a b (i + 1))) (J := J) (c := c14) (s := 1) (by rw [← hset, Nat.zero_add]; rfl) (by refine ⟨?_, by rw [← hset, List.length_set]; exact hJ.2⟩; have hJ1 := hJ.1; rw [bs_length, xorAt_length hab (by omega)] at hJ1 ⊢; exact hJ1) hcap ?_
          refine g_blk ?_
          (repeat refine g_seq ?_)
          refine g_region ?_
          refine g_pu rfl rfl rfl (pu_addI rfl rfl rfl (by omega)) ?_
          refine g_pu rfl rfl rfl (pu_move rfl rfl) ?_
          refine g_nil ?_
          exact g_round (i + 1) (by omega) (by omega) ⟨rfl, rfl, rfl, rfl, rfl, rfl, rfl, trivial⟩ ⟨rfl, trivial⟩
        · (repeat refine g_seq ?_)
          refine g_region ?_
          first | refine g_pu rfl rfl rfl (pu_lss_t rfl rfl rfl (by omega)) ?_ | refine g_pu rfl rfl rfl (pu_lss_f rfl rfl rfl (by omega)) ?_ | refine g_pu rfl rfl rfl (pu_lss rfl rfl rfl) ?_
          refine g_nil ?_
          (repeat refine g_seq ?_)
          refine g_cond_f rfl (g_exit rfl ?_)
          have e1 : i = m2 := by omega
          subst e1
          refine g_blk ?_
          (repeat refine g_seq ?_)
          refine g_region ?_
          refine g_pu rfl rfl rfl (pu_addI rfl rfl rfl (by omega)) ?_
          refine g_pu rfl rfl rfl (pu_move rfl rfl) ?_
          refine g_nil ?_
          have hfold : (r.take (j + 1)).foldl xorL l0 = xorL a b := by rw [ht, List.foldl_append, hacc]; rfl
          refine g_round (j + 1) ⟨by omega, ?_, ?_⟩ (by omega) ⟨rfl, rfl, rfl, rfl, trivial⟩ ⟨by rw [hfold, ← xorAt_end hab hlen]; rfl, trivial⟩
          · rw [ht, List.all_append, hall]
            simp; omega
          · rw [hfold, xorL_length hab, hlen]
      · (repeat refine g_seq ?_)
        refine g_region ?_
        refine g_pu rfl rfl rfl (pu_move rfl rfl) ?_
        first | refine g_pu rfl rfl rfl (pu_len rfl rfl) ?_ | refine g_pu rfl rfl rfl (pu_lenS rfl rfl) ?_
        refine g_pu rfl rfl rfl (pu_move rfl rfl) ?_
        first | refine g_pu rfl rfl rfl (pu_len rfl rfl) ?_ | refine g_pu rfl rfl rfl (pu_lenS rfl rfl) ?_
        first | refine g_pu rfl rfl rfl (pu_neq_t rfl rfl rfl (by omega)) ?_ | refine g_pu rfl rfl rfl (pu_neq_f rfl rfl rfl (by omega)) ?_ | refine g_pu rfl rfl rfl (pu_neq rfl rfl rfl) ?_
        refine g_nil ?_
        (repeat refine g_seq ?_)
        refine g_cond_t rfl ?_
        (repeat refine g_seq ?_)
        refine g_region ?_
        refine g_pu rfl rfl rfl (pu_assign rfl rfl) ?_
        refine g_pu rfl rfl rfl (pu_assign rfl rfl) ?_
        refine g_nil ?_
        have hbad : xorOk (l0 :: r) = false := by
          rw [Bool.eq_false_iff]
          intro h
          have := List.all_eq_true.1 h b (List.mem_of_getElem? hl)
          simp at this; omega
        have hE : xorE (l0 :: r) = 2 := by simp [xorE, hbad]
        have hV : xorV (l0 :: r) = [] := by simp [xorV, hbad]
        rw [hE, hV]
        exact g_nilOwn 90 5 1 rfl (g_ret2 rfl rfl rfl (fun w' hm => ⟨⟨none, 0⟩, trivial, rfl, hm.grows [90] ⟨rfl, trivial⟩ rfl⟩))
    · (repeat refine g_seq ?_)
      refine g_region ?_
      first | refine g_pu rfl rfl rfl (pu_lss_t rfl rfl rfl (by omega)) ?_ | refine g_pu rfl rfl rfl (pu_lss_f rfl rfl rfl (by omega)) ?_ | refine g_pu rfl rfl rfl (pu_lss rfl rfl rfl) ?_
      refine g_nil ?_
      (repeat refine g_seq ?_)
      refine g_cond_f rfl (g_exit rfl ?_)
      (repeat refine g_seq ?_)
      refine g_region ?_
      refine g_pu rfl rfl rfl (pu_move rfl rfl) ?_
      refine g_pu rfl rfl rfl (pu_assign rfl rfl) ?_
      refine g_pu rfl rfl rfl (pu_assign rfl rfl) ?_
      refine g_nil ?_
      have e1 : j = r.length := by omega
      subst e1
      rw [List.take_of_length_le (Nat.le_refl _)] at hall hlen ⊢
      have hok : xorOk (l0 :: r) = true := hall
      have hE : xorE (l0 :: r) = 0 := by simp [xorE, hok]
      have hV : xorV (l0 :: r) = r.foldl xorL l0 := by simp [xorV, hok]
      rw [hE, hV, hlen]
      exact g_ret2 rfl rfl rfl (fun w' hm => ⟨⟨p14, c14⟩, trivial, rfl, hm.grows [14] ⟨rfl, trivial⟩ rfl⟩)
end Go.Sx

/-
  The reference's turning of lists by one another. A list of lists takes at most 2^47 bytes.
-/
namespace Go.Sx
open Go Go.Proofs

def accR (ls : List (List (BitVec 8))) : Nat → List (BitVec 8)
  | 0 => []
  | i + 1 => match ls with
    | [] => []
    | l :: r => (r.take i).foldl xorL l
def okR (ls : List (List (BitVec 8))) : Nat → Bool
  | 0 => true
  | i + 1 => match ls with
    | [] => true
    | l :: r => ((r.take i).all fun m => m.length == l.length) && ((r.take i).foldl xorL l).length == l.length

end Go.Sx

/-
  Writing a number as bytes: the codec's way, its reference's way, and that it is read back.
-/
namespace Go.Sx
open Go Go.Proofs

theorem get_set (m : List (BitVec 8)) (i k : Nat) (x : BitVec 8) (hi : i < m.length) : (m.set i x)[k]? = if i = k then some x else m[k]? := by
  rw [List.getElem?_set]
  split
  · rfl
  · rfl
theorem bs_set (m : List (BitVec 8)) (J : List Value) (i : Nat) (x : BitVec 8) (hi : i < m.length) : (bs m ++ J).set i (b8 x) = bs (m.set i x) ++ J := by
  rw [List.set_append_left _ _ (by rw [bs_length]; exact hi)]
  simp [bs, List.map_set]
theorem bs_load {m : List (BitVec 8)} {J : List Value} {i : Nat} {x : BitVec 8} (h : m[i]? = some x) : (bs m ++ J).toArray[0 + i]? = some (b8 x) := by
  have hi := (List.getElem?_eq_some_iff.1 h).1
  rw [Nat.zero_add, List.getElem?_toArray, List.getElem?_append_left (by rw [bs_length]; exact hi)]
  exact bs_get h

theorem Reverse_b (w : World) (x : Ow) {n : Nat} {l : List (BitVec 8)} (h : Own 5 1 x.p x.c (bs l) w) (hb : ∀ j, At x.p j → j < w.heap.size) (hn : l.length = n) (hbig : n ≤ 140737488355328) :
    Spec Try.prog 121 #[x.sl n] w (σ := Unit) (fun _ => True) (fun _ => .tuple #[]) (At x.p) (fun _ => [x.ck 5 1 (bs l.reverse)]) := by
  obtain ⟨p, c⟩ := x
  refine enter Try.func121 rfl rfl (Mem.start1 (.fact (At p) (Own 5 1 p c (bs l))) h Own.loc hb) ?_
  (repeat refine g_seq ?_)
  refine g_region ?_
  refine g_pu rfl rfl rfl (pu_move rfl rfl) ?_
  first | refine g_pu rfl rfl rfl (pu_len rfl rfl) ?_ | refine g_pu rfl rfl rfl (pu_lenS rfl rfl) ?_
  refine g_pu rfl rfl rfl (pu_subI rfl rfl rfl (by omega)) ?_
  refine g_pu rfl rfl rfl (pu_assign rfl rfl) ?_
  refine g_pu rfl rfl rfl (pu_assign rfl rfl) ?_
  refine g_nil ?_
  refine g_block (g_loop2 (fun (i : Nat) (m : List (BitVec 8)) => [(0, .slice p n c), (2, .int .i64 (i : Int)), (3, .int .i64 ((n : Int) - 1 - i))]) (fun _ m => [(0, .fact (At p) (Own 5 1 p c (bs m)))])
    (fun i m => 2 * i ≤ n + 1 ∧ m.length = n ∧ ∀ k, k < n → m[k]? = if k < i ∨ n - 1 - k < i then l[n - 1 - k]? else l[k]?) (fun i _ => n - i) 0 l ⟨rfl, rfl, congrArg (fun z => some (Value.int .i64 z)) (by omega), trivial⟩ ⟨rfl, trivial⟩ ⟨by omega, hn, fun k hk => by simp⟩ ?_)
  intro i m ⟨hi, hml, hm⟩
  by_cases hlt : 2 * i + 1 < n
  · (repeat refine g_seq ?_)
    refine g_region ?_
    refine g_pu rfl rfl rfl (pu_move rfl rfl) ?_
    refine g_pu rfl rfl rfl (pu_move rfl rfl) ?_
    first | refine g_pu rfl rfl rfl (pu_lss_t rfl rfl rfl (by omega)) ?_ | refine g_pu rfl rfl rfl (pu_lss_f rfl rfl rfl (by omega)) ?_ | refine g_pu rfl rfl rfl (pu_lss rfl rfl rfl) ?_
    refine g_nil ?_
    (repeat refine g_seq ?_)
    refine g_cond_t rfl (g_skip ?_)
    obtain ⟨j, hj⟩ : ∃ j, j = n - 1 - i := ⟨_, rfl⟩
    have h1 : m[i]? = some m[i] := List.getElem?_eq_getElem (by omega)
    have h2 : m[j]? = some m[j] := List.getElem?_eq_getElem (by omega)
    have h3 := hm i (by omega)
    have h4 := hm j (by omega)
    rw [if_neg (by omega), h1] at h3
    rw [if_neg (by omega), h2] at h4
    generalize m[i] = y at h1 h3
    generalize m[j] = z at h2 h4
    (repeat refine g_seq ?_); refine g_block ?_
    refine g_row 0 rfl (by rw [bs_length]; omega) (fun bb J hp hJ hcap => ?_)
    subst hp
    (repeat refine g_seq ?_)
    refine g_any (13, [2, 3]) ?_
    refine a_pu 0 rfl rfl rfl rfl (pu_move rfl rfl) rfl rfl (by kernel_rfl) ?_
    refine a_pu 1 rfl rfl rfl rfl (pu_move rfl rfl) rfl rfl (by kernel_rfl) ?_
    first | refine a_mv 2 rfl rfl rfl rfl (fun _ => (pu_move rfl rfl)) rfl rfl rfl (by kernel_rfl) (by kernel_rfl) (by kernel_rfl) rfl ?_
    first | refine a_mv 3 rfl rfl rfl rfl (fun _ => (pu_move rfl rfl)) rfl rfl rfl (by kernel_rfl) (by kernel_rfl) (by kernel_rfl) rfl ?_
    refine a_pu 4 rfl rfl rfl rfl (pu_move rfl rfl) rfl rfl (by kernel_rfl) ?_
    refine a_pu 5 rfl rfl rfl rfl (pu_move rfl rfl) rfl rfl (by kernel_rfl) ?_
    refine a_pu 6 rfl rfl rfl rfl (pu_at1 j rfl rfl rfl (by omega) (by omega)) rfl rfl (by kernel_rfl) ?_
    refine a_pu 7 rfl rfl rfl rfl (pu_load 0 rfl rfl rfl (bs_load h2)) rfl rfl (by kernel_rfl) ?_
    refine a_pu 8 rfl rfl rfl rfl (pu_move rfl rfl) rfl rfl (by kernel_rfl) ?_
    refine a_pu 9 rfl rfl rfl rfl (pu_move rfl rfl) rfl rfl (by kernel_rfl) ?_
    refine a_pu 10 rfl rfl rfl rfl (pu_at1 i rfl rfl rfl rfl (by omega)) rfl rfl (by kernel_rfl) ?_
    refine a_pu 11 rfl rfl rfl rfl (pu_load 0 rfl rfl rfl (bs_load h1)) rfl rfl (by kernel_rfl) ?_
    refine a_pu 12 rfl rfl rfl rfl (pu_at1 i rfl rfl rfl rfl (by omega)) rfl rfl (by kernel_rfl) ?_
    refine a_tail [13, 14, 15] (by kernel_rfl) rfl rfl (by kernel_rfl) ?_
    refine g_store 0 (v := b8 z) rfl rfl rfl rfl rfl rfl rfl (by rw [List.length_append, bs_length]; omega) ?_
    rw [Nat.zero_add, bs_set m J i z (by omega)]
    refine g_pu rfl rfl rfl (pu_at1 j rfl rfl rfl (by omega) (by omega)) ?_
    refine g_store 0 (v := b8 y) rfl rfl rfl rfl rfl rfl rfl (by rw [List.length_append, bs_length, List.length_set]; omega) ?_
    rw [Nat.zero_add, bs_set (m.set i z) J j y (by rw [List.length_set]; omega)]
    refine g_nil ?_
    refine g_own 0 (L := bs ((m.set i z).set j y)) (J := J) (c := c) (s := 1) rfl (by simpa [bs_length] using hJ) hcap ?_
    refine g_blk ?_
    (repeat refine g_seq ?_)
    refine g_region ?_
    refine g_pu rfl rfl rfl (pu_move rfl rfl) ?_
    refine g_pu rfl rfl rfl (pu_addI rfl rfl rfl (by omega)) ?_
    refine g_pu rfl rfl rfl (pu_move rfl rfl) ?_
    refine g_pu rfl rfl rfl (pu_subI rfl rfl rfl (by omega)) ?_
    refine g_pu rfl rfl rfl (pu_assign rfl rfl) ?_
    refine g_pu rfl rfl rfl (pu_assign rfl rfl) ?_
    refine g_nil ?_
    refine g_round2 (i + 1) ((m.set i z).set j y) ⟨by omega, by simp [hml], fun k hk => ?_⟩ (by omega) ⟨rfl, rfl, congrArg (fun z => some (Value.int .i64 z)) (by omega), trivial⟩ ⟨rfl, trivial⟩
    rw [get_set _ _ _ _ (by rw [List.length_set]; omega), get_set _ _ _ _ (by omega)]
    by_cases hkj : j = k
    · subst hkj
      rw [if_pos rfl, if_pos (by omega), h3]
      congr 1; omega
    · rw [if_neg hkj]
      by_cases hki : i = k
      · subst hki
        rw [if_pos rfl, if_pos (by omega), h4, hj]
      · rw [if_neg hki, hm k hk]
        by_cases hc : k < i ∨ n - 1 - k < i
        · rw [if_pos hc, if_pos (by omega)]
        · rw [if_neg hc, if_neg (by omega)]
  · (repeat refine g_seq ?_)
    refine g_region ?_
    refine g_pu rfl rfl rfl (pu_move rfl rfl) ?_
    refine g_pu rfl rfl rfl (pu_move rfl rfl) ?_
    first | refine g_pu rfl rfl rfl (pu_lss_t rfl rfl rfl (by omega)) ?_ | refine g_pu rfl rfl rfl (pu_lss_f rfl rfl rfl (by omega)) ?_ | refine g_pu rfl rfl rfl (pu_lss rfl rfl rfl) ?_
    refine g_nil ?_
    (repeat refine g_seq ?_)
    refine g_cond_f rfl (g_exit rfl ?_)
    have e : m = l.reverse := by
      apply List.ext_getElem?
      intro k
      by_cases hk : k < n
      · rw [hm k hk, List.getElem?_reverse (by omega), hn]
        split
        · rfl
        · congr 1; omega
      · rw [List.getElem?_eq_none (by omega), List.getElem?_eq_none (by simp; omega)]
    subst e
    exact g_end0 rfl (fun w' hm => ⟨(), trivial, rfl, hm.grows [0] ⟨rfl, trivial⟩ rfl⟩)
end Go.Sx
