import Derived.Test.YtfbcmndhjoebbaaZdXC
import Derived.Test.YtfbcmndhjoebbaaProg
import Derived.KernelRfl
set_option linter.unusedVariables false
set_option linter.unusedSimpArgs false
/- Closed facts on the types of this seat's translation. -/
namespace Go.Sx
open Go Go.Proofs
instance : Mix Try.prog := ⟨by kernel_rfl⟩
instance : Und Try.prog 2 (.int .i64) := ⟨Try.underlying2⟩
instance : Siz Try.prog 2 1 := ⟨by kernel_rfl⟩
instance : Byt Try.prog 2 8 := ⟨by kernel_rfl⟩
instance : Agg Try.prog 2 false := ⟨by kernel_rfl⟩
instance : One Try.prog 2 := ⟨by kernel_rfl⟩
instance : Zer Try.prog 2 (.int .i64 0) := ⟨by kernel_rfl⟩
instance : Und Try.prog 3 (.int .i64) := ⟨Try.underlying3⟩
instance : Siz Try.prog 3 1 := ⟨by kernel_rfl⟩
instance : Byt Try.prog 3 8 := ⟨by kernel_rfl⟩
instance : Agg Try.prog 3 false := ⟨by kernel_rfl⟩
instance : One Try.prog 3 := ⟨by kernel_rfl⟩
instance : Zer Try.prog 3 (.int .i64 0) := ⟨by kernel_rfl⟩
instance : Und Try.prog 4 .bool := ⟨Try.underlying4⟩
instance : Siz Try.prog 4 1 := ⟨by kernel_rfl⟩
instance : Byt Try.prog 4 1 := ⟨by kernel_rfl⟩
instance : Agg Try.prog 4 false := ⟨by kernel_rfl⟩
instance : One Try.prog 4 := ⟨by kernel_rfl⟩
instance : Zer Try.prog 4 (.bool false) := ⟨by kernel_rfl⟩
instance : Und Try.prog 5 (.int .u8) := ⟨Try.underlying5⟩
instance : Siz Try.prog 5 1 := ⟨by kernel_rfl⟩
instance : Byt Try.prog 5 1 := ⟨by kernel_rfl⟩
instance : Agg Try.prog 5 false := ⟨by kernel_rfl⟩
instance : One Try.prog 5 := ⟨by kernel_rfl⟩
instance : Zer Try.prog 5 (b8 0#8) := ⟨by kernel_rfl⟩
instance : Siz Try.prog 7 4 := ⟨by kernel_rfl⟩
instance : Byt Try.prog 7 24 := ⟨by kernel_rfl⟩
instance : Agg Try.prog 7 true := ⟨by kernel_rfl⟩
instance : Plc Try.prog 7 [(0, 1), (1, 1), (2, 1), (3, 1)] := ⟨by kernel_rfl⟩
instance : Ngd Try.prog 7 := ⟨by kernel_rfl⟩
instance : Zer Try.prog 7 (.agg (List.toArray [(.int .i64 0), (.int .i64 0), (.bool false), (b8 0#8)])) := ⟨by kernel_rfl⟩
instance : Und Try.prog 9 .string := ⟨Try.underlying9⟩
instance : Siz Try.prog 9 1 := ⟨by kernel_rfl⟩
instance : Byt Try.prog 9 16 := ⟨by kernel_rfl⟩
instance : Agg Try.prog 9 false := ⟨by kernel_rfl⟩
instance : One Try.prog 9 := ⟨by kernel_rfl⟩
instance : Zer Try.prog 9 (.string .empty) := ⟨by kernel_rfl⟩
instance : Und Try.prog 12 (.int .u64) := ⟨Try.underlying12⟩
instance : Siz Try.prog 12 1 := ⟨by kernel_rfl⟩
instance : Byt Try.prog 12 8 := ⟨by kernel_rfl⟩
instance : Agg Try.prog 12 false := ⟨by kernel_rfl⟩
instance : One Try.prog 12 := ⟨by kernel_rfl⟩
instance : Zer Try.prog 12 (b64 0#64) := ⟨by kernel_rfl⟩
instance : Siz Try.prog 13 2 := ⟨by kernel_rfl⟩
instance : Byt Try.prog 13 24 := ⟨by kernel_rfl⟩
instance : Agg Try.prog 13 true := ⟨by kernel_rfl⟩
instance : Plc Try.prog 13 [(0, 1), (1, 1)] := ⟨by kernel_rfl⟩
instance : Ngd Try.prog 13 := ⟨by kernel_rfl⟩
instance : Zer Try.prog 13 (.agg (List.toArray [(.string .empty), (b64 0#64)])) := ⟨by kernel_rfl⟩
instance : Siz Try.prog 18 1 := ⟨by kernel_rfl⟩
instance : Byt Try.prog 18 8 := ⟨by kernel_rfl⟩
instance : Agg Try.prog 18 true := ⟨by kernel_rfl⟩
instance : Plc Try.prog 18 [(0, 1)] := ⟨by kernel_rfl⟩
instance : Ngd Try.prog 18 := ⟨by kernel_rfl⟩
instance : Zer Try.prog 18 (.agg (List.toArray [(.pointer none)])) := ⟨by kernel_rfl⟩
instance : Und Try.prog 21 (.int .i32) := ⟨Try.underlying21⟩
instance : Siz Try.prog 21 1 := ⟨by kernel_rfl⟩
instance : Byt Try.prog 21 4 := ⟨by kernel_rfl⟩
instance : Agg Try.prog 21 false := ⟨by kernel_rfl⟩
instance : One Try.prog 21 := ⟨by kernel_rfl⟩
instance : Zer Try.prog 21 (.int .i32 0) := ⟨by kernel_rfl⟩
instance : Und Try.prog 22 (.slice 45) := ⟨Try.underlying22⟩
instance : Siz Try.prog 22 1 := ⟨by kernel_rfl⟩
instance : Byt Try.prog 22 24 := ⟨by kernel_rfl⟩
instance : Agg Try.prog 22 false := ⟨by kernel_rfl⟩
instance : One Try.prog 22 := ⟨by kernel_rfl⟩
instance : Zer Try.prog 22 (.slice none 0 0) := ⟨by kernel_rfl⟩
instance : Und Try.prog 24 (.int .i64) := ⟨Try.underlying24⟩
instance : Siz Try.prog 24 1 := ⟨by kernel_rfl⟩
instance : Byt Try.prog 24 8 := ⟨by kernel_rfl⟩
instance : Agg Try.prog 24 false := ⟨by kernel_rfl⟩
instance : One Try.prog 24 := ⟨by kernel_rfl⟩
instance : Zer Try.prog 24 (.int .i64 0) := ⟨by kernel_rfl⟩
instance : Und Try.prog 33 (.slice 5) := ⟨Try.underlying33⟩
instance : Siz Try.prog 33 1 := ⟨by kernel_rfl⟩
instance : Byt Try.prog 33 24 := ⟨by kernel_rfl⟩
instance : Agg Try.prog 33 false := ⟨by kernel_rfl⟩
instance : One Try.prog 33 := ⟨by kernel_rfl⟩
instance : Zer Try.prog 33 (.slice none 0 0) := ⟨by kernel_rfl⟩
instance : Und Try.prog 34 (.slice 9) := ⟨Try.underlying34⟩
instance : Siz Try.prog 34 1 := ⟨by kernel_rfl⟩
instance : Byt Try.prog 34 24 := ⟨by kernel_rfl⟩
instance : Agg Try.prog 34 false := ⟨by kernel_rfl⟩
instance : One Try.prog 34 := ⟨by kernel_rfl⟩
instance : Zer Try.prog 34 (.slice none 0 0) := ⟨by kernel_rfl⟩
instance : Und Try.prog 42 (.int .u64) := ⟨Try.underlying42⟩
instance : Siz Try.prog 42 1 := ⟨by kernel_rfl⟩
instance : Byt Try.prog 42 8 := ⟨by kernel_rfl⟩
instance : Agg Try.prog 42 false := ⟨by kernel_rfl⟩
instance : One Try.prog 42 := ⟨by kernel_rfl⟩
instance : Zer Try.prog 42 (b64 0#64) := ⟨by kernel_rfl⟩
instance : Und Try.prog 43 (.array 32 5) := ⟨Try.underlying43⟩
instance : Siz Try.prog 43 32 := ⟨by kernel_rfl⟩
instance : Byt Try.prog 43 32 := ⟨by kernel_rfl⟩
instance : Agg Try.prog 43 true := ⟨by kernel_rfl⟩
instance : Ngd Try.prog 43 := ⟨by kernel_rfl⟩
instance : Zer Try.prog 43 (.agg (List.toArray [(b8 0#8), (b8 0#8), (b8 0#8), (b8 0#8), (b8 0#8), (b8 0#8), (b8 0#8), (b8 0#8), (b8 0#8), (b8 0#8), (b8 0#8), (b8 0#8), (b8 0#8), (b8 0#8), (b8 0#8), (b8 0#8), (b8 0#8), (b8 0#8), (b8 0#8), (b8 0#8), (b8 0#8), (b8 0#8), (b8 0#8), (b8 0#8), (b8 0#8), (b8 0#8), (b8 0#8), (b8 0#8), (b8 0#8), (b8 0#8), (b8 0#8), (b8 0#8)])) := ⟨by kernel_rfl⟩
instance : Siz Try.prog 44 66 := ⟨by kernel_rfl⟩
instance : Byt Try.prog 44 88 := ⟨by kernel_rfl⟩
instance : Agg Try.prog 44 true := ⟨by kernel_rfl⟩
instance : Plc Try.prog 44 [(0, 1), (1, 1), (2, 32), (34, 32)] := ⟨by kernel_rfl⟩
instance : Ngd Try.prog 44 := ⟨by kernel_rfl⟩
instance : Zer Try.prog 44 (.agg (List.toArray [(.string .empty), (b64 0#64), (b8 0#8), (b8 0#8), (b8 0#8), (b8 0#8), (b8 0#8), (b8 0#8), (b8 0#8), (b8 0#8), (b8 0#8), (b8 0#8), (b8 0#8), (b8 0#8), (b8 0#8), (b8 0#8), (b8 0#8), (b8 0#8), (b8 0#8), (b8 0#8), (b8 0#8), (b8 0#8), (b8 0#8), (b8 0#8), (b8 0#8), (b8 0#8), (b8 0#8), (b8 0#8), (b8 0#8), (b8 0#8), (b8 0#8), (b8 0#8), (b8 0#8), (b8 0#8), (b8 0#8), (b8 0#8), (b8 0#8), (b8 0#8), (b8 0#8), (b8 0#8), (b8 0#8), (b8 0#8), (b8 0#8), (b8 0#8), (b8 0#8), (b8 0#8), (b8 0#8), (b8 0#8), (b8 0#8), (b8 0#8), (b8 0#8), (b8 0#8), (b8 0#8), (b8 0#8), (b8 0#8), (b8 0#8), (b8 0#8), (b8 0#8), (b8 0#8), (b8 0#8), (b8 0#8), (b8 0#8), (b8 0#8), (b8 0#8), (b8 0#8), (b8 0#8)])) := ⟨by kernel_rfl⟩
instance : Siz Try.prog 45 66 := ⟨by kernel_rfl⟩
instance : Byt Try.prog 45 88 := ⟨by kernel_rfl⟩
instance : Agg Try.prog 45 true := ⟨by kernel_rfl⟩
instance : Plc Try.prog 45 [(0, 1), (1, 1), (2, 32), (34, 32)] := ⟨by kernel_rfl⟩
instance : Ngd Try.prog 45 := ⟨by kernel_rfl⟩
instance : Zer Try.prog 45 (.agg (List.toArray [(.string .empty), (b64 0#64), (b8 0#8), (b8 0#8), (b8 0#8), (b8 0#8), (b8 0#8), (b8 0#8), (b8 0#8), (b8 0#8), (b8 0#8), (b8 0#8), (b8 0#8), (b8 0#8), (b8 0#8), (b8 0#8), (b8 0#8), (b8 0#8), (b8 0#8), (b8 0#8), (b8 0#8), (b8 0#8), (b8 0#8), (b8 0#8), (b8 0#8), (b8 0#8), (b8 0#8), (b8 0#8), (b8 0#8), (b8 0#8), (b8 0#8), (b8 0#8), (b8 0#8), (b8 0#8), (b8 0#8), (b8 0#8), (b8 0#8), (b8 0#8), (b8 0#8), (b8 0#8), (b8 0#8), (b8 0#8), (b8 0#8), (b8 0#8), (b8 0#8), (b8 0#8), (b8 0#8), (b8 0#8), (b8 0#8), (b8 0#8), (b8 0#8), (b8 0#8), (b8 0#8), (b8 0#8), (b8 0#8), (b8 0#8), (b8 0#8), (b8 0#8), (b8 0#8), (b8 0#8), (b8 0#8), (b8 0#8), (b8 0#8), (b8 0#8), (b8 0#8), (b8 0#8)])) := ⟨by kernel_rfl⟩
instance : Siz Try.prog 46 66 := ⟨by kernel_rfl⟩
instance : Byt Try.prog 46 88 := ⟨by kernel_rfl⟩
instance : Agg Try.prog 46 true := ⟨by kernel_rfl⟩
instance : Plc Try.prog 46 [(0, 66)] := ⟨by kernel_rfl⟩
instance : Ngd Try.prog 46 := ⟨by kernel_rfl⟩
instance : Zer Try.prog 46 (.agg (List.toArray [(.string .empty), (b64 0#64), (b8 0#8), (b8 0#8), (b8 0#8), (b8 0#8), (b8 0#8), (b8 0#8), (b8 0#8), (b8 0#8), (b8 0#8), (b8 0#8), (b8 0#8), (b8 0#8), (b8 0#8), (b8 0#8), (b8 0#8), (b8 0#8), (b8 0#8), (b8 0#8), (b8 0#8), (b8 0#8), (b8 0#8), (b8 0#8), (b8 0#8), (b8 0#8), (b8 0#8), (b8 0#8), (b8 0#8), (b8 0#8), (b8 0#8), (b8 0#8), (b8 0#8), (b8 0#8), (b8 0#8), (b8 0#8), (b8 0#8), (b8 0#8), (b8 0#8), (b8 0#8), (b8 0#8), (b8 0#8), (b8 0#8), (b8 0#8), (b8 0#8), (b8 0#8), (b8 0#8), (b8 0#8), (b8 0#8), (b8 0#8), (b8 0#8), (b8 0#8), (b8 0#8), (b8 0#8), (b8 0#8), (b8 0#8), (b8 0#8), (b8 0#8), (b8 0#8), (b8 0#8), (b8 0#8), (b8 0#8), (b8 0#8), (b8 0#8), (b8 0#8), (b8 0#8)])) := ⟨by kernel_rfl⟩
instance : Siz Try.prog 47 66 := ⟨by kernel_rfl⟩
instance : Byt Try.prog 47 88 := ⟨by kernel_rfl⟩
instance : Agg Try.prog 47 true := ⟨by kernel_rfl⟩
instance : Plc Try.prog 47 [(0, 66)] := ⟨by kernel_rfl⟩
instance : Ngd Try.prog 47 := ⟨by kernel_rfl⟩
instance : Zer Try.prog 47 (.agg (List.toArray [(.string .empty), (b64 0#64), (b8 0#8), (b8 0#8), (b8 0#8), (b8 0#8), (b8 0#8), (b8 0#8), (b8 0#8), (b8 0#8), (b8 0#8), (b8 0#8), (b8 0#8), (b8 0#8), (b8 0#8), (b8 0#8), (b8 0#8), (b8 0#8), (b8 0#8), (b8 0#8), (b8 0#8), (b8 0#8), (b8 0#8), (b8 0#8), (b8 0#8), (b8 0#8), (b8 0#8), (b8 0#8), (b8 0#8), (b8 0#8), (b8 0#8), (b8 0#8), (b8 0#8), (b8 0#8), (b8 0#8), (b8 0#8), (b8 0#8), (b8 0#8), (b8 0#8), (b8 0#8), (b8 0#8), (b8 0#8), (b8 0#8), (b8 0#8), (b8 0#8), (b8 0#8), (b8 0#8), (b8 0#8), (b8 0#8), (b8 0#8), (b8 0#8), (b8 0#8), (b8 0#8), (b8 0#8), (b8 0#8), (b8 0#8), (b8 0#8), (b8 0#8), (b8 0#8), (b8 0#8), (b8 0#8), (b8 0#8), (b8 0#8), (b8 0#8), (b8 0#8), (b8 0#8)])) := ⟨by kernel_rfl⟩
instance : Und Try.prog 58 (.slice 66) := ⟨Try.underlying58⟩
instance : Siz Try.prog 58 1 := ⟨by kernel_rfl⟩
instance : Byt Try.prog 58 24 := ⟨by kernel_rfl⟩
instance : Agg Try.prog 58 false := ⟨by kernel_rfl⟩
instance : One Try.prog 58 := ⟨by kernel_rfl⟩
instance : Zer Try.prog 58 (.slice none 0 0) := ⟨by kernel_rfl⟩
instance : Siz Try.prog 61 3 := ⟨by kernel_rfl⟩
instance : Byt Try.prog 61 32 := ⟨by kernel_rfl⟩
instance : Agg Try.prog 61 true := ⟨by kernel_rfl⟩
instance : Plc Try.prog 61 [(0, 1), (1, 1), (2, 1)] := ⟨by kernel_rfl⟩
instance : Ngd Try.prog 61 := ⟨by kernel_rfl⟩
instance : Zer Try.prog 61 (.agg (List.toArray [(.string .empty), (.int .i64 0), (.int .i64 0)])) := ⟨by kernel_rfl⟩
instance : Siz Try.prog 62 3 := ⟨by kernel_rfl⟩
instance : Byt Try.prog 62 32 := ⟨by kernel_rfl⟩
instance : Agg Try.prog 62 true := ⟨by kernel_rfl⟩
instance : Plc Try.prog 62 [(0, 1), (1, 1), (2, 1)] := ⟨by kernel_rfl⟩
instance : Ngd Try.prog 62 := ⟨by kernel_rfl⟩
instance : Zer Try.prog 62 (.agg (List.toArray [(.string .empty), (.int .i64 0), (.int .i64 0)])) := ⟨by kernel_rfl⟩
instance : Und Try.prog 63 (.slice 33) := ⟨Try.underlying63⟩
instance : Siz Try.prog 63 1 := ⟨by kernel_rfl⟩
instance : Byt Try.prog 63 24 := ⟨by kernel_rfl⟩
instance : Agg Try.prog 63 false := ⟨by kernel_rfl⟩
instance : One Try.prog 63 := ⟨by kernel_rfl⟩
instance : Zer Try.prog 63 (.slice none 0 0) := ⟨by kernel_rfl⟩
instance : Siz Try.prog 65 68 := ⟨by kernel_rfl⟩
instance : Byt Try.prog 65 104 := ⟨by kernel_rfl⟩
instance : Agg Try.prog 65 true := ⟨by kernel_rfl⟩
instance : Plc Try.prog 65 [(0, 66), (66, 1), (67, 1)] := ⟨by kernel_rfl⟩
instance : Ngd Try.prog 65 := ⟨by kernel_rfl⟩
instance : Zer Try.prog 65 (.agg (List.toArray [(.string .empty), (b64 0#64), (b8 0#8), (b8 0#8), (b8 0#8), (b8 0#8), (b8 0#8), (b8 0#8), (b8 0#8), (b8 0#8), (b8 0#8), (b8 0#8), (b8 0#8), (b8 0#8), (b8 0#8), (b8 0#8), (b8 0#8), (b8 0#8), (b8 0#8), (b8 0#8), (b8 0#8), (b8 0#8), (b8 0#8), (b8 0#8), (b8 0#8), (b8 0#8), (b8 0#8), (b8 0#8), (b8 0#8), (b8 0#8), (b8 0#8), (b8 0#8), (b8 0#8), (b8 0#8), (b8 0#8), (b8 0#8), (b8 0#8), (b8 0#8), (b8 0#8), (b8 0#8), (b8 0#8), (b8 0#8), (b8 0#8), (b8 0#8), (b8 0#8), (b8 0#8), (b8 0#8), (b8 0#8), (b8 0#8), (b8 0#8), (b8 0#8), (b8 0#8), (b8 0#8), (b8 0#8), (b8 0#8), (b8 0#8), (b8 0#8), (b8 0#8), (b8 0#8), (b8 0#8), (b8 0#8), (b8 0#8), (b8 0#8), (b8 0#8), (b8 0#8), (b8 0#8), (.int .i64 0), (.int .i64 0)])) := ⟨by kernel_rfl⟩
instance : Siz Try.prog 66 68 := ⟨by kernel_rfl⟩
instance : Byt Try.prog 66 104 := ⟨by kernel_rfl⟩
instance : Agg Try.prog 66 true := ⟨by kernel_rfl⟩
instance : Plc Try.prog 66 [(0, 66), (66, 1), (67, 1)] := ⟨by kernel_rfl⟩
instance : Ngd Try.prog 66 := ⟨by kernel_rfl⟩
instance : Zer Try.prog 66 (.agg (List.toArray [(.string .empty), (b64 0#64), (b8 0#8), (b8 0#8), (b8 0#8), (b8 0#8), (b8 0#8), (b8 0#8), (b8 0#8), (b8 0#8), (b8 0#8), (b8 0#8), (b8 0#8), (b8 0#8), (b8 0#8), (b8 0#8), (b8 0#8), (b8 0#8), (b8 0#8), (b8 0#8), (b8 0#8), (b8 0#8), (b8 0#8), (b8 0#8), (b8 0#8), (b8 0#8), (b8 0#8), (b8 0#8), (b8 0#8), (b8 0#8), (b8 0#8), (b8 0#8), (b8 0#8), (b8 0#8), (b8 0#8), (b8 0#8), (b8 0#8), (b8 0#8), (b8 0#8), (b8 0#8), (b8 0#8), (b8 0#8), (b8 0#8), (b8 0#8), (b8 0#8), (b8 0#8), (b8 0#8), (b8 0#8), (b8 0#8), (b8 0#8), (b8 0#8), (b8 0#8), (b8 0#8), (b8 0#8), (b8 0#8), (b8 0#8), (b8 0#8), (b8 0#8), (b8 0#8), (b8 0#8), (b8 0#8), (b8 0#8), (b8 0#8), (b8 0#8), (b8 0#8), (b8 0#8), (.int .i64 0), (.int .i64 0)])) := ⟨by kernel_rfl⟩
instance : Und Try.prog 69 (.slice 62) := ⟨Try.underlying69⟩
instance : Siz Try.prog 69 1 := ⟨by kernel_rfl⟩
instance : Byt Try.prog 69 24 := ⟨by kernel_rfl⟩
instance : Agg Try.prog 69 false := ⟨by kernel_rfl⟩
instance : One Try.prog 69 := ⟨by kernel_rfl⟩
instance : Zer Try.prog 69 (.slice none 0 0) := ⟨by kernel_rfl⟩
instance : Und Try.prog 70 (.slice 74) := ⟨Try.underlying70⟩
instance : Siz Try.prog 70 1 := ⟨by kernel_rfl⟩
instance : Byt Try.prog 70 24 := ⟨by kernel_rfl⟩
instance : Agg Try.prog 70 false := ⟨by kernel_rfl⟩
instance : One Try.prog 70 := ⟨by kernel_rfl⟩
instance : Zer Try.prog 70 (.slice none 0 0) := ⟨by kernel_rfl⟩
instance : Siz Try.prog 73 68 := ⟨by kernel_rfl⟩
instance : Byt Try.prog 73 104 := ⟨by kernel_rfl⟩
instance : Agg Try.prog 73 true := ⟨by kernel_rfl⟩
instance : Plc Try.prog 73 [(0, 66), (66, 1), (67, 1)] := ⟨by kernel_rfl⟩
instance : Ngd Try.prog 73 := ⟨by kernel_rfl⟩
instance : Zer Try.prog 73 (.agg (List.toArray [(.string .empty), (b64 0#64), (b8 0#8), (b8 0#8), (b8 0#8), (b8 0#8), (b8 0#8), (b8 0#8), (b8 0#8), (b8 0#8), (b8 0#8), (b8 0#8), (b8 0#8), (b8 0#8), (b8 0#8), (b8 0#8), (b8 0#8), (b8 0#8), (b8 0#8), (b8 0#8), (b8 0#8), (b8 0#8), (b8 0#8), (b8 0#8), (b8 0#8), (b8 0#8), (b8 0#8), (b8 0#8), (b8 0#8), (b8 0#8), (b8 0#8), (b8 0#8), (b8 0#8), (b8 0#8), (b8 0#8), (b8 0#8), (b8 0#8), (b8 0#8), (b8 0#8), (b8 0#8), (b8 0#8), (b8 0#8), (b8 0#8), (b8 0#8), (b8 0#8), (b8 0#8), (b8 0#8), (b8 0#8), (b8 0#8), (b8 0#8), (b8 0#8), (b8 0#8), (b8 0#8), (b8 0#8), (b8 0#8), (b8 0#8), (b8 0#8), (b8 0#8), (b8 0#8), (b8 0#8), (b8 0#8), (b8 0#8), (b8 0#8), (b8 0#8), (b8 0#8), (b8 0#8), (.int .i64 0), (.int .i64 0)])) := ⟨by kernel_rfl⟩
instance : Siz Try.prog 74 68 := ⟨by kernel_rfl⟩
instance : Byt Try.prog 74 104 := ⟨by kernel_rfl⟩
instance : Agg Try.prog 74 true := ⟨by kernel_rfl⟩
instance : Plc Try.prog 74 [(0, 66), (66, 1), (67, 1)] := ⟨by kernel_rfl⟩
instance : Ngd Try.prog 74 := ⟨by kernel_rfl⟩
instance : Zer Try.prog 74 (.agg (List.toArray [(.string .empty), (b64 0#64), (b8 0#8), (b8 0#8), (b8 0#8), (b8 0#8), (b8 0#8), (b8 0#8), (b8 0#8), (b8 0#8), (b8 0#8), (b8 0#8), (b8 0#8), (b8 0#8), (b8 0#8), (b8 0#8), (b8 0#8), (b8 0#8), (b8 0#8), (b8 0#8), (b8 0#8), (b8 0#8), (b8 0#8), (b8 0#8), (b8 0#8), (b8 0#8), (b8 0#8), (b8 0#8), (b8 0#8), (b8 0#8), (b8 0#8), (b8 0#8), (b8 0#8), (b8 0#8), (b8 0#8), (b8 0#8), (b8 0#8), (b8 0#8), (b8 0#8), (b8 0#8), (b8 0#8), (b8 0#8), (b8 0#8), (b8 0#8), (b8 0#8), (b8 0#8), (b8 0#8), (b8 0#8), (b8 0#8), (b8 0#8), (b8 0#8), (b8 0#8), (b8 0#8), (b8 0#8), (b8 0#8), (b8 0#8), (b8 0#8), (b8 0#8), (b8 0#8), (b8 0#8), (b8 0#8), (b8 0#8), (b8 0#8), (b8 0#8), (b8 0#8), (b8 0#8), (.int .i64 0), (.int .i64 0)])) := ⟨by kernel_rfl⟩
instance : Und Try.prog 77 (.map 9 3) := ⟨Try.underlying77⟩
instance : Siz Try.prog 77 1 := ⟨by kernel_rfl⟩
instance : Byt Try.prog 77 8 := ⟨by kernel_rfl⟩
instance : Agg Try.prog 77 false := ⟨by kernel_rfl⟩
instance : One Try.prog 77 := ⟨by kernel_rfl⟩
instance : Zer Try.prog 77 (.map none) := ⟨by kernel_rfl⟩
instance : Und Try.prog 78 (.map 42 3) := ⟨Try.underlying78⟩
instance : Siz Try.prog 78 1 := ⟨by kernel_rfl⟩
instance : Byt Try.prog 78 8 := ⟨by kernel_rfl⟩
instance : Agg Try.prog 78 false := ⟨by kernel_rfl⟩
instance : One Try.prog 78 := ⟨by kernel_rfl⟩
instance : Zer Try.prog 78 (.map none) := ⟨by kernel_rfl⟩
instance : Siz Try.prog 87 64 := ⟨by kernel_rfl⟩
instance : Byt Try.prog 87 64 := ⟨by kernel_rfl⟩
instance : Agg Try.prog 87 true := ⟨by kernel_rfl⟩
instance : Plc Try.prog 87 [(0, 32), (32, 32)] := ⟨by kernel_rfl⟩
instance : Ngd Try.prog 87 := ⟨by kernel_rfl⟩
instance : Zer Try.prog 87 (.agg (List.toArray [(b8 0#8), (b8 0#8), (b8 0#8), (b8 0#8), (b8 0#8), (b8 0#8), (b8 0#8), (b8 0#8), (b8 0#8), (b8 0#8), (b8 0#8), (b8 0#8), (b8 0#8), (b8 0#8), (b8 0#8), (b8 0#8), (b8 0#8), (b8 0#8), (b8 0#8), (b8 0#8), (b8 0#8), (b8 0#8), (b8 0#8), (b8 0#8), (b8 0#8), (b8 0#8), (b8 0#8), (b8 0#8), (b8 0#8), (b8 0#8), (b8 0#8), (b8 0#8), (b8 0#8), (b8 0#8), (b8 0#8), (b8 0#8), (b8 0#8), (b8 0#8), (b8 0#8), (b8 0#8), (b8 0#8), (b8 0#8), (b8 0#8), (b8 0#8), (b8 0#8), (b8 0#8), (b8 0#8), (b8 0#8), (b8 0#8), (b8 0#8), (b8 0#8), (b8 0#8), (b8 0#8), (b8 0#8), (b8 0#8), (b8 0#8), (b8 0#8), (b8 0#8), (b8 0#8), (b8 0#8), (b8 0#8), (b8 0#8), (b8 0#8), (b8 0#8)])) := ⟨by kernel_rfl⟩
instance : Siz Try.prog 88 64 := ⟨by kernel_rfl⟩
instance : Byt Try.prog 88 64 := ⟨by kernel_rfl⟩
instance : Agg Try.prog 88 true := ⟨by kernel_rfl⟩
instance : Plc Try.prog 88 [(0, 32), (32, 32)] := ⟨by kernel_rfl⟩
instance : Ngd Try.prog 88 := ⟨by kernel_rfl⟩
instance : Zer Try.prog 88 (.agg (List.toArray [(b8 0#8), (b8 0#8), (b8 0#8), (b8 0#8), (b8 0#8), (b8 0#8), (b8 0#8), (b8 0#8), (b8 0#8), (b8 0#8), (b8 0#8), (b8 0#8), (b8 0#8), (b8 0#8), (b8 0#8), (b8 0#8), (b8 0#8), (b8 0#8), (b8 0#8), (b8 0#8), (b8 0#8), (b8 0#8), (b8 0#8), (b8 0#8), (b8 0#8), (b8 0#8), (b8 0#8), (b8 0#8), (b8 0#8), (b8 0#8), (b8 0#8), (b8 0#8), (b8 0#8), (b8 0#8), (b8 0#8), (b8 0#8), (b8 0#8), (b8 0#8), (b8 0#8), (b8 0#8), (b8 0#8), (b8 0#8), (b8 0#8), (b8 0#8), (b8 0#8), (b8 0#8), (b8 0#8), (b8 0#8), (b8 0#8), (b8 0#8), (b8 0#8), (b8 0#8), (b8 0#8), (b8 0#8), (b8 0#8), (b8 0#8), (b8 0#8), (b8 0#8), (b8 0#8), (b8 0#8), (b8 0#8), (b8 0#8), (b8 0#8), (b8 0#8)])) := ⟨by kernel_rfl⟩
instance : Und Try.prog 97 (.array 4 42) := ⟨Try.underlying97⟩
instance : Siz Try.prog 97 4 := ⟨by kernel_rfl⟩
instance : Byt Try.prog 97 32 := ⟨by kernel_rfl⟩
instance : Agg Try.prog 97 true := ⟨by kernel_rfl⟩
instance : Ngd Try.prog 97 := ⟨by kernel_rfl⟩
instance : Zer Try.prog 97 (.agg (List.toArray [(b64 0#64), (b64 0#64), (b64 0#64), (b64 0#64)])) := ⟨by kernel_rfl⟩
instance : Und Try.prog 98 (.array 4 42) := ⟨Try.underlying98⟩
instance : Siz Try.prog 98 4 := ⟨by kernel_rfl⟩
instance : Byt Try.prog 98 32 := ⟨by kernel_rfl⟩
instance : Agg Try.prog 98 true := ⟨by kernel_rfl⟩
instance : Ngd Try.prog 98 := ⟨by kernel_rfl⟩
instance : Zer Try.prog 98 (.agg (List.toArray [(b64 0#64), (b64 0#64), (b64 0#64), (b64 0#64)])) := ⟨by kernel_rfl⟩
instance : Und Try.prog 102 (.int .u32) := ⟨Try.underlying102⟩
instance : Siz Try.prog 102 1 := ⟨by kernel_rfl⟩
instance : Byt Try.prog 102 4 := ⟨by kernel_rfl⟩
instance : Agg Try.prog 102 false := ⟨by kernel_rfl⟩
instance : One Try.prog 102 := ⟨by kernel_rfl⟩
instance : Zer Try.prog 102 (b32 0#32) := ⟨by kernel_rfl⟩
instance : Und Try.prog 103 (.array 8 102) := ⟨Try.underlying103⟩
instance : Siz Try.prog 103 8 := ⟨by kernel_rfl⟩
instance : Byt Try.prog 103 32 := ⟨by kernel_rfl⟩
instance : Agg Try.prog 103 true := ⟨by kernel_rfl⟩
instance : Ngd Try.prog 103 := ⟨by kernel_rfl⟩
instance : Zer Try.prog 103 (.agg (List.toArray [(b32 0#32), (b32 0#32), (b32 0#32), (b32 0#32), (b32 0#32), (b32 0#32), (b32 0#32), (b32 0#32)])) := ⟨by kernel_rfl⟩
instance : Und Try.prog 104 (.array 8 102) := ⟨Try.underlying104⟩
instance : Siz Try.prog 104 8 := ⟨by kernel_rfl⟩
instance : Byt Try.prog 104 32 := ⟨by kernel_rfl⟩
instance : Agg Try.prog 104 true := ⟨by kernel_rfl⟩
instance : Ngd Try.prog 104 := ⟨by kernel_rfl⟩
instance : Zer Try.prog 104 (.agg (List.toArray [(b32 0#32), (b32 0#32), (b32 0#32), (b32 0#32), (b32 0#32), (b32 0#32), (b32 0#32), (b32 0#32)])) := ⟨by kernel_rfl⟩
instance : Siz Try.prog 114 8 := ⟨by kernel_rfl⟩
instance : Byt Try.prog 114 64 := ⟨by kernel_rfl⟩
instance : Agg Try.prog 114 true := ⟨by kernel_rfl⟩
instance : Plc Try.prog 114 [(0, 4), (4, 4)] := ⟨by kernel_rfl⟩
instance : Ngd Try.prog 114 := ⟨by kernel_rfl⟩
instance : Zer Try.prog 114 (.agg (List.toArray [(b64 0#64), (b64 0#64), (b64 0#64), (b64 0#64), (b64 0#64), (b64 0#64), (b64 0#64), (b64 0#64)])) := ⟨by kernel_rfl⟩
instance : Siz Try.prog 115 8 := ⟨by kernel_rfl⟩
instance : Byt Try.prog 115 64 := ⟨by kernel_rfl⟩
instance : Agg Try.prog 115 true := ⟨by kernel_rfl⟩
instance : Plc Try.prog 115 [(0, 4), (4, 4)] := ⟨by kernel_rfl⟩
instance : Ngd Try.prog 115 := ⟨by kernel_rfl⟩
instance : Zer Try.prog 115 (.agg (List.toArray [(b64 0#64), (b64 0#64), (b64 0#64), (b64 0#64), (b64 0#64), (b64 0#64), (b64 0#64), (b64 0#64)])) := ⟨by kernel_rfl⟩
instance : Und Try.prog 124 (.pointer 150) := ⟨Try.underlying124⟩
instance : Siz Try.prog 124 1 := ⟨by kernel_rfl⟩
instance : Byt Try.prog 124 8 := ⟨by kernel_rfl⟩
instance : Agg Try.prog 124 false := ⟨by kernel_rfl⟩
instance : One Try.prog 124 := ⟨by kernel_rfl⟩
instance : Zer Try.prog 124 (.pointer none) := ⟨by kernel_rfl⟩
instance : Und Try.prog 138 (.array 17 42) := ⟨Try.underlying138⟩
instance : Siz Try.prog 138 17 := ⟨by kernel_rfl⟩
instance : Byt Try.prog 138 136 := ⟨by kernel_rfl⟩
instance : Agg Try.prog 138 true := ⟨by kernel_rfl⟩
instance : Ngd Try.prog 138 := ⟨by kernel_rfl⟩
instance : Zer Try.prog 138 (.agg (List.toArray [(b64 0#64), (b64 0#64), (b64 0#64), (b64 0#64), (b64 0#64), (b64 0#64), (b64 0#64), (b64 0#64), (b64 0#64), (b64 0#64), (b64 0#64), (b64 0#64), (b64 0#64), (b64 0#64), (b64 0#64), (b64 0#64), (b64 0#64)])) := ⟨by kernel_rfl⟩
instance : Und Try.prog 139 (.int .u64) := ⟨Try.underlying139⟩
instance : Siz Try.prog 139 1 := ⟨by kernel_rfl⟩
instance : Byt Try.prog 139 8 := ⟨by kernel_rfl⟩
instance : Agg Try.prog 139 false := ⟨by kernel_rfl⟩
instance : One Try.prog 139 := ⟨by kernel_rfl⟩
instance : Zer Try.prog 139 (b64 0#64) := ⟨by kernel_rfl⟩
instance : Und Try.prog 143 (.pointer 148) := ⟨Try.underlying143⟩
instance : Siz Try.prog 143 1 := ⟨by kernel_rfl⟩
instance : Byt Try.prog 143 8 := ⟨by kernel_rfl⟩
instance : Agg Try.prog 143 false := ⟨by kernel_rfl⟩
instance : One Try.prog 143 := ⟨by kernel_rfl⟩
instance : Zer Try.prog 143 (.pointer none) := ⟨by kernel_rfl⟩
instance : Siz Try.prog 145 10 := ⟨by kernel_rfl⟩
instance : Byt Try.prog 145 64 := ⟨by kernel_rfl⟩
instance : Agg Try.prog 145 true := ⟨by kernel_rfl⟩
instance : Plc Try.prog 145 [(0, 8), (8, 1), (9, 1)] := ⟨by kernel_rfl⟩
instance : Ngd Try.prog 145 := ⟨by kernel_rfl⟩
instance : Zer Try.prog 145 (.agg (List.toArray [(b32 0#32), (b32 0#32), (b32 0#32), (b32 0#32), (b32 0#32), (b32 0#32), (b32 0#32), (b32 0#32), (.slice none 0 0), (.int .i64 0)])) := ⟨by kernel_rfl⟩
instance : Siz Try.prog 146 10 := ⟨by kernel_rfl⟩
instance : Byt Try.prog 146 64 := ⟨by kernel_rfl⟩
instance : Agg Try.prog 146 true := ⟨by kernel_rfl⟩
instance : Plc Try.prog 146 [(0, 8), (8, 1), (9, 1)] := ⟨by kernel_rfl⟩
instance : Ngd Try.prog 146 := ⟨by kernel_rfl⟩
instance : Zer Try.prog 146 (.agg (List.toArray [(b32 0#32), (b32 0#32), (b32 0#32), (b32 0#32), (b32 0#32), (b32 0#32), (b32 0#32), (b32 0#32), (.slice none 0 0), (.int .i64 0)])) := ⟨by kernel_rfl⟩
instance : Siz Try.prog 147 10 := ⟨by kernel_rfl⟩
instance : Byt Try.prog 147 64 := ⟨by kernel_rfl⟩
instance : Agg Try.prog 147 true := ⟨by kernel_rfl⟩
instance : Plc Try.prog 147 [(0, 10)] := ⟨by kernel_rfl⟩
instance : Ngd Try.prog 147 := ⟨by kernel_rfl⟩
instance : Zer Try.prog 147 (.agg (List.toArray [(b32 0#32), (b32 0#32), (b32 0#32), (b32 0#32), (b32 0#32), (b32 0#32), (b32 0#32), (b32 0#32), (.slice none 0 0), (.int .i64 0)])) := ⟨by kernel_rfl⟩
instance : Siz Try.prog 148 10 := ⟨by kernel_rfl⟩
instance : Byt Try.prog 148 64 := ⟨by kernel_rfl⟩
instance : Agg Try.prog 148 true := ⟨by kernel_rfl⟩
instance : Plc Try.prog 148 [(0, 10)] := ⟨by kernel_rfl⟩
instance : Ngd Try.prog 148 := ⟨by kernel_rfl⟩
instance : Zer Try.prog 148 (.agg (List.toArray [(b32 0#32), (b32 0#32), (b32 0#32), (b32 0#32), (b32 0#32), (b32 0#32), (b32 0#32), (b32 0#32), (.slice none 0 0), (.int .i64 0)])) := ⟨by kernel_rfl⟩
instance : Siz Try.prog 149 11 := ⟨by kernel_rfl⟩
instance : Byt Try.prog 149 88 := ⟨by kernel_rfl⟩
instance : Agg Try.prog 149 true := ⟨by kernel_rfl⟩
instance : Plc Try.prog 149 [(0, 10), (10, 1)] := ⟨by kernel_rfl⟩
instance : Ngd Try.prog 149 := ⟨by kernel_rfl⟩
instance : Zer Try.prog 149 (.agg (List.toArray [(b32 0#32), (b32 0#32), (b32 0#32), (b32 0#32), (b32 0#32), (b32 0#32), (b32 0#32), (b32 0#32), (.slice none 0 0), (.int .i64 0), (.slice none 0 0)])) := ⟨by kernel_rfl⟩
instance : Siz Try.prog 150 11 := ⟨by kernel_rfl⟩
instance : Byt Try.prog 150 88 := ⟨by kernel_rfl⟩
instance : Agg Try.prog 150 true := ⟨by kernel_rfl⟩
instance : Plc Try.prog 150 [(0, 10), (10, 1)] := ⟨by kernel_rfl⟩
instance : Ngd Try.prog 150 := ⟨by kernel_rfl⟩
instance : Zer Try.prog 150 (.agg (List.toArray [(b32 0#32), (b32 0#32), (b32 0#32), (b32 0#32), (b32 0#32), (b32 0#32), (b32 0#32), (b32 0#32), (.slice none 0 0), (.int .i64 0), (.slice none 0 0)])) := ⟨by kernel_rfl⟩
instance : Und Try.prog 153 (.array 64 102) := ⟨Try.underlying153⟩
instance : Siz Try.prog 153 64 := ⟨by kernel_rfl⟩
instance : Byt Try.prog 153 256 := ⟨by kernel_rfl⟩
instance : Agg Try.prog 153 true := ⟨by kernel_rfl⟩
instance : Ngd Try.prog 153 := ⟨by kernel_rfl⟩
instance : Zer Try.prog 153 (.agg (List.toArray [(b32 0#32), (b32 0#32), (b32 0#32), (b32 0#32), (b32 0#32), (b32 0#32), (b32 0#32), (b32 0#32), (b32 0#32), (b32 0#32), (b32 0#32), (b32 0#32), (b32 0#32), (b32 0#32), (b32 0#32), (b32 0#32), (b32 0#32), (b32 0#32), (b32 0#32), (b32 0#32), (b32 0#32), (b32 0#32), (b32 0#32), (b32 0#32), (b32 0#32), (b32 0#32), (b32 0#32), (b32 0#32), (b32 0#32), (b32 0#32), (b32 0#32), (b32 0#32), (b32 0#32), (b32 0#32), (b32 0#32), (b32 0#32), (b32 0#32), (b32 0#32), (b32 0#32), (b32 0#32), (b32 0#32), (b32 0#32), (b32 0#32), (b32 0#32), (b32 0#32), (b32 0#32), (b32 0#32), (b32 0#32), (b32 0#32), (b32 0#32), (b32 0#32), (b32 0#32), (b32 0#32), (b32 0#32), (b32 0#32), (b32 0#32), (b32 0#32), (b32 0#32), (b32 0#32), (b32 0#32), (b32 0#32), (b32 0#32), (b32 0#32), (b32 0#32)])) := ⟨by kernel_rfl⟩
instance : Und Try.prog 158 (.slice 98) := ⟨Try.underlying158⟩
instance : Siz Try.prog 158 1 := ⟨by kernel_rfl⟩
instance : Byt Try.prog 158 24 := ⟨by kernel_rfl⟩
instance : Agg Try.prog 158 false := ⟨by kernel_rfl⟩
instance : One Try.prog 158 := ⟨by kernel_rfl⟩
instance : Zer Try.prog 158 (.slice none 0 0) := ⟨by kernel_rfl⟩
instance : Und Try.prog 166 (.array 8 42) := ⟨Try.underlying166⟩
instance : Siz Try.prog 166 8 := ⟨by kernel_rfl⟩
instance : Byt Try.prog 166 64 := ⟨by kernel_rfl⟩
instance : Agg Try.prog 166 true := ⟨by kernel_rfl⟩
instance : Ngd Try.prog 166 := ⟨by kernel_rfl⟩
instance : Zer Try.prog 166 (.agg (List.toArray [(b64 0#64), (b64 0#64), (b64 0#64), (b64 0#64), (b64 0#64), (b64 0#64), (b64 0#64), (b64 0#64)])) := ⟨by kernel_rfl⟩
instance : Und Try.prog 174 (.pointer 146) := ⟨Try.underlying174⟩
instance : Siz Try.prog 174 1 := ⟨by kernel_rfl⟩
instance : Byt Try.prog 174 8 := ⟨by kernel_rfl⟩
instance : Agg Try.prog 174 false := ⟨by kernel_rfl⟩
instance : One Try.prog 174 := ⟨by kernel_rfl⟩
instance : Zer Try.prog 174 (.pointer none) := ⟨by kernel_rfl⟩
instance : Siz Try.prog 183 4 := ⟨by kernel_rfl⟩
instance : Byt Try.prog 183 40 := ⟨by kernel_rfl⟩
instance : Agg Try.prog 183 true := ⟨by kernel_rfl⟩
instance : Plc Try.prog 183 [(0, 1), (1, 1), (2, 1), (3, 1)] := ⟨by kernel_rfl⟩
instance : Ngd Try.prog 183 := ⟨by kernel_rfl⟩
instance : Zer Try.prog 183 (.agg (List.toArray [(.pointer none), (.pointer none), (.pointer none), (.string .empty)])) := ⟨by kernel_rfl⟩
instance : Und Try.prog 185 (.array 0 16) := ⟨Try.underlying185⟩
instance : Siz Try.prog 185 0 := ⟨by kernel_rfl⟩
instance : Byt Try.prog 185 0 := ⟨by kernel_rfl⟩
instance : Agg Try.prog 185 true := ⟨by kernel_rfl⟩
instance : Ngd Try.prog 185 := ⟨by kernel_rfl⟩
instance : Zer Try.prog 185 (.agg (List.toArray [])) := ⟨by kernel_rfl⟩
instance : Siz Try.prog 186 0 := ⟨by kernel_rfl⟩
instance : Byt Try.prog 186 0 := ⟨by kernel_rfl⟩
instance : Agg Try.prog 186 true := ⟨by kernel_rfl⟩
instance : Plc Try.prog 186 [(0, 0)] := ⟨by kernel_rfl⟩
instance : Ngd Try.prog 186 := ⟨by kernel_rfl⟩
instance : Zer Try.prog 186 (.agg (List.toArray [])) := ⟨by kernel_rfl⟩
instance : Und Try.prog 192 (.pointer 5) := ⟨Try.underlying192⟩
instance : Siz Try.prog 192 1 := ⟨by kernel_rfl⟩
instance : Byt Try.prog 192 8 := ⟨by kernel_rfl⟩
instance : Agg Try.prog 192 false := ⟨by kernel_rfl⟩
instance : One Try.prog 192 := ⟨by kernel_rfl⟩
instance : Zer Try.prog 192 (.pointer none) := ⟨by kernel_rfl⟩
instance : Siz Try.prog 195 11 := ⟨by kernel_rfl⟩
instance : Byt Try.prog 195 48 := ⟨by kernel_rfl⟩
instance : Agg Try.prog 195 true := ⟨by kernel_rfl⟩
instance : Plc Try.prog 195 [(0, 1), (1, 1), (2, 1), (3, 1), (4, 1), (5, 1), (6, 1), (7, 1), (8, 1), (9, 1), (10, 1)] := ⟨by kernel_rfl⟩
instance : Ngd Try.prog 195 := ⟨by kernel_rfl⟩
instance : Zer Try.prog 195 (.agg (List.toArray [(b64 0#64), (b64 0#64), (b32 0#32), (b8 0#8), (b8 0#8), (b8 0#8), (b8 0#8), .nilFunc, (.pointer none), (.int .i32 0), (.int .i32 0)])) := ⟨by kernel_rfl⟩
instance : Fld Try.prog 44 0 0 1 false := ⟨by kernel_rfl⟩
instance : Fld Try.prog 44 1 1 1 false := ⟨by kernel_rfl⟩
instance : Fld Try.prog 44 2 2 32 true := ⟨by kernel_rfl⟩
instance : Fld Try.prog 44 3 34 32 true := ⟨by kernel_rfl⟩
instance : Fld Try.prog 45 0 0 1 false := ⟨by kernel_rfl⟩
instance : Fld Try.prog 45 1 1 1 false := ⟨by kernel_rfl⟩
instance : Fld Try.prog 45 2 2 32 true := ⟨by kernel_rfl⟩
instance : Fld Try.prog 45 3 34 32 true := ⟨by kernel_rfl⟩
instance : Fld Try.prog 46 0 0 66 true := ⟨by kernel_rfl⟩
instance : Fld Try.prog 47 0 0 66 true := ⟨by kernel_rfl⟩
instance : Fld Try.prog 61 0 0 1 false := ⟨by kernel_rfl⟩
instance : Fld Try.prog 61 1 1 1 false := ⟨by kernel_rfl⟩
instance : Fld Try.prog 61 2 2 1 false := ⟨by kernel_rfl⟩
instance : Fld Try.prog 62 0 0 1 false := ⟨by kernel_rfl⟩
instance : Fld Try.prog 62 1 1 1 false := ⟨by kernel_rfl⟩
instance : Fld Try.prog 62 2 2 1 false := ⟨by kernel_rfl⟩
instance : Fld Try.prog 65 0 0 66 true := ⟨by kernel_rfl⟩
instance : Fld Try.prog 65 1 66 1 false := ⟨by kernel_rfl⟩
instance : Fld Try.prog 65 2 67 1 false := ⟨by kernel_rfl⟩
instance : Fld Try.prog 66 0 0 66 true := ⟨by kernel_rfl⟩
instance : Fld Try.prog 66 1 66 1 false := ⟨by kernel_rfl⟩
instance : Fld Try.prog 66 2 67 1 false := ⟨by kernel_rfl⟩
instance : Fld Try.prog 73 0 0 66 true := ⟨by kernel_rfl⟩
instance : Fld Try.prog 73 1 66 1 false := ⟨by kernel_rfl⟩
instance : Fld Try.prog 73 2 67 1 false := ⟨by kernel_rfl⟩
instance : Fld Try.prog 74 0 0 66 true := ⟨by kernel_rfl⟩
instance : Fld Try.prog 74 1 66 1 false := ⟨by kernel_rfl⟩
instance : Fld Try.prog 74 2 67 1 false := ⟨by kernel_rfl⟩
instance : Fld Try.prog 87 0 0 32 true := ⟨by kernel_rfl⟩
instance : Fld Try.prog 87 1 32 32 true := ⟨by kernel_rfl⟩
instance : Fld Try.prog 88 0 0 32 true := ⟨by kernel_rfl⟩
instance : Fld Try.prog 88 1 32 32 true := ⟨by kernel_rfl⟩
instance : Fld Try.prog 114 0 0 4 true := ⟨by kernel_rfl⟩
instance : Fld Try.prog 114 1 4 4 true := ⟨by kernel_rfl⟩
instance : Fld Try.prog 115 0 0 4 true := ⟨by kernel_rfl⟩
instance : Fld Try.prog 115 1 4 4 true := ⟨by kernel_rfl⟩
instance : Fld Try.prog 145 0 0 8 true := ⟨by kernel_rfl⟩
instance : Fld Try.prog 145 1 8 1 false := ⟨by kernel_rfl⟩
instance : Fld Try.prog 145 2 9 1 false := ⟨by kernel_rfl⟩
instance : Fld Try.prog 146 0 0 8 true := ⟨by kernel_rfl⟩
instance : Fld Try.prog 146 1 8 1 false := ⟨by kernel_rfl⟩
instance : Fld Try.prog 146 2 9 1 false := ⟨by kernel_rfl⟩
instance : Fld Try.prog 147 0 0 10 true := ⟨by kernel_rfl⟩
instance : Fld Try.prog 148 0 0 10 true := ⟨by kernel_rfl⟩
instance : Fld Try.prog 149 0 0 10 true := ⟨by kernel_rfl⟩
instance : Fld Try.prog 149 1 10 1 false := ⟨by kernel_rfl⟩
instance : Fld Try.prog 150 0 0 10 true := ⟨by kernel_rfl⟩
instance : Fld Try.prog 150 1 10 1 false := ⟨by kernel_rfl⟩
instance : Fld Try.prog 183 0 0 1 false := ⟨by kernel_rfl⟩
instance : Fld Try.prog 183 1 1 1 false := ⟨by kernel_rfl⟩
instance : Fld Try.prog 183 2 2 1 false := ⟨by kernel_rfl⟩
instance : Fld Try.prog 183 3 3 1 false := ⟨by kernel_rfl⟩
instance : Fld Try.prog 186 0 0 0 true := ⟨by kernel_rfl⟩
instance : Fld Try.prog 195 0 0 1 false := ⟨by kernel_rfl⟩
instance : Fld Try.prog 195 1 1 1 false := ⟨by kernel_rfl⟩
instance : Fld Try.prog 195 2 2 1 false := ⟨by kernel_rfl⟩
instance : Fld Try.prog 195 3 3 1 false := ⟨by kernel_rfl⟩
instance : Fld Try.prog 195 4 4 1 false := ⟨by kernel_rfl⟩
instance : Fld Try.prog 195 5 5 1 false := ⟨by kernel_rfl⟩
instance : Fld Try.prog 195 6 6 1 false := ⟨by kernel_rfl⟩
instance : Fld Try.prog 195 7 7 1 false := ⟨by kernel_rfl⟩
instance : Fld Try.prog 195 8 8 1 false := ⟨by kernel_rfl⟩
instance : Fld Try.prog 195 9 9 1 false := ⟨by kernel_rfl⟩
instance : Fld Try.prog 195 10 10 1 false := ⟨by kernel_rfl⟩
instance : Mnz Try.prog 90 5 := ⟨Try.f90, 33, Try.func90, by kernel_rfl, rfl, by kernel_rfl, by kernel_rfl, Try.underlying33⟩
instance : Cal Try.prog 2 := ⟨Try.f2, Try.func2, by kernel_rfl, rfl⟩
instance : Cal Try.prog 3 := ⟨Try.f3, Try.func3, by kernel_rfl, rfl⟩
instance : Cal Try.prog 4 := ⟨Try.f4, Try.func4, by kernel_rfl, rfl⟩
instance : Cal Try.prog 5 := ⟨Try.f5, Try.func5, by kernel_rfl, rfl⟩
instance : Cal Try.prog 6 := ⟨Try.f6, Try.func6, by kernel_rfl, rfl⟩
instance : Cal Try.prog 7 := ⟨Try.f7, Try.func7, by kernel_rfl, rfl⟩
instance : Cal Try.prog 8 := ⟨Try.f8, Try.func8, by kernel_rfl, rfl⟩
instance : Cal Try.prog 9 := ⟨Try.f9, Try.func9, by kernel_rfl, rfl⟩
instance : Cal Try.prog 10 := ⟨Try.f10, Try.func10, by kernel_rfl, rfl⟩
instance : Cal Try.prog 11 := ⟨Try.f11, Try.func11, by kernel_rfl, rfl⟩
instance : Cal Try.prog 12 := ⟨Try.f12, Try.func12, by kernel_rfl, rfl⟩
instance : Cal Try.prog 13 := ⟨Try.f13, Try.func13, by kernel_rfl, rfl⟩
instance : Cal Try.prog 14 := ⟨Try.f14, Try.func14, by kernel_rfl, rfl⟩
instance : Cal Try.prog 15 := ⟨Try.f15, Try.func15, by kernel_rfl, rfl⟩
instance : Cal Try.prog 16 := ⟨Try.f16, Try.func16, by kernel_rfl, rfl⟩
instance : Cal Try.prog 17 := ⟨Try.f17, Try.func17, by kernel_rfl, rfl⟩
instance : Cal Try.prog 18 := ⟨Try.f18, Try.func18, by kernel_rfl, rfl⟩
instance : Cal Try.prog 19 := ⟨Try.f19, Try.func19, by kernel_rfl, rfl⟩
instance : Cal Try.prog 20 := ⟨Try.f20, Try.func20, by kernel_rfl, rfl⟩
instance : Cal Try.prog 21 := ⟨Try.f21, Try.func21, by kernel_rfl, rfl⟩
instance : Cal Try.prog 22 := ⟨Try.f22, Try.func22, by kernel_rfl, rfl⟩
instance : Cal Try.prog 23 := ⟨Try.f23, Try.func23, by kernel_rfl, rfl⟩
instance : Cal Try.prog 24 := ⟨Try.f24, Try.func24, by kernel_rfl, rfl⟩
instance : Cal Try.prog 25 := ⟨Try.f25, Try.func25, by kernel_rfl, rfl⟩
instance : Cal Try.prog 26 := ⟨Try.f26, Try.func26, by kernel_rfl, rfl⟩
instance : Cal Try.prog 27 := ⟨Try.f27, Try.func27, by kernel_rfl, rfl⟩
instance : Cal Try.prog 28 := ⟨Try.f28, Try.func28, by kernel_rfl, rfl⟩
instance : Cal Try.prog 29 := ⟨Try.f29, Try.func29, by kernel_rfl, rfl⟩
instance : Cal Try.prog 30 := ⟨Try.f30, Try.func30, by kernel_rfl, rfl⟩
instance : Cal Try.prog 31 := ⟨Try.f31, Try.func31, by kernel_rfl, rfl⟩
instance : Cal Try.prog 32 := ⟨Try.f32, Try.func32, by kernel_rfl, rfl⟩
instance : Cal Try.prog 33 := ⟨Try.f33, Try.func33, by kernel_rfl, rfl⟩
instance : Cal Try.prog 34 := ⟨Try.f34, Try.func34, by kernel_rfl, rfl⟩
instance : Cal Try.prog 35 := ⟨Try.f35, Try.func35, by kernel_rfl, rfl⟩
instance : Cal Try.prog 36 := ⟨Try.f36, Try.func36, by kernel_rfl, rfl⟩
instance : Cal Try.prog 37 := ⟨Try.f37, Try.func37, by kernel_rfl, rfl⟩
instance : Cal Try.prog 38 := ⟨Try.f38, Try.func38, by kernel_rfl, rfl⟩
instance : Cal Try.prog 39 := ⟨Try.f39, Try.func39, by kernel_rfl, rfl⟩
instance : Cal Try.prog 40 := ⟨Try.f40, Try.func40, by kernel_rfl, rfl⟩
instance : Cal Try.prog 41 := ⟨Try.f41, Try.func41, by kernel_rfl, rfl⟩
instance : Cal Try.prog 42 := ⟨Try.f42, Try.func42, by kernel_rfl, rfl⟩
instance : Cal Try.prog 43 := ⟨Try.f43, Try.func43, by kernel_rfl, rfl⟩
instance : Cal Try.prog 44 := ⟨Try.f44, Try.func44, by kernel_rfl, rfl⟩
instance : Cal Try.prog 45 := ⟨Try.f45, Try.func45, by kernel_rfl, rfl⟩
instance : Cal Try.prog 46 := ⟨Try.f46, Try.func46, by kernel_rfl, rfl⟩
instance : Cal Try.prog 47 := ⟨Try.f47, Try.func47, by kernel_rfl, rfl⟩
instance : Cal Try.prog 48 := ⟨Try.f48, Try.func48, by kernel_rfl, rfl⟩
instance : Cal Try.prog 49 := ⟨Try.f49, Try.func49, by kernel_rfl, rfl⟩
instance : Cal Try.prog 50 := ⟨Try.f50, Try.func50, by kernel_rfl, rfl⟩
instance : Cal Try.prog 51 := ⟨Try.f51, Try.func51, by kernel_rfl, rfl⟩
instance : Cal Try.prog 52 := ⟨Try.f52, Try.func52, by kernel_rfl, rfl⟩
instance : Cal Try.prog 53 := ⟨Try.f53, Try.func53, by kernel_rfl, rfl⟩
instance : Cal Try.prog 54 := ⟨Try.f54, Try.func54, by kernel_rfl, rfl⟩
instance : Cal Try.prog 55 := ⟨Try.f55, Try.func55, by kernel_rfl, rfl⟩
instance : Cal Try.prog 56 := ⟨Try.f56, Try.func56, by kernel_rfl, rfl⟩
instance : Cal Try.prog 57 := ⟨Try.f57, Try.func57, by kernel_rfl, rfl⟩
instance : Cal Try.prog 58 := ⟨Try.f58, Try.func58, by kernel_rfl, rfl⟩
instance : Cal Try.prog 59 := ⟨Try.f59, Try.func59, by kernel_rfl, rfl⟩
instance : Cal Try.prog 60 := ⟨Try.f60, Try.func60, by kernel_rfl, rfl⟩
instance : Cal Try.prog 61 := ⟨Try.f61, Try.func61, by kernel_rfl, rfl⟩
instance : Cal Try.prog 62 := ⟨Try.f62, Try.func62, by kernel_rfl, rfl⟩
instance : Cal Try.prog 63 := ⟨Try.f63, Try.func63, by kernel_rfl, rfl⟩
instance : Cal Try.prog 64 := ⟨Try.f64, Try.func64, by kernel_rfl, rfl⟩
instance : Cal Try.prog 65 := ⟨Try.f65, Try.func65, by kernel_rfl, rfl⟩
instance : Cal Try.prog 66 := ⟨Try.f66, Try.func66, by kernel_rfl, rfl⟩
instance : Cal Try.prog 67 := ⟨Try.f67, Try.func67, by kernel_rfl, rfl⟩
instance : Cal Try.prog 68 := ⟨Try.f68, Try.func68, by kernel_rfl, rfl⟩
instance : Cal Try.prog 69 := ⟨Try.f69, Try.func69, by kernel_rfl, rfl⟩
instance : Cal Try.prog 70 := ⟨Try.f70, Try.func70, by kernel_rfl, rfl⟩
instance : Cal Try.prog 71 := ⟨Try.f71, Try.func71, by kernel_rfl, rfl⟩
instance : Cal Try.prog 72 := ⟨Try.f72, Try.func72, by kernel_rfl, rfl⟩
instance : Cal Try.prog 73 := ⟨Try.f73, Try.func73, by kernel_rfl, rfl⟩
instance : Cal Try.prog 74 := ⟨Try.f74, Try.func74, by kernel_rfl, rfl⟩
instance : Cal Try.prog 75 := ⟨Try.f75, Try.func75, by kernel_rfl, rfl⟩
instance : Cal Try.prog 76 := ⟨Try.f76, Try.func76, by kernel_rfl, rfl⟩
instance : Cal Try.prog 77 := ⟨Try.f77, Try.func77, by kernel_rfl, rfl⟩
instance : Cal Try.prog 78 := ⟨Try.f78, Try.func78, by kernel_rfl, rfl⟩
instance : Cal Try.prog 79 := ⟨Try.f79, Try.func79, by kernel_rfl, rfl⟩
instance : Cal Try.prog 80 := ⟨Try.f80, Try.func80, by kernel_rfl, rfl⟩
instance : Cal Try.prog 81 := ⟨Try.f81, Try.func81, by kernel_rfl, rfl⟩
instance : Cal Try.prog 82 := ⟨Try.f82, Try.func82, by kernel_rfl, rfl⟩
instance : Cal Try.prog 83 := ⟨Try.f83, Try.func83, by kernel_rfl, rfl⟩
instance : Cal Try.prog 84 := ⟨Try.f84, Try.func84, by kernel_rfl, rfl⟩
instance : Cal Try.prog 85 := ⟨Try.f85, Try.func85, by kernel_rfl, rfl⟩
instance : Cal Try.prog 86 := ⟨Try.f86, Try.func86, by kernel_rfl, rfl⟩
instance : Cal Try.prog 87 := ⟨Try.f87, Try.func87, by kernel_rfl, rfl⟩
instance : Cal Try.prog 88 := ⟨Try.f88, Try.func88, by kernel_rfl, rfl⟩
instance : Cal Try.prog 89 := ⟨Try.f89, Try.func89, by kernel_rfl, rfl⟩
instance : Cal Try.prog 91 := ⟨Try.f91, Try.func91, by kernel_rfl, rfl⟩
instance : Cal Try.prog 92 := ⟨Try.f92, Try.func92, by kernel_rfl, rfl⟩
instance : Cal Try.prog 93 := ⟨Try.f93, Try.func93, by kernel_rfl, rfl⟩
instance : Cal Try.prog 95 := ⟨Try.f95, Try.func95, by kernel_rfl, rfl⟩
instance : Cal Try.prog 96 := ⟨Try.f96, Try.func96, by kernel_rfl, rfl⟩
instance : Cal Try.prog 97 := ⟨Try.f97, Try.func97, by kernel_rfl, rfl⟩
instance : Cal Try.prog 98 := ⟨Try.f98, Try.func98, by kernel_rfl, rfl⟩
instance : Cal Try.prog 99 := ⟨Try.f99, Try.func99, by kernel_rfl, rfl⟩
instance : Cal Try.prog 100 := ⟨Try.f100, Try.func100, by kernel_rfl, rfl⟩
instance : Cal Try.prog 101 := ⟨Try.f101, Try.func101, by kernel_rfl, rfl⟩
instance : Cal Try.prog 102 := ⟨Try.f102, Try.func102, by kernel_rfl, rfl⟩
instance : Cal Try.prog 103 := ⟨Try.f103, Try.func103, by kernel_rfl, rfl⟩
instance : Cal Try.prog 104 := ⟨Try.f104, Try.func104, by kernel_rfl, rfl⟩
instance : Cal Try.prog 105 := ⟨Try.f105, Try.func105, by kernel_rfl, rfl⟩
instance : Cal Try.prog 106 := ⟨Try.f106, Try.func106, by kernel_rfl, rfl⟩
instance : Cal Try.prog 108 := ⟨Try.f108, Try.func108, by kernel_rfl, rfl⟩
instance : Cal Try.prog 109 := ⟨Try.f109, Try.func109, by kernel_rfl, rfl⟩
instance : Cal Try.prog 110 := ⟨Try.f110, Try.func110, by kernel_rfl, rfl⟩
instance : Cal Try.prog 111 := ⟨Try.f111, Try.func111, by kernel_rfl, rfl⟩
instance : Cal Try.prog 112 := ⟨Try.f112, Try.func112, by kernel_rfl, rfl⟩
instance : Cal Try.prog 113 := ⟨Try.f113, Try.func113, by kernel_rfl, rfl⟩
instance : Cal Try.prog 114 := ⟨Try.f114, Try.func114, by kernel_rfl, rfl⟩
instance : Cal Try.prog 115 := ⟨Try.f115, Try.func115, by kernel_rfl, rfl⟩
instance : Cal Try.prog 116 := ⟨Try.f116, Try.func116, by kernel_rfl, rfl⟩
instance : Cal Try.prog 117 := ⟨Try.f117, Try.func117, by kernel_rfl, rfl⟩
instance : Cal Try.prog 118 := ⟨Try.f118, Try.func118, by kernel_rfl, rfl⟩
instance : Cal Try.prog 119 := ⟨Try.f119, Try.func119, by kernel_rfl, rfl⟩
instance : Cal Try.prog 120 := ⟨Try.f120, Try.func120, by kernel_rfl, rfl⟩
instance : Cal Try.prog 121 := ⟨Try.f121, Try.func121, by kernel_rfl, rfl⟩
end Go.Sx

/-
  Contracts of the reference's copies and equality of lists of bytes, and of the codec's padding with its reference. Each list is at most 2^47 bytes long.
-/
namespace Go.Sx
open Go Go.Proofs

theorem Copy_spec (w : World) (p : Option Addr) (n c : Nat) (l : List (BitVec 8)) (hr : RdV w p (bs l)) (hn : l.length = n) (hbig : n ≤ 140737488355328) :
    Spec Try.prog 15 #[.slice p n c] w (σ := Ow) (fun _ => True) (fun x => x.sl n) Nob (fun x => [x.ck 5 1 (bs l)]) := by
  refine enter Try.func15 rfl rfl (Mem.start w) ?_
  (repeat refine g_seq ?_)
  refine g_region ?_
  refine g_pu rfl rfl rfl (pu_assign rfl rfl) ?_
  refine g_nil ?_
  (repeat refine g_seq ?_)
  refine g_region ?_
  refine g_lo [3] rfl rfl rfl rfl (lo_buildSlice0 rfl) (fun b3 hb3 => ?_)
  refine g_pu rfl rfl rfl (pu_move rfl rfl) ?_
  refine g_own 3 (L := []) (J := []) (c := 0) (s := 1) rfl (by simp) (by omega) ?_
  refine g_append1 3 (bs l) rfl rfl rfl rfl rfl rfl rfl rfl rfl (fun w' hm => hr.mem0 hm) (by rw [bs_length, hn]) (oneCell_bs l) (by omega) (by omega) (fun p' c' => ?_)
  refine g_pu rfl rfl rfl (pu_assign rfl rfl) ?_
  refine g_nil ?_
  exact g_ret1 rfl rfl (fun w' hm => ⟨⟨p', c'⟩, trivial, by simp [Ow.sl], hm.grows [3] ⟨rfl, trivial⟩ rfl⟩)

theorem Equal_spec (w : World) (p q : Option Addr) (n c n' c' : Nat) (l l' : List (BitVec 8)) (hr : RdV w p (bs l)) (hn : l.length = n) (hr' : RdV w q (bs l')) (hn' : l'.length = n') (hbig : n ≤ 140737488355328) (hbig' : n' ≤ 140737488355328) :
    Spec Try.prog 21 #[.slice p n c, .slice q n' c'] w (σ := Unit) (fun _ => True) (fun _ => .bool (decide (l = l'))) Nob (fun _ => []) := by
  refine enter Try.func21 rfl rfl (Mem.start w) ?_
  (repeat refine g_seq ?_)
  refine g_region ?_
  refine g_pu rfl rfl rfl (pu_assign rfl rfl) ?_
  refine g_nil ?_
  (repeat refine g_seq ?_)
  refine g_region ?_
  refine g_pu rfl rfl rfl (pu_move rfl rfl) ?_
  first | refine g_pu rfl rfl rfl (pu_len rfl rfl) ?_ | refine g_pu rfl rfl rfl (pu_lenS rfl rfl) ?_
  refine g_pu rfl rfl rfl (pu_move rfl rfl) ?_
  first | refine g_pu rfl rfl rfl (pu_len rfl rfl) ?_ | refine g_pu rfl rfl rfl (pu_lenS rfl rfl) ?_
  first | refine g_pu rfl rfl rfl (pu_neq_t rfl rfl rfl (by omega)) ?_ | refine g_pu rfl rfl rfl (pu_neq_f rfl rfl rfl (by omega)) ?_ | refine g_pu rfl rfl rfl (pu_neq rfl rfl rfl) ?_
  refine g_nil ?_
  refine g_if rfl (fun h => ?_) (fun h => ?_)
  · (repeat refine g_seq ?_)
    refine g_region ?_
    refine g_pu rfl rfl rfl (pu_assign rfl rfl) ?_
    refine g_nil ?_
    refine g_ret1 rfl rfl (fun w' hm => ⟨(), trivial, ?_, hm.grows [] trivial rfl⟩)
    have : ¬ l = l' := by rintro rfl; omega
    simp [this]
  · refine g_skip ?_
    (repeat refine g_seq ?_)
    refine g_region ?_
    refine g_pu rfl rfl rfl (pu_assign rfl rfl) ?_
    refine g_nil ?_
    refine g_block (g_loop (σ := Nat) (fun i => [(0, .slice p n c), (1, .slice q n' c'), (5, .int .i64 (i : Int))]) (fun _ => []) (fun i => i ≤ n ∧ l.take i = l'.take i) (fun i => n - i) 0 ⟨rfl, rfl, rfl, trivial⟩ trivial (by simp) ?_)
    intro i ⟨hi, heq⟩
    (repeat refine g_seq ?_)
    refine g_region ?_
    refine g_pu rfl rfl rfl (pu_move rfl rfl) ?_
    refine g_pu rfl rfl rfl (pu_move rfl rfl) ?_
    first | refine g_pu rfl rfl rfl (pu_len rfl rfl) ?_ | refine g_pu rfl rfl rfl (pu_lenS rfl rfl) ?_
    first | refine g_pu rfl rfl rfl (pu_lss_t rfl rfl rfl (by omega)) ?_ | refine g_pu rfl rfl rfl (pu_lss_f rfl rfl rfl (by omega)) ?_ | refine g_pu rfl rfl rfl (pu_lss rfl rfl rfl) ?_
    refine g_nil ?_
    refine g_if rfl (fun h => ?_) (fun h => ?_)
    · have h1 : l[i]? = some l[i] := List.getElem?_eq_getElem (by omega)
      have h2 : l'[i]? = some l'[i] := List.getElem?_eq_getElem (by omega)
      refine g_skip ?_
      (repeat refine g_seq ?_); refine g_block ?_
      (repeat refine g_seq ?_)
      refine g_any (9, []) ?_
      refine a_pu 0 rfl rfl rfl rfl (pu_move rfl rfl) rfl rfl (by kernel_rfl) ?_
      refine a_pu 1 rfl rfl rfl rfl (pu_move rfl rfl) rfl rfl (by kernel_rfl) ?_
      refine a_pu 2 rfl rfl rfl rfl (pu_atR i hr rfl rfl rfl rfl (by omega) (by rw [bs_length]; omega)) rfl rfl (by kernel_rfl) ?_
      refine a_pu 3 rfl rfl rfl rfl (pu_rd0 hr rfl rfl (bs_get h1)) rfl rfl (by kernel_rfl) ?_
      refine a_pu 4 rfl rfl rfl rfl (pu_move rfl rfl) rfl rfl (by kernel_rfl) ?_
      refine a_pu 5 rfl rfl rfl rfl (pu_move rfl rfl) rfl rfl (by kernel_rfl) ?_
      refine a_pu 6 rfl rfl rfl rfl (pu_atR i hr' rfl rfl rfl rfl (by omega) (by rw [bs_length]; omega)) rfl rfl (by kernel_rfl) ?_
      refine a_pu 7 rfl rfl rfl rfl (pu_rd0 hr' rfl rfl (bs_get h2)) rfl rfl (by kernel_rfl) ?_
      first | refine a_pu 8 rfl rfl rfl rfl (pu_neq8_t rfl rfl rfl (by first | assumption | decide)) rfl rfl (by kernel_rfl) ?_ | refine a_pu 8 rfl rfl rfl rfl (pu_neq8_f rfl rfl rfl (by first | rfl | assumption | decide)) rfl rfl (by kernel_rfl) ?_ | refine a_pu 8 rfl rfl rfl rfl (pu_neq8 rfl rfl rfl) rfl rfl (by kernel_rfl) ?_
      refine a_done (by kernel_rfl) ?_
      refine g_if rfl (fun hne => ?_) (fun heq' => ?_)
      · (repeat refine g_seq ?_)
        refine g_region ?_
        refine g_pu rfl rfl rfl (pu_assign rfl rfl) ?_
        refine g_nil ?_
        refine g_ret1 rfl rfl (fun w' hm => ⟨(), trivial, ?_, hm.grows [] trivial rfl⟩)
        have : ¬ l = l' := by rintro rfl; exact hne rfl
        simp [this]
      · refine g_skip (g_blk ?_)
        (repeat refine g_seq ?_)
        refine g_region ?_
        refine g_pu rfl rfl rfl (pu_move rfl rfl) ?_
        refine g_pu rfl rfl rfl (pu_addI rfl rfl rfl (by omega)) ?_
        refine g_pu rfl rfl rfl (pu_assign rfl rfl) ?_
        refine g_nil ?_
        refine g_round (i + 1) ⟨by omega, ?_⟩ (by omega) ⟨rfl, rfl, rfl, trivial⟩ trivial
        rw [List.take_add_one, List.take_add_one, heq, h1, h2]
        have : l[i] = l'[i] := by simpa using heq'
        rw [this]
    · refine g_exit rfl ?_
      (repeat refine g_seq ?_)
      refine g_region ?_
      refine g_pu rfl rfl rfl (pu_assign rfl rfl) ?_
      refine g_nil ?_
      refine g_ret1 rfl rfl (fun w' hm => ⟨(), trivial, ?_, hm.grows [] trivial rfl⟩)
      have h1 : i = n := by omega
      rw [h1, List.take_of_length_le (by omega), List.take_of_length_le (by omega)] at heq
      simp [heq]

/-! ## Padding -/
def padE (n : Nat) (z : Int) : Int := if z < 0 ∨ z > 16777216 then 1 else if (n : Int) > z then 2 else 0
def padL (l : List (BitVec 8)) (z : Int) : List (BitVec 8) := if padE l.length z = 0 then l ++ List.replicate (z.toNat - l.length) 0#8 else []

theorem Pad_spec (w : World) (p : Option Addr) (n c : Nat) (l : List (BitVec 8)) (z : Int) (hr : RdV w p (bs l)) (hn : l.length = n) (hbig : n ≤ 140737488355328) :
    Spec Try.prog 112 #[.slice p n c, .int .i64 z] w (σ := Ow) (fun _ => True) (fun x => .tuple #[x.sl (padL l z).length, .int .i64 (padE n z)]) Nob (fun x => [x.ck 5 1 (bs (padL l z))]) := by
  refine enter Try.func112 rfl rfl (Mem.start w) ?_
  (repeat refine g_seq ?_)
  refine g_region ?_
  refine g_pu rfl rfl rfl (pu_assign rfl rfl) ?_
  refine g_pu rfl rfl rfl (pu_assign rfl rfl) ?_
  refine g_nil ?_
  by_cases h1 : z < 0
  · (repeat refine g_seq ?_)
    refine g_region ?_
    refine g_pu rfl rfl rfl (pu_move rfl rfl) ?_
    first | refine g_pu rfl rfl rfl (pu_lss_t rfl rfl rfl (by omega)) ?_ | refine g_pu rfl rfl rfl (pu_lss_f rfl rfl rfl (by omega)) ?_ | refine g_pu rfl rfl rfl (pu_lss rfl rfl rfl) ?_
    refine g_pu rfl rfl rfl (pu_move rfl rfl) ?_
    first | refine g_pass rfl rfl rfl ?_ | refine g_pu rfl rfl rfl (pu_move rfl rfl) ?_
    first | refine g_pass rfl rfl rfl ?_ | refine g_pu rfl rfl rfl (pu_gtr_t rfl rfl rfl (by omega)) ?_ | refine g_pu rfl rfl rfl (pu_gtr_f rfl rfl rfl (by omega)) ?_ | refine g_pu rfl rfl rfl (pu_gtr rfl rfl rfl) ?_
    first | refine g_pu rfl rfl rfl (pu_pick_t rfl rfl rfl) ?_ | refine g_pu rfl rfl rfl (pu_pick_f rfl rfl rfl) ?_
    refine g_nil ?_
    refine g_cond_t rfl ?_
    (repeat refine g_seq ?_)
    refine g_region ?_
    refine g_pu rfl rfl rfl (pu_assign rfl rfl) ?_
    refine g_pu rfl rfl rfl (pu_assign rfl rfl) ?_
    refine g_nil ?_
    refine g_nilOwn 90 5 1 rfl (g_ret2 rfl rfl rfl (fun w' hm => ?_))
    have hE : padE n z = 1 := by simp [padE, h1]
    have hL : padL l z = [] := by simp [padL, hn, hE]
    exact ⟨⟨none, 0⟩, trivial, by rw [hL, hE]; rfl, by rw [hL]; exact hm.grows [90] ⟨rfl, trivial⟩ rfl⟩
  · by_cases h2 : z > 16777216
    · (repeat refine g_seq ?_)
      refine g_region ?_
      refine g_pu rfl rfl rfl (pu_move rfl rfl) ?_
      first | refine g_pu rfl rfl rfl (pu_lss_t rfl rfl rfl (by omega)) ?_ | refine g_pu rfl rfl rfl (pu_lss_f rfl rfl rfl (by omega)) ?_ | refine g_pu rfl rfl rfl (pu_lss rfl rfl rfl) ?_
      refine g_pu rfl rfl rfl (pu_move rfl rfl) ?_
      first | refine g_pass rfl rfl rfl ?_ | refine g_pu rfl rfl rfl (pu_move rfl rfl) ?_
      first | refine g_pass rfl rfl rfl ?_ | refine g_pu rfl rfl rfl (pu_gtr_t rfl rfl rfl (by omega)) ?_ | refine g_pu rfl rfl rfl (pu_gtr_f rfl rfl rfl (by omega)) ?_ | refine g_pu rfl rfl rfl (pu_gtr rfl rfl rfl) ?_
      first | refine g_pu rfl rfl rfl (pu_pick_t rfl rfl rfl) ?_ | refine g_pu rfl rfl rfl (pu_pick_f rfl rfl rfl) ?_
      refine g_nil ?_
      refine g_cond_t rfl ?_
      (repeat refine g_seq ?_)
      refine g_region ?_
      refine g_pu rfl rfl rfl (pu_assign rfl rfl) ?_
      refine g_pu rfl rfl rfl (pu_assign rfl rfl) ?_
      refine g_nil ?_
      refine g_nilOwn 90 5 1 rfl (g_ret2 rfl rfl rfl (fun w' hm => ?_))
      have hE : padE n z = 1 := by simp [padE, h2]
      have hL : padL l z = [] := by simp [padL, hn, hE]
      exact ⟨⟨none, 0⟩, trivial, by rw [hL, hE]; rfl, by rw [hL]; exact hm.grows [90] ⟨rfl, trivial⟩ rfl⟩
    · (repeat refine g_seq ?_)
      refine g_region ?_
      refine g_pu rfl rfl rfl (pu_move rfl rfl) ?_
      first | refine g_pu rfl rfl rfl (pu_lss_t rfl rfl rfl (by omega)) ?_ | refine g_pu rfl rfl rfl (pu_lss_f rfl rfl rfl (by omega)) ?_ | refine g_pu rfl rfl rfl (pu_lss rfl rfl rfl) ?_
      refine g_pu rfl rfl rfl (pu_move rfl rfl) ?_
      first | refine g_pass rfl rfl rfl ?_ | refine g_pu rfl rfl rfl (pu_move rfl rfl) ?_
      first | refine g_pass rfl rfl rfl ?_ | refine g_pu rfl rfl rfl (pu_gtr_t rfl rfl rfl (by omega)) ?_ | refine g_pu rfl rfl rfl (pu_gtr_f rfl rfl rfl (by omega)) ?_ | refine g_pu rfl rfl rfl (pu_gtr rfl rfl rfl) ?_
      first | refine g_pu rfl rfl rfl (pu_pick_t rfl rfl rfl) ?_ | refine g_pu rfl rfl rfl (pu_pick_f rfl rfl rfl) ?_
      refine g_nil ?_
      refine g_cond_f rfl (g_skip ?_)
      by_cases h3 : (n : Int) > z
      · (repeat refine g_seq ?_)
        refine g_region ?_
        refine g_pu rfl rfl rfl (pu_move rfl rfl) ?_
        first | refine g_pu rfl rfl rfl (pu_len rfl rfl) ?_ | refine g_pu rfl rfl rfl (pu_lenS rfl rfl) ?_
        refine g_pu rfl rfl rfl (pu_move rfl rfl) ?_
        first | refine g_pu rfl rfl rfl (pu_gtr_t rfl rfl rfl (by omega)) ?_ | refine g_pu rfl rfl rfl (pu_gtr_f rfl rfl rfl (by omega)) ?_ | refine g_pu rfl rfl rfl (pu_gtr rfl rfl rfl) ?_
        refine g_nil ?_
        refine g_cond_t rfl ?_
        (repeat refine g_seq ?_)
        refine g_region ?_
        refine g_pu rfl rfl rfl (pu_assign rfl rfl) ?_
        refine g_pu rfl rfl rfl (pu_assign rfl rfl) ?_
        refine g_nil ?_
        refine g_nilOwn 90 5 1 rfl (g_ret2 rfl rfl rfl (fun w' hm => ?_))
        have hE : padE n z = 2 := by simp [padE, h1, h2, h3]
        have hL : padL l z = [] := by simp [padL, hn, hE]
        exact ⟨⟨none, 0⟩, trivial, by rw [hL, hE]; rfl, by rw [hL]; exact hm.grows [90] ⟨rfl, trivial⟩ rfl⟩
      · obtain ⟨k, rfl⟩ := Int.eq_ofNat_of_zero_le (show 0 ≤ z by omega)
        (repeat refine g_seq ?_)
        refine g_region ?_
        refine g_pu rfl rfl rfl (pu_move rfl rfl) ?_
        first | refine g_pu rfl rfl rfl (pu_len rfl rfl) ?_ | refine g_pu rfl rfl rfl (pu_lenS rfl rfl) ?_
        refine g_pu rfl rfl rfl (pu_move rfl rfl) ?_
        first | refine g_pu rfl rfl rfl (pu_gtr_t rfl rfl rfl (by omega)) ?_ | refine g_pu rfl rfl rfl (pu_gtr_f rfl rfl rfl (by omega)) ?_ | refine g_pu rfl rfl rfl (pu_gtr rfl rfl rfl) ?_
        refine g_nil ?_
        refine g_cond_f rfl (g_skip ?_)
        (repeat refine g_seq ?_)
        refine g_region ?_
        refine g_pu rfl rfl rfl (pu_move rfl rfl) ?_
        refine g_lo [18] rfl rfl rfl rfl (lo_make (n := k) (c := k) rfl rfl rfl (by omega) (by omega) (by omega) rfl) (fun b18 hb18 => ?_)
        refine g_pu rfl rfl rfl (pu_assign rfl rfl) ?_
        refine g_nil ?_
        (repeat refine g_seq ?_)
        refine g_region ?_
        refine g_pu rfl rfl rfl (pu_move rfl rfl) ?_
        refine g_pu rfl rfl rfl (pu_move rfl rfl) ?_
        refine g_copy 18 (bs l) rfl rfl rfl rfl rfl rfl rfl (fun w' hm => hr.mem0 hm) (by rw [bs_length, hn]) (by simp) (oneCell_bs l) ?_
        refine g_nil ?_
        (repeat refine g_seq ?_)
        refine g_region ?_
        refine g_pu rfl rfl rfl (pu_move rfl rfl) ?_
        refine g_pu rfl rfl rfl (pu_assign rfl rfl) ?_
        refine g_pu rfl rfl rfl (pu_assign rfl rfl) ?_
        refine g_nil ?_
        have hE : padE n (k : Int) = 0 := by simp [padE]; omega
        have hL : padL l (k : Int) = l ++ List.replicate (k - n) 0#8 := by simp [padL, hn, hE]
        have hmin : Nat.min n k = n := Nat.min_eq_left (by omega)
        have hrow : (List.replicate k (b8 0#8)).take 0 ++ (bs l).take (Nat.min n k) ++ (List.replicate k (b8 0#8)).drop (0 + Nat.min n k) = bs (padL l k) ++ [] := by
          have ht : (bs l).take n = bs l := List.take_of_length_le (by rw [bs_length]; omega)
          rw [hmin, hL, ht]
          simp [bs]
        have hlen : (padL l (k : Int)).length = k := by rw [hL]; simp; omega
        refine g_own 18 (L := bs (padL l k)) (J := []) (c := k) (s := 1) (congrArg (fun L => some (Ck.pt b18 (.cells (List.toArray L) 5 (0, 0)))) hrow) (by simp [bs_length, hlen]) (by omega) ?_
        exact g_ret2 rfl rfl rfl (fun w' hm => ⟨⟨some ⟨b18, 0, none⟩, k⟩, trivial, by rw [hlen, hE]; rfl, hm.grows [18] ⟨rfl, trivial⟩ rfl⟩)

end Go.Sx

/-
  Contracts in the words of 'By': copy, equality, padding. Looks of the codec and of its reference.
-/
namespace Go.Sx
open Go Go.Proofs

theorem Copy_b (w : World) {p : Option Addr} {n : Nat} (c : Nat) {l : List (BitVec 8)} (h : By w p n l) :
    Spec Try.prog 15 #[.slice p n c] w (σ := Ow) (fun _ => True) (fun x => x.sl n) Nob (fun x => [x.ck 5 1 (bs l)]) := Copy_spec w p n c l h.rd h.len h.big
theorem Equal_b (w : World) {p q : Option Addr} {n m : Nat} (c d : Nat) {a b : List (BitVec 8)} (h : By w p n a) (h' : By w q m b) :
    Spec Try.prog 21 #[.slice p n c, .slice q m d] w (σ := Unit) (fun _ => True) (fun _ => .bool (decide (a = b))) Nob (fun _ => []) := Equal_spec w p q n c m d a b h.rd h.len h'.rd h'.len h.big h'.big

end Go.Sx

/-
  Reading a number out of bytes: the codec's way and its reference's way come to the same. The order is 1 or 2, the width 1 to 8.
-/
namespace Go.Sx
open Go Go.Proofs

abbrev ShapeOk (o z : Int) : Prop := (o = 1 ∨ o = 2) ∧ 1 ≤ z ∧ z ≤ 8

theorem shape_b (w : World) (o z : Int) : Spec Try.prog 115 #[.int .i64 o, .int .i64 z] w (σ := Unit) (fun _ => True) (fun _ => .int .i64 (if ShapeOk o z then 0 else 1)) Nob (fun _ => []) := by
  refine enter Try.func115 rfl rfl (Mem.start w) ?_
  (repeat refine g_seq ?_)
  refine g_region ?_
  refine g_pu rfl rfl rfl (pu_assign rfl rfl) ?_
  refine g_nil ?_
  by_cases h : ShapeOk o z
  · have h1 : 1 ≤ z := h.2.1
    have h2 : z ≤ 8 := h.2.2
    rcases h.1 with h3 | h3 <;> (
      (repeat refine g_seq ?_)
      refine g_region ?_
      refine g_pu rfl rfl rfl (pu_move rfl rfl) ?_
      first | refine g_pu rfl rfl rfl (pu_neq_t rfl rfl rfl (by omega)) ?_ | refine g_pu rfl rfl rfl (pu_neq_f rfl rfl rfl (by omega)) ?_ | refine g_pu rfl rfl rfl (pu_neq rfl rfl rfl) ?_
      refine g_pu rfl rfl rfl (pu_move rfl rfl) ?_
      first | refine g_pass rfl rfl rfl ?_ | refine g_pu rfl rfl rfl (pu_move rfl rfl) ?_
      first | refine g_pass rfl rfl rfl ?_ | refine g_pu rfl rfl rfl (pu_neq_t rfl rfl rfl (by omega)) ?_ | refine g_pu rfl rfl rfl (pu_neq_f rfl rfl rfl (by omega)) ?_ | refine g_pu rfl rfl rfl (pu_neq rfl rfl rfl) ?_
      first | refine g_pu rfl rfl rfl (pu_pick_t rfl rfl rfl) ?_ | refine g_pu rfl rfl rfl (pu_pick_f rfl rfl rfl) ?_
      refine g_pu rfl rfl rfl (pu_move rfl rfl) ?_
      first | refine g_pass rfl rfl rfl ?_ | refine g_pu rfl rfl rfl (pu_move rfl rfl) ?_
      first | refine g_pass rfl rfl rfl ?_ | refine g_pu rfl rfl rfl (pu_lss_t rfl rfl rfl (by omega)) ?_ | refine g_pu rfl rfl rfl (pu_lss_f rfl rfl rfl (by omega)) ?_ | refine g_pu rfl rfl rfl (pu_lss rfl rfl rfl) ?_
      first | refine g_pu rfl rfl rfl (pu_pick_t rfl rfl rfl) ?_ | refine g_pu rfl rfl rfl (pu_pick_f rfl rfl rfl) ?_
      refine g_pu rfl rfl rfl (pu_move rfl rfl) ?_
      first | refine g_pass rfl rfl rfl ?_ | refine g_pu rfl rfl rfl (pu_move rfl rfl) ?_
      first | refine g_pass rfl rfl rfl ?_ | refine g_pu rfl rfl rfl (pu_gtr_t rfl rfl rfl (by omega)) ?_ | refine g_pu rfl rfl rfl (pu_gtr_f rfl rfl rfl (by omega)) ?_ | refine g_pu rfl rfl rfl (pu_gtr rfl rfl rfl) ?_
      first | refine g_pu rfl rfl rfl (pu_pick_t rfl rfl rfl) ?_ | refine g_pu rfl rfl rfl (pu_pick_f rfl rfl rfl) ?_
      refine g_nil ?_
      (repeat refine g_seq ?_)
      refine g_cond_f rfl (g_skip ?_)
      (repeat refine g_seq ?_)
      refine g_region ?_
      refine g_pu rfl rfl rfl (pu_assign rfl rfl) ?_
      refine g_nil ?_
      exact g_ret1 rfl rfl (fun w' hm => ⟨(), trivial, by rw [if_pos h], hm.grows [] trivial rfl⟩))
  · by_cases h1 : o = 1 <;> by_cases h2 : o = 2 <;> by_cases h3 : z < 1 <;> by_cases h4 : z > 8 <;> first | exact absurd ⟨by first | exact .inl h1 | exact .inr h2, by omega, by omega⟩ h | (
      (repeat refine g_seq ?_)
      refine g_region ?_
      refine g_pu rfl rfl rfl (pu_move rfl rfl) ?_
      first | refine g_pu rfl rfl rfl (pu_neq_t rfl rfl rfl (by omega)) ?_ | refine g_pu rfl rfl rfl (pu_neq_f rfl rfl rfl (by omega)) ?_ | refine g_pu rfl rfl rfl (pu_neq rfl rfl rfl) ?_
      refine g_pu rfl rfl rfl (pu_move rfl rfl) ?_
      first | refine g_pass rfl rfl rfl ?_ | refine g_pu rfl rfl rfl (pu_move rfl rfl) ?_
      first | refine g_pass rfl rfl rfl ?_ | refine g_pu rfl rfl rfl (pu_neq_t rfl rfl rfl (by omega)) ?_ | refine g_pu rfl rfl rfl (pu_neq_f rfl rfl rfl (by omega)) ?_ | refine g_pu rfl rfl rfl (pu_neq rfl rfl rfl) ?_
      first | refine g_pu rfl rfl rfl (pu_pick_t rfl rfl rfl) ?_ | refine g_pu rfl rfl rfl (pu_pick_f rfl rfl rfl) ?_
      refine g_pu rfl rfl rfl (pu_move rfl rfl) ?_
      first | refine g_pass rfl rfl rfl ?_ | refine g_pu rfl rfl rfl (pu_move rfl rfl) ?_
      first | refine g_pass rfl rfl rfl ?_ | refine g_pu rfl rfl rfl (pu_lss_t rfl rfl rfl (by omega)) ?_ | refine g_pu rfl rfl rfl (pu_lss_f rfl rfl rfl (by omega)) ?_ | refine g_pu rfl rfl rfl (pu_lss rfl rfl rfl) ?_
      first | refine g_pu rfl rfl rfl (pu_pick_t rfl rfl rfl) ?_ | refine g_pu rfl rfl rfl (pu_pick_f rfl rfl rfl) ?_
      refine g_pu rfl rfl rfl (pu_move rfl rfl) ?_
      first | refine g_pass rfl rfl rfl ?_ | refine g_pu rfl rfl rfl (pu_move rfl rfl) ?_
      first | refine g_pass rfl rfl rfl ?_ | refine g_pu rfl rfl rfl (pu_gtr_t rfl rfl rfl (by omega)) ?_ | refine g_pu rfl rfl rfl (pu_gtr_f rfl rfl rfl (by omega)) ?_ | refine g_pu rfl rfl rfl (pu_gtr rfl rfl rfl) ?_
      first | refine g_pu rfl rfl rfl (pu_pick_t rfl rfl rfl) ?_ | refine g_pu rfl rfl rfl (pu_pick_f rfl rfl rfl) ?_
      refine g_nil ?_
      (repeat refine g_seq ?_)
      refine g_cond_t rfl ?_
      (repeat refine g_seq ?_)
      refine g_region ?_
      refine g_pu rfl rfl rfl (pu_assign rfl rfl) ?_
      refine g_nil ?_
      exact g_ret1 rfl rfl (fun w' hm => ⟨(), trivial, by rw [if_neg h], hm.grows [] trivial rfl⟩))

theorem rshape_b (w : World) (o z : Int) : Spec Try.prog 99 #[.int .i64 o, .int .i64 z] w (σ := Unit) (fun _ => True) (fun _ => .bool (decide (ShapeOk o z))) Nob (fun _ => []) := by
  refine enter Try.func99 rfl rfl (Mem.start w) ?_
  (repeat refine g_seq ?_)
  refine g_region ?_
  refine g_pu rfl rfl rfl (pu_assign rfl rfl) ?_
  refine g_nil ?_
  by_cases h1 : o = 1 <;> by_cases h2 : o = 2 <;> by_cases h3 : z < 1 <;> by_cases h4 : z > 8 <;> (
    (repeat refine g_seq ?_)
    refine g_region ?_
    refine g_pu rfl rfl rfl (pu_move rfl rfl) ?_
    first | refine g_pu rfl rfl rfl (pu_eql_t rfl rfl rfl (by omega)) ?_ | refine g_pu rfl rfl rfl (pu_eql_f rfl rfl rfl (by omega)) ?_ | refine g_pu rfl rfl rfl (pu_eql rfl rfl rfl) ?_
    refine g_pu rfl rfl rfl (pu_move rfl rfl) ?_
    first | refine g_pass rfl rfl rfl ?_ | refine g_pu rfl rfl rfl (pu_move rfl rfl) ?_
    first | refine g_pass rfl rfl rfl ?_ | refine g_pu rfl rfl rfl (pu_eql_t rfl rfl rfl (by omega)) ?_ | refine g_pu rfl rfl rfl (pu_eql_f rfl rfl rfl (by omega)) ?_ | refine g_pu rfl rfl rfl (pu_eql rfl rfl rfl) ?_
    first | refine g_pu rfl rfl rfl (pu_pick_t rfl rfl rfl) ?_ | refine g_pu rfl rfl rfl (pu_pick_f rfl rfl rfl) ?_
    refine g_pu rfl rfl rfl (pu_move rfl rfl) ?_
    first | refine g_pass rfl rfl rfl ?_ | refine g_pu rfl rfl rfl (pu_move rfl rfl) ?_
    first | refine g_pass rfl rfl rfl ?_ | refine g_pu rfl rfl rfl (pu_geq_t rfl rfl rfl (by omega)) ?_ | refine g_pu rfl rfl rfl (pu_geq_f rfl rfl rfl (by omega)) ?_ | refine g_pu rfl rfl rfl (pu_geq rfl rfl rfl) ?_
    first | refine g_pu rfl rfl rfl (pu_pick_t rfl rfl rfl) ?_ | refine g_pu rfl rfl rfl (pu_pick_f rfl rfl rfl) ?_
    refine g_pu rfl rfl rfl (pu_move rfl rfl) ?_
    first | refine g_pass rfl rfl rfl ?_ | refine g_pu rfl rfl rfl (pu_move rfl rfl) ?_
    first | refine g_pass rfl rfl rfl ?_ | refine g_pu rfl rfl rfl (pu_leq_t rfl rfl rfl (by omega)) ?_ | refine g_pu rfl rfl rfl (pu_leq_f rfl rfl rfl (by omega)) ?_ | refine g_pu rfl rfl rfl (pu_leq rfl rfl rfl) ?_
    first | refine g_pu rfl rfl rfl (pu_pick_t rfl rfl rfl) ?_ | refine g_pu rfl rfl rfl (pu_pick_f rfl rfl rfl) ?_
    refine g_pu rfl rfl rfl (pu_assign rfl rfl) ?_
    refine g_nil ?_
    refine g_ret1 rfl rfl (fun w' hm => ⟨(), trivial, ?_, hm.grows [] trivial rfl⟩)
    first | exact congrArg (fun b => Ending.returned (.bool b)) (decide_eq_true (by unfold ShapeOk; omega)).symm | exact congrArg (fun b => Ending.returned (.bool b)) (decide_eq_false (by unfold ShapeOk; omega)).symm)

/-! ## The plain law -/
def beV (r : List (BitVec 8)) : BitVec 64 := r.foldl (fun n b => (n <<< 8) ||| b.setWidth 64) 0#64
def leV : List (BitVec 8) → BitVec 64
  | [] => 0#64
  | b :: t => b.setWidth 64 + 256#64 * leV t
def win (l : List (BitVec 8)) (t z : Nat) : List (BitVec 8) := (l.drop t).take z
def rdS (o : Int) (s : List (BitVec 8)) : List (BitVec 8) := if o = 2 then s else s.reverse
def getE (o : Int) (n : Nat) (t z : Int) : Int := if ¬ ShapeOk o z ∨ t < 0 then 1 else if (n : Int) < t + z then 2 else 0
def getV (o : Int) (l : List (BitVec 8)) (t z : Int) : BitVec 64 := if getE o l.length t z = 0 then beV (rdS o (win l t.toNat z.toNat)) else 0#64

theorem or_add (n : BitVec 64) (b : BitVec 8) : (n <<< 8) ||| b.setWidth 64 = b.setWidth 64 + 256#64 * n := by
  have h : (n <<< 8) &&& b.setWidth 64 = 0#64 := by
    apply BitVec.eq_of_getLsbD_eq
    intro i hi
    by_cases h : i < 8
    · simp [h]
    · simp [BitVec.getLsbD_of_ge b i (by omega)]
  rw [← BitVec.add_eq_or_of_and_eq_zero _ _ h, BitVec.add_comm]
  congr 1
  rw [BitVec.shiftLeft_eq_mul_twoPow, BitVec.mul_comm]
  rfl
theorem beV_snoc (r : List (BitVec 8)) (b : BitVec 8) : beV (r ++ [b]) = (beV r <<< 8) ||| b.setWidth 64 := by simp [beV]
theorem leV_rev (r : List (BitVec 8)) : leV r = beV r.reverse := by
  induction r with
  | nil => rfl
  | cons b r ih => rw [List.reverse_cons, beV_snoc, or_add, ← ih]; rfl
theorem beV_rev (r : List (BitVec 8)) : beV r = leV r.reverse := by rw [leV_rev, List.reverse_reverse]
theorem leV_snoc (t : List (BitVec 8)) (b : BitVec 8) : leV (t ++ [b]) = leV t + (256#64 ^ t.length) * b.setWidth 64 := by
  induction t with
  | nil => simp [leV]
  | cons a t ih =>
    simp only [List.cons_append, leV, ih, List.length_cons]
    rw [BitVec.mul_add, BitVec.add_assoc, ← BitVec.mul_assoc, BitVec.pow_succ, BitVec.mul_comm (256#64 ^ t.length) 256#64]
theorem win_length {l : List (BitVec 8)} {t z : Nat} (h : t + z ≤ l.length) : (win l t z).length = z := by simp [win]; omega
theorem win_get {l : List (BitVec 8)} {t z i : Nat} (hi : i < z) : (win l t z)[i]? = l[t + i]? := by simp [win, List.getElem?_take, hi]
theorem rdS_length {o : Int} {s : List (BitVec 8)} : (rdS o s).length = s.length := by unfold rdS; split <;> simp
/-- The byte that is read in round i. -/
theorem rdS_get {o : Int} {l : List (BitVec 8)} {t z i : Nat} (h : t + z ≤ l.length) (hi : i < z) : (rdS o (win l t z))[i]? = l[if o = 2 then t + i else t + z - 1 - i]? := by
  unfold rdS
  split
  · exact win_get hi
  · rw [List.getElem?_reverse (by rw [win_length h]; exact hi), win_length h, win_get (by omega)]
    congr 1; omega
theorem rdSr_get {o : Int} {l : List (BitVec 8)} {t z i : Nat} (h : t + z ≤ l.length) (hi : i < z) : (rdS o (win l t z)).reverse[i]? = l[if o = 2 then t + z - 1 - i else t + i]? := by
  rw [List.getElem?_reverse (by rw [rdS_length, win_length h]; exact hi), rdS_length, win_length h, rdS_get h (by omega)]
  split <;> (congr 1; omega)

end Go.Sx

/-
  The reference's way to read a number out of bytes. The order is 1 or 2, the width 1 to 8.
-/
namespace Go.Sx
open Go Go.Proofs

theorem RGet_b (w : World) (o : Int) {p : Option Addr} {n : Nat} (c : Nat) {l : List (BitVec 8)} (t z : Int) (ha : By w p n l) :
    Spec Try.prog 83 #[.int .i64 o, .slice p n c, .int .i64 t, .int .i64 z] w (σ := Unit) (fun _ => True) (fun _ => .tuple #[b64 (getV o l t z), .int .i64 (getE o n t z)]) Nob (fun _ => []) := by
  refine enter Try.func83 rfl rfl (Mem.start w) ?_
  have hn := ha.len
  have hbig := ha.big
  (repeat refine g_seq ?_)
  refine g_region ?_
  refine g_pu rfl rfl rfl (pu_assign (v := b64 0#64) rfl rfl) ?_
  refine g_pu rfl rfl rfl (pu_assign rfl rfl) ?_
  refine g_nil ?_
  by_cases hs : ShapeOk o z
  · have hz := hs.2
    by_cases ht : t < 0
    · (repeat refine g_seq ?_)
      refine g_region ?_
      refine g_pu rfl rfl rfl (pu_move rfl rfl) ?_
      refine g_pu rfl rfl rfl (pu_move rfl rfl) ?_
      refine g_call [] rfl rfl rfl rfl rfl rfl (fun w' hm => rshape_b w' o z) (fun _ _ => ?_)
      refine g_as (t := 16) (u := .bool true) rfl (by rw [decide_eq_true hs]) rfl ?_
      refine g_pu rfl rfl rfl (pu_not rfl rfl) ?_
      refine g_pu rfl rfl rfl (pu_move rfl rfl) ?_
      first | refine g_pass rfl rfl rfl ?_ | refine g_pu rfl rfl rfl (pu_move rfl rfl) ?_
      first | refine g_pass rfl rfl rfl ?_ | refine g_pu rfl rfl rfl (pu_lss_t rfl rfl rfl (by omega)) ?_ | refine g_pu rfl rfl rfl (pu_lss_f rfl rfl rfl (by omega)) ?_ | refine g_pu rfl rfl rfl (pu_lss rfl rfl rfl) ?_
      first | refine g_pu rfl rfl rfl (pu_pick_t rfl rfl rfl) ?_ | refine g_pu rfl rfl rfl (pu_pick_f rfl rfl rfl) ?_
      refine g_nil ?_
      (repeat refine g_seq ?_)
      refine g_cond_t rfl ?_
      (repeat refine g_seq ?_)
      refine g_region ?_
      refine g_pu rfl rfl rfl (pu_assign (v := b64 0#64) rfl rfl) ?_
      refine g_pu rfl rfl rfl (pu_assign rfl rfl) ?_
      refine g_nil ?_
      refine g_ret2 rfl rfl rfl (fun w' hm => ⟨(), trivial, ?_, hm.grows [] trivial rfl⟩)
      have he : getE o n t z = 1 := by simp [getE, ht]
      simp [getV, hn, he]
    · obtain ⟨t, rfl⟩ := Int.eq_ofNat_of_zero_le (show 0 ≤ t by omega)
      obtain ⟨z, rfl⟩ := Int.eq_ofNat_of_zero_le (show 0 ≤ z by omega)
      (repeat refine g_seq ?_)
      refine g_region ?_
      refine g_pu rfl rfl rfl (pu_move rfl rfl) ?_
      refine g_pu rfl rfl rfl (pu_move rfl rfl) ?_
      refine g_call [] rfl rfl rfl rfl rfl rfl (fun w' hm => rshape_b w' o z) (fun _ _ => ?_)
      refine g_as (t := 16) (u := .bool true) rfl (by rw [decide_eq_true hs]) rfl ?_
      refine g_pu rfl rfl rfl (pu_not rfl rfl) ?_
      refine g_pu rfl rfl rfl (pu_move rfl rfl) ?_
      first | refine g_pass rfl rfl rfl ?_ | refine g_pu rfl rfl rfl (pu_move rfl rfl) ?_
      first | refine g_pass rfl rfl rfl ?_ | refine g_pu rfl rfl rfl (pu_lss_t rfl rfl rfl (by omega)) ?_ | refine g_pu rfl rfl rfl (pu_lss_f rfl rfl rfl (by omega)) ?_ | refine g_pu rfl rfl rfl (pu_lss rfl rfl rfl) ?_
      first | refine g_pu rfl rfl rfl (pu_pick_t rfl rfl rfl) ?_ | refine g_pu rfl rfl rfl (pu_pick_f rfl rfl rfl) ?_
      refine g_nil ?_
      (repeat refine g_seq ?_)
      refine g_cond_f rfl (g_skip ?_)
      by_cases hr : t + z ≤ n
      · (repeat refine g_seq ?_)
        refine g_region ?_
        refine g_pu rfl rfl rfl (pu_move rfl rfl) ?_
        refine g_pu rfl rfl rfl (pu_move rfl rfl) ?_
        first | refine g_pu rfl rfl rfl (pu_len rfl rfl) ?_ | refine g_pu rfl rfl rfl (pu_lenS rfl rfl) ?_
        first | refine g_pu rfl rfl rfl (pu_gtr_t rfl rfl rfl (by omega)) ?_ | refine g_pu rfl rfl rfl (pu_gtr_f rfl rfl rfl (by omega)) ?_ | refine g_pu rfl rfl rfl (pu_gtr rfl rfl rfl) ?_
        refine g_pu rfl rfl rfl (pu_move rfl rfl) ?_
        first | refine g_pass rfl rfl rfl ?_ | refine g_pu rfl rfl rfl (pu_move rfl rfl) ?_
        first | refine g_pass rfl rfl rfl ?_ | refine g_pu rfl rfl rfl (pu_move rfl rfl) ?_
        first | refine g_pass rfl rfl rfl ?_ | refine g_pu rfl rfl rfl (pu_len rfl rfl) ?_ | refine g_pu rfl rfl rfl (pu_lenS rfl rfl) ?_
        first | refine g_pass rfl rfl rfl ?_ | refine g_pu rfl rfl rfl (pu_move rfl rfl) ?_
        first | refine g_pass rfl rfl rfl ?_ | refine g_pu rfl rfl rfl (pu_subI rfl rfl rfl (by omega)) ?_
        first | refine g_pass rfl rfl rfl ?_ | refine g_pu rfl rfl rfl (pu_gtr_t rfl rfl rfl (by omega)) ?_ | refine g_pu rfl rfl rfl (pu_gtr_f rfl rfl rfl (by omega)) ?_ | refine g_pu rfl rfl rfl (pu_gtr rfl rfl rfl) ?_
        first | refine g_pu rfl rfl rfl (pu_pick_t rfl rfl rfl) ?_ | refine g_pu rfl rfl rfl (pu_pick_f rfl rfl rfl) ?_
        refine g_nil ?_
        (repeat refine g_seq ?_)
        refine g_cond_f rfl (g_skip ?_)
        have he : getE o n t z = 0 := by unfold getE; rw [if_neg (by omega), if_neg (by omega)]
        have hv : getV o l t z = beV (rdS o (win l t z)) := by simp [getV, hn, he]
        (repeat refine g_seq ?_)
        refine g_region ?_
        refine g_pu rfl rfl rfl (pu_assign (v := b64 0#64) rfl rfl) ?_
        refine g_nil ?_
        (repeat refine g_seq ?_)
        refine g_region ?_
        refine g_pu rfl rfl rfl (pu_assign (v := b64 1#64) rfl rfl) ?_
        refine g_nil ?_
        (repeat refine g_seq ?_)
        refine g_region ?_
        refine g_pu rfl rfl rfl (pu_assign rfl rfl) ?_
        refine g_nil ?_
        have hul : (rdS o (win l t z)).reverse.length = z := by rw [List.length_reverse, rdS_length, win_length (by omega)]
        refine g_block (g_loop2 (fun (i : Nat) (x : BitVec 64) => [(0, .int .i64 o), (1, .slice p n c), (2, .int .i64 (t : Int)), (3, .int .i64 (z : Int)), (10, b64 x), (11, b64 (256#64 ^ i)), (12, .int .i64 (i : Int))]) (fun _ _ => []) (fun i x => i ≤ z ∧ x = leV ((rdS o (win l t z)).reverse.take i)) (fun i _ => z - i) 0 0#64 ⟨rfl, rfl, rfl, rfl, rfl, rfl, rfl, trivial⟩ trivial (by simp [leV]) ?_)
        intro i x ⟨hi, hx⟩
        by_cases hlt : i < z
        · (repeat refine g_seq ?_)
          refine g_region ?_
          refine g_pu rfl rfl rfl (pu_move rfl rfl) ?_
          refine g_pu rfl rfl rfl (pu_move rfl rfl) ?_
          first | refine g_pu rfl rfl rfl (pu_lss_t rfl rfl rfl (by omega)) ?_ | refine g_pu rfl rfl rfl (pu_lss_f rfl rfl rfl (by omega)) ?_ | refine g_pu rfl rfl rfl (pu_lss rfl rfl rfl) ?_
          refine g_nil ?_
          (repeat refine g_seq ?_)
          refine g_cond_t rfl (g_skip ?_)
          have hl := rdSr_get (o := o) (l := l) (t := t) (z := z) (i := i) (by omega) hlt
          (repeat refine g_seq ?_); refine g_block ?_
          (repeat refine g_seq ?_)
          refine g_region ?_
          refine g_pu rfl rfl rfl (pu_move rfl rfl) ?_
          refine g_pu rfl rfl rfl (pu_move rfl rfl) ?_
          refine g_pu rfl rfl rfl (pu_addI rfl rfl rfl (by omega)) ?_
          refine g_pu rfl rfl rfl (pu_assign rfl rfl) ?_
          refine g_nil ?_
          refine g_seq ?_
          refine g_join (σ := Int) (fun k => [(0, .int .i64 o), (1, .slice p n c), (2, .int .i64 (t : Int)), (3, .int .i64 (z : Int)), (10, b64 x), (11, b64 (256#64 ^ i)), (12, .int .i64 (i : Int)), (13, .int .i64 k)]) (fun _ => []) (fun k => k = if o = 2 then (t : Int) + z - 1 - i else t + i) ?_ (fun k hk => ?_)
          · rcases hs.1 with h1 | h1
            · (repeat refine g_seq ?_)
              refine g_region ?_
              refine g_pu rfl rfl rfl (pu_move rfl rfl) ?_
              first | refine g_pu rfl rfl rfl (pu_eql_t rfl rfl rfl (by omega)) ?_ | refine g_pu rfl rfl rfl (pu_eql_f rfl rfl rfl (by omega)) ?_ | refine g_pu rfl rfl rfl (pu_eql rfl rfl rfl) ?_
              refine g_nil ?_
              (repeat refine g_seq ?_)
              refine g_cond_f rfl (g_skip ?_)
              exact g_meet _ (by rw [if_neg (by omega)]) ⟨rfl, rfl, rfl, rfl, rfl, rfl, rfl, rfl, trivial⟩ trivial
            · (repeat refine g_seq ?_)
              refine g_region ?_
              refine g_pu rfl rfl rfl (pu_move rfl rfl) ?_
              first | refine g_pu rfl rfl rfl (pu_eql_t rfl rfl rfl (by omega)) ?_ | refine g_pu rfl rfl rfl (pu_eql_f rfl rfl rfl (by omega)) ?_ | refine g_pu rfl rfl rfl (pu_eql rfl rfl rfl) ?_
              refine g_nil ?_
              (repeat refine g_seq ?_)
              refine g_cond_t rfl ?_
              (repeat refine g_seq ?_)
              refine g_region ?_
              refine g_pu rfl rfl rfl (pu_move rfl rfl) ?_
              refine g_pu rfl rfl rfl (pu_move rfl rfl) ?_
              refine g_pu rfl rfl rfl (pu_addI rfl rfl rfl (by omega)) ?_
              refine g_pu rfl rfl rfl (pu_subI rfl rfl rfl (by omega)) ?_
              refine g_pu rfl rfl rfl (pu_move rfl rfl) ?_
              refine g_pu rfl rfl rfl (pu_subI rfl rfl rfl (by omega)) ?_
              refine g_pu rfl rfl rfl (pu_assign rfl rfl) ?_
              refine g_nil ?_
              exact g_meet _ (by rw [if_pos h1]) ⟨rfl, rfl, rfl, rfl, rfl, rfl, rfl, rfl, trivial⟩ trivial
          · have hkn : k = ((if o = 2 then t + z - 1 - i else t + i : Nat) : Int) := by rw [hk]; split <;> omega
            have hlt2 : (if o = 2 then t + z - 1 - i else t + i) < n := by split <;> omega
            generalize (if o = 2 then t + z - 1 - i else t + i) = j at hkn hlt2 hl
            have h1 : l[j]? = some l[j] := List.getElem?_eq_getElem (by omega)
            rw [h1] at hl
            (repeat refine g_seq ?_)
            refine g_region ?_
            refine g_pu rfl rfl rfl (pu_move rfl rfl) ?_
            refine g_pu rfl rfl rfl (pu_move rfl rfl) ?_
            refine g_pu rfl rfl rfl (pu_move rfl rfl) ?_
            refine g_pu rfl rfl rfl (pu_move rfl rfl) ?_
            refine g_pu rfl rfl rfl (pu_atB j (fun w' hm => ha.m hm) rfl rfl rfl (by omega) (by omega)) ?_
            refine g_pu rfl rfl rfl (pu_rdB (fun w' hm => ha.m hm) rfl rfl h1) ?_
            refine g_pu rfl rfl rfl (pu_conv8_64 rfl rfl) ?_
            refine g_pu rfl rfl rfl (pu_mul64 rfl rfl rfl) ?_
            refine g_pu rfl rfl rfl (pu_add64 rfl rfl rfl) ?_
            refine g_pu rfl rfl rfl (pu_assign rfl rfl) ?_
            refine g_nil ?_
            (repeat refine g_seq ?_)
            refine g_region ?_
            refine g_pu rfl rfl rfl (pu_move rfl rfl) ?_
            refine g_pu rfl rfl rfl (pu_mul64 (b := 256#64) rfl rfl rfl) ?_
            refine g_pu rfl rfl rfl (pu_assign rfl rfl) ?_
            refine g_nil ?_
            refine g_blk ?_
            (repeat refine g_seq ?_)
            refine g_region ?_
            refine g_pu rfl rfl rfl (pu_move rfl rfl) ?_
            refine g_pu rfl rfl rfl (pu_addI rfl rfl rfl (by omega)) ?_
            refine g_pu rfl rfl rfl (pu_assign rfl rfl) ?_
            refine g_nil ?_
            refine g_round2 (i + 1) _ ⟨by omega, ?_⟩ (by omega) ⟨rfl, rfl, rfl, rfl, rfl, rfl, rfl, trivial⟩ trivial
            rw [List.take_add_one, hl, Option.toList_some, leV_snoc, List.length_take, hul, Nat.min_eq_left (by omega), hx]
        · (repeat refine g_seq ?_)
          refine g_region ?_
          refine g_pu rfl rfl rfl (pu_move rfl rfl) ?_
          refine g_pu rfl rfl rfl (pu_move rfl rfl) ?_
          first | refine g_pu rfl rfl rfl (pu_lss_t rfl rfl rfl (by omega)) ?_ | refine g_pu rfl rfl rfl (pu_lss_f rfl rfl rfl (by omega)) ?_ | refine g_pu rfl rfl rfl (pu_lss rfl rfl rfl) ?_
          refine g_nil ?_
          (repeat refine g_seq ?_)
          refine g_cond_f rfl (g_exit rfl ?_)
          (repeat refine g_seq ?_)
          refine g_region ?_
          refine g_pu rfl rfl rfl (pu_move rfl rfl) ?_
          refine g_pu rfl rfl rfl (pu_assign rfl rfl) ?_
          refine g_pu rfl rfl rfl (pu_assign rfl rfl) ?_
          refine g_nil ?_
          have e : i = z := by omega
          subst e
          rw [List.take_of_length_le (by omega)] at hx
          exact g_ret2 rfl rfl rfl (fun w' hm => ⟨(), trivial, by rw [he, hv, hx, beV_rev], hm.grows [] trivial rfl⟩)
      · have he : getE o n t z = 2 := by unfold getE; rw [if_neg (by omega), if_pos (by omega)]
        by_cases h1 : z > n
        · (repeat refine g_seq ?_)
          refine g_region ?_
          refine g_pu rfl rfl rfl (pu_move rfl rfl) ?_
          refine g_pu rfl rfl rfl (pu_move rfl rfl) ?_
          first | refine g_pu rfl rfl rfl (pu_len rfl rfl) ?_ | refine g_pu rfl rfl rfl (pu_lenS rfl rfl) ?_
          first | refine g_pu rfl rfl rfl (pu_gtr_t rfl rfl rfl (by omega)) ?_ | refine g_pu rfl rfl rfl (pu_gtr_f rfl rfl rfl (by omega)) ?_ | refine g_pu rfl rfl rfl (pu_gtr rfl rfl rfl) ?_
          refine g_pu rfl rfl rfl (pu_move rfl rfl) ?_
          first | refine g_pass rfl rfl rfl ?_ | refine g_pu rfl rfl rfl (pu_move rfl rfl) ?_
          first | refine g_pass rfl rfl rfl ?_ | refine g_pu rfl rfl rfl (pu_move rfl rfl) ?_
          first | refine g_pass rfl rfl rfl ?_ | refine g_pu rfl rfl rfl (pu_len rfl rfl) ?_ | refine g_pu rfl rfl rfl (pu_lenS rfl rfl) ?_
          first | refine g_pass rfl rfl rfl ?_ | refine g_pu rfl rfl rfl (pu_move rfl rfl) ?_
          first | refine g_pass rfl rfl rfl ?_ | refine g_pu rfl rfl rfl (pu_subI rfl rfl rfl (by omega)) ?_
          first | refine g_pass rfl rfl rfl ?_ | refine g_pu rfl rfl rfl (pu_gtr_t rfl rfl rfl (by omega)) ?_ | refine g_pu rfl rfl rfl (pu_gtr_f rfl rfl rfl (by omega)) ?_ | refine g_pu rfl rfl rfl (pu_gtr rfl rfl rfl) ?_
          first | refine g_pu rfl rfl rfl (pu_pick_t rfl rfl rfl) ?_ | refine g_pu rfl rfl rfl (pu_pick_f rfl rfl rfl) ?_
          refine g_nil ?_
          (repeat refine g_seq ?_)
          refine g_cond_t rfl ?_
          (repeat refine g_seq ?_)
          refine g_region ?_
          refine g_pu rfl rfl rfl (pu_assign (v := b64 0#64) rfl rfl) ?_
          refine g_pu rfl rfl rfl (pu_assign rfl rfl) ?_
          refine g_nil ?_
          exact g_ret2 rfl rfl rfl (fun w' hm => ⟨(), trivial, by simp [getV, hn, he], hm.grows [] trivial rfl⟩)
        · (repeat refine g_seq ?_)
          refine g_region ?_
          refine g_pu rfl rfl rfl (pu_move rfl rfl) ?_
          refine g_pu rfl rfl rfl (pu_move rfl rfl) ?_
          first | refine g_pu rfl rfl rfl (pu_len rfl rfl) ?_ | refine g_pu rfl rfl rfl (pu_lenS rfl rfl) ?_
          first | refine g_pu rfl rfl rfl (pu_gtr_t rfl rfl rfl (by omega)) ?_ | refine g_pu rfl rfl rfl (pu_gtr_f rfl rfl rfl (by omega)) ?_ | refine g_pu rfl rfl rfl (pu_gtr rfl rfl rfl) ?_
          refine g_pu rfl rfl rfl (pu_move rfl rfl) ?_
          first | refine g_pass rfl rfl rfl ?_ | refine g_pu rfl rfl rfl (pu_move rfl rfl) ?_
          first | refine g_pass rfl rfl rfl ?_ | refine g_pu rfl rfl rfl (pu_move rfl rfl) ?_
          first | refine g_pass rfl rfl rfl ?_ | refine g_pu rfl rfl rfl (pu_len rfl rfl) ?_ | refine g_pu rfl rfl rfl (pu_lenS rfl rfl) ?_
          first | refine g_pass rfl rfl rfl ?_ | refine g_pu rfl rfl rfl (pu_move rfl rfl) ?_
          first | refine g_pass rfl rfl rfl ?_ | refine g_pu rfl rfl rfl (pu_subI rfl rfl rfl (by omega)) ?_
          first | refine g_pass rfl rfl rfl ?_ | refine g_pu rfl rfl rfl (pu_gtr_t rfl rfl rfl (by omega)) ?_ | refine g_pu rfl rfl rfl (pu_gtr_f rfl rfl rfl (by omega)) ?_ | refine g_pu rfl rfl rfl (pu_gtr rfl rfl rfl) ?_
          first | refine g_pu rfl rfl rfl (pu_pick_t rfl rfl rfl) ?_ | refine g_pu rfl rfl rfl (pu_pick_f rfl rfl rfl) ?_
          refine g_nil ?_
          (repeat refine g_seq ?_)
          refine g_cond_t rfl ?_
          (repeat refine g_seq ?_)
          refine g_region ?_
          refine g_pu rfl rfl rfl (pu_assign (v := b64 0#64) rfl rfl) ?_
          refine g_pu rfl rfl rfl (pu_assign rfl rfl) ?_
          refine g_nil ?_
          exact g_ret2 rfl rfl rfl (fun w' hm => ⟨(), trivial, by simp [getV, hn, he], hm.grows [] trivial rfl⟩)
  · (repeat refine g_seq ?_)
    refine g_region ?_
    refine g_pu rfl rfl rfl (pu_move rfl rfl) ?_
    refine g_pu rfl rfl rfl (pu_move rfl rfl) ?_
    refine g_call [] rfl rfl rfl rfl rfl rfl (fun w' hm => rshape_b w' o z) (fun _ _ => ?_)
    refine g_as (t := 16) (u := .bool false) rfl (by rw [decide_eq_false hs]) rfl ?_
    refine g_pu rfl rfl rfl (pu_not rfl rfl) ?_
    refine g_pu rfl rfl rfl (pu_move rfl rfl) ?_
    first | refine g_pass rfl rfl rfl ?_ | refine g_pu rfl rfl rfl (pu_move rfl rfl) ?_
    first | refine g_pass rfl rfl rfl ?_ | refine g_pu rfl rfl rfl (pu_lss_t rfl rfl rfl (by omega)) ?_ | refine g_pu rfl rfl rfl (pu_lss_f rfl rfl rfl (by omega)) ?_ | refine g_pu rfl rfl rfl (pu_lss rfl rfl rfl) ?_
    first | refine g_pu rfl rfl rfl (pu_pick_t rfl rfl rfl) ?_ | refine g_pu rfl rfl rfl (pu_pick_f rfl rfl rfl) ?_
    refine g_nil ?_
    (repeat refine g_seq ?_)
    refine g_cond_t rfl ?_
    (repeat refine g_seq ?_)
    refine g_region ?_
    refine g_pu rfl rfl rfl (pu_assign (v := b64 0#64) rfl rfl) ?_
    refine g_pu rfl rfl rfl (pu_assign rfl rfl) ?_
    refine g_nil ?_
    refine g_ret2 rfl rfl rfl (fun w' hm => ⟨(), trivial, ?_, hm.grows [] trivial rfl⟩)
    have he : getE o n t z = 1 := by unfold getE; rw [if_pos (.inl hs)]
    simp [getV, hn, he]
end Go.Sx

/-
  Copies of lists of bytes; the place by place turning of lists, of the codec and of its reference. A list of lists takes at most 2^47 bytes.
-/
namespace Go.Sx
open Go Go.Proofs

/-! ## Turning lists by one another -/
theorem ByL.cut {w : World} {p : Option Addr} {n c : Nat} {L : List Value} {ls : List (List (BitVec 8))} (h : ByL w p n L ls) (hc : n ≤ c) (j : Nat) : ByL w (cutp p c j 1) (n - j) (L.drop j) (ls.drop j) := by
  refine ⟨h.rd.cut (by rw [h.len]; exact hc), by rw [List.length_drop, h.len], ⟨by simp [h.els.1], fun i x y hx hy => ?_⟩, by have := h.big; omega⟩
  rw [List.getElem?_drop] at hx hy
  exact h.els.2 _ x y hx hy

end Go.Sx

/-
  The reference's turning of lists by one another. A list of lists takes at most 2^47 bytes.
-/
namespace Go.Sx
open Go Go.Proofs

end Go.Sx

/-
  Writing a number as bytes: the codec's way, its reference's way, and that it is read back.
-/
namespace Go.Sx
open Go Go.Proofs

theorem get_set (m : List (BitVec 8)) (i k : Nat) (x : BitVec 8) (hi : i < m.length) : (m.set i x)[k]? = if i = k then some x else m[k]? := by
  rw [List.getElem?_set]
  split
  · rfl
  · rfl
theorem bs_set (m : List (BitVec 8)) (J : List Value) (i : Nat) (x : BitVec 8) (hi : i < m.length) : (bs m ++ J).set i (b8 x) = bs (m.set i x) ++ J := by
  rw [List.set_append_left _ _ (by rw [bs_length]; exact hi)]
  simp [bs, List.map_set]
theorem bs_load {m : List (BitVec 8)} {J : List Value} {i : Nat} {x : BitVec 8} (h : m[i]? = some x) : (bs m ++ J).toArray[0 + i]? = some (b8 x) := by
  have hi := (List.getElem?_eq_some_iff.1 h).1
  rw [Nat.zero_add, List.getElem?_toArray, List.getElem?_append_left (by rw [bs_length]; exact hi)]
  exact bs_get h

theorem Reverse_b (w : World) (x : Ow) {n : Nat} {l : List (BitVec 8)} (h : Own 5 1 x.p x.c (bs l) w) (hb : ∀ j, At x.p j → j < w.heap.size) (hn : l.length = n) (hbig : n ≤ 140737488355328) :
    Spec Try.prog 116 #[x.sl n] w (σ := Unit) (fun _ => True) (fun _ => .tuple #[]) (At x.p) (fun _ => [x.ck 5 1 (bs l.reverse)]) := by
  obtain ⟨p, c⟩ := x
  refine enter Try.func116 rfl rfl (Mem.start1 (.fact (At p) (Own 5 1 p c (bs l))) h Own.loc hb) ?_
  (repeat refine g_seq ?_)
  refine g_region ?_
  refine g_pu rfl rfl rfl (pu_move rfl rfl) ?_
  first | refine g_pu rfl rfl rfl (pu_len rfl rfl) ?_ | refine g_pu rfl rfl rfl (pu_lenS rfl rfl) ?_
  refine g_pu rfl rfl rfl (pu_subI rfl rfl rfl (by omega)) ?_
  refine g_pu rfl rfl rfl (pu_assign rfl rfl) ?_
  refine g_pu rfl rfl rfl (pu_assign rfl rfl) ?_
  refine g_nil ?_
  refine g_block (g_loop2 (fun (i : Nat) (m : List (BitVec 8)) => [(0, .slice p n c), (2, .int .i64 (i : Int)), (3, .int .i64 ((n : Int) - 1 - i))]) (fun _ m => [(0, .fact (At p) (Own 5 1 p c (bs m)))])
    (fun i m => 2 * i ≤ n + 1 ∧ m.length = n ∧ ∀ k, k < n → m[k]? = if k < i ∨ n - 1 - k < i then l[n - 1 - k]? else l[k]?) (fun i _ => n - i) 0 l ⟨rfl, rfl, congrArg (fun z => some (Value.int .i64 z)) (by omega), trivial⟩ ⟨rfl, trivial⟩ ⟨by omega, hn, fun k hk => by simp⟩ ?_)
  intro i m ⟨hi, hml, hm⟩
  by_cases hlt : 2 * i + 1 < n
  · (repeat refine g_seq ?_)
    refine g_region ?_
    refine g_pu rfl rfl rfl (pu_move rfl rfl) ?_
    refine g_pu rfl rfl rfl (pu_move rfl rfl) ?_
    first | refine g_pu rfl rfl rfl (pu_lss_t rfl rfl rfl (by omega)) ?_ | refine g_pu rfl rfl rfl (pu_lss_f rfl rfl rfl (by omega)) ?_ | refine g_pu rfl rfl rfl (pu_lss rfl rfl rfl) ?_
    refine g_nil ?_
    (repeat refine g_seq ?_)
    refine g_cond_t rfl (g_skip ?_)
    obtain ⟨j, hj⟩ : ∃ j, j = n - 1 - i := ⟨_, rfl⟩
    have h1 : m[i]? = some m[i] := List.getElem?_eq_getElem (by omega)
    have h2 : m[j]? = some m[j] := List.getElem?_eq_getElem (by omega)
    have h3 := hm i (by omega)
    have h4 := hm j (by omega)
    rw [if_neg (by omega), h1] at h3
    rw [if_neg (by omega), h2] at h4
    generalize m[i] = y at h1 h3
    generalize m[j] = z at h2 h4
    (repeat refine g_seq ?_); refine g_block ?_
    refine g_row 0 rfl (by rw [bs_length]; omega) (fun bb J hp hJ hcap => ?_)
    subst hp
    (repeat refine g_seq ?_)
    refine g_any (13, [2, 3]) ?_
    refine a_pu 0 rfl rfl rfl rfl (pu_move rfl rfl) rfl rfl (by kernel_rfl) ?_
    refine a_pu 1 rfl rfl rfl rfl (pu_move rfl rfl) rfl rfl (by kernel_rfl) ?_
    first | refine a_mv 2 rfl rfl rfl rfl (fun _ => (pu_move rfl rfl)) rfl rfl rfl (by kernel_rfl) (by kernel_rfl) (by kernel_rfl) rfl ?_
    first | refine a_mv 3 rfl rfl rfl rfl (fun _ => (pu_move rfl rfl)) rfl rfl rfl (by kernel_rfl) (by kernel_rfl) (by kernel_rfl) rfl ?_
    refine a_pu 4 rfl rfl rfl rfl (pu_move rfl rfl) rfl rfl (by kernel_rfl) ?_
    refine a_pu 5 rfl rfl rfl rfl (pu_move rfl rfl) rfl rfl (by kernel_rfl) ?_
    refine a_pu 6 rfl rfl rfl rfl (pu_at1 j rfl rfl rfl (by omega) (by omega)) rfl rfl (by kernel_rfl) ?_
    refine a_pu 7 rfl rfl rfl rfl (pu_load 0 rfl rfl rfl (bs_load h2)) rfl rfl (by kernel_rfl) ?_
    refine a_pu 8 rfl rfl rfl rfl (pu_move rfl rfl) rfl rfl (by kernel_rfl) ?_
    refine a_pu 9 rfl rfl rfl rfl (pu_move rfl rfl) rfl rfl (by kernel_rfl) ?_
    refine a_pu 10 rfl rfl rfl rfl (pu_at1 i rfl rfl rfl rfl (by omega)) rfl rfl (by kernel_rfl) ?_
    refine a_pu 11 rfl rfl rfl rfl (pu_load 0 rfl rfl rfl (bs_load h1)) rfl rfl (by kernel_rfl) ?_
    refine a_pu 12 rfl rfl rfl rfl (pu_at1 i rfl rfl rfl rfl (by omega)) rfl rfl (by kernel_rfl) ?_
    refine a_tail [13, 14, 15] (by kernel_rfl) rfl rfl (by kernel_rfl) ?_
    refine g_store 0 (v := b8 z) rfl rfl rfl rfl rfl rfl rfl (by rw [List.length_append, bs_length]; omega) ?_
    rw [Nat.zero_add, bs_set m J i z (by omega)]
    refine g_pu rfl rfl rfl (pu_at1 j rfl rfl rfl (by omega) (by omega)) ?_
    refine g_store 0 (v := b8 y) rfl rfl rfl rfl rfl rfl rfl (by rw [List.length_append, bs_length, List.length_set]; omega) ?_
    rw [Nat.zero_add, bs_set (m.set i z) J j y (by rw [List.length_set]; omega)]
    refine g_nil ?_
    refine g_own 0 (L := bs ((m.set i z).set j y)) (J := J) (c := c) (s := 1) rfl (by simpa [bs_length] using hJ) hcap ?_
    refine g_blk ?_
    (repeat refine g_seq ?_)
    refine g_region ?_
    refine g_pu rfl rfl rfl (pu_move rfl rfl) ?_
    refine g_pu rfl rfl rfl (pu_addI rfl rfl rfl (by omega)) ?_
    refine g_pu rfl rfl rfl (pu_move rfl rfl) ?_
    refine g_pu rfl rfl rfl (pu_subI rfl rfl rfl (by omega)) ?_
    refine g_pu rfl rfl rfl (pu_assign rfl rfl) ?_
    refine g_pu rfl rfl rfl (pu_assign rfl rfl) ?_
    refine g_nil ?_
    refine g_round2 (i + 1) ((m.set i z).set j y) ⟨by omega, by simp [hml], fun k hk => ?_⟩ (by omega) ⟨rfl, rfl, congrArg (fun z => some (Value.int .i64 z)) (by omega), trivial⟩ ⟨rfl, trivial⟩
    rw [get_set _ _ _ _ (by rw [List.length_set]; omega), get_set _ _ _ _ (by omega)]
    by_cases hkj : j = k
    · subst hkj
      rw [if_pos rfl, if_pos (by omega), h3]
      congr 1; omega
    · rw [if_neg hkj]
      by_cases hki : i = k
      · subst hki
        rw [if_pos rfl, if_pos (by omega), h4, hj]
      · rw [if_neg hki, hm k hk]
        by_cases hc : k < i ∨ n - 1 - k < i
        · rw [if_pos hc, if_pos (by omega)]
        · rw [if_neg hc, if_neg (by omega)]
  · (repeat refine g_seq ?_)
    refine g_region ?_
    refine g_pu rfl rfl rfl (pu_move rfl rfl) ?_
    refine g_pu rfl rfl rfl (pu_move rfl rfl) ?_
    first | refine g_pu rfl rfl rfl (pu_lss_t rfl rfl rfl (by omega)) ?_ | refine g_pu rfl rfl rfl (pu_lss_f rfl rfl rfl (by omega)) ?_ | refine g_pu rfl rfl rfl (pu_lss rfl rfl rfl) ?_
    refine g_nil ?_
    (repeat refine g_seq ?_)
    refine g_cond_f rfl (g_exit rfl ?_)
    have e : m = l.reverse := by
      apply List.ext_getElem?
      intro k
      by_cases hk : k < n
      · rw [hm k hk, List.getElem?_reverse (by omega), hn]
        split
        · rfl
        · congr 1; omega
      · rw [List.getElem?_eq_none (by omega), List.getElem?_eq_none (by simp; omega)]
    subst e
    exact g_end0 rfl (fun w' hm => ⟨(), trivial, rfl, hm.grows [0] ⟨rfl, trivial⟩ rfl⟩)
end Go.Sx
