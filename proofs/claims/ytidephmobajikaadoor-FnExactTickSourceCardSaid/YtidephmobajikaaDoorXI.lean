/- What the types of this program are. -/
import Derived.Test.YtidephmobajikaaDoorX4
import Derived.Test.YtidephmobajikaaDoorProg
namespace Go.Proofs.YtidephmobajikaaDoor
open Go.RowKit
instance : OneC Tryd.prog 3 := ⟨⟨_, Tryd.underlying3, rfl⟩, by kernel_rfl⟩
instance : IntC Tryd.prog 3 .i64 := ⟨Tryd.underlying3⟩
instance : ZC Tryd.prog 3 [.int .i64 0] := ⟨⟨.int .i64 0, by kernel_rfl, rfl⟩⟩
instance : ElT Tryd.prog 3 (.int .i64 0) 1 8 := ⟨by kernel_rfl, rfl⟩
instance : OneC Tryd.prog 5 := ⟨⟨_, Tryd.underlying5, rfl⟩, by kernel_rfl⟩
instance : IntC Tryd.prog 5 .u8 := ⟨Tryd.underlying5⟩
instance : ZC Tryd.prog 5 [.int .u8 0] := ⟨⟨.int .u8 0, by kernel_rfl, rfl⟩⟩
instance : ElT Tryd.prog 5 (.int .u8 0) 1 1 := ⟨by kernel_rfl, rfl⟩
instance : OneC Tryd.prog 119 := ⟨⟨_, Tryd.underlying119, rfl⟩, by kernel_rfl⟩
instance : IntC Tryd.prog 119 .u64 := ⟨Tryd.underlying119⟩
instance : ZC Tryd.prog 119 [.int .u64 0] := ⟨⟨.int .u64 0, by kernel_rfl, rfl⟩⟩
instance : ElT Tryd.prog 119 (.int .u64 0) 1 8 := ⟨by kernel_rfl, rfl⟩
instance : OneC Tryd.prog 4 := ⟨⟨_, Tryd.underlying4, rfl⟩, by kernel_rfl⟩
instance : BoolC Tryd.prog 4 := ⟨Tryd.underlying4⟩
instance : ZC Tryd.prog 4 [.bool false] := ⟨⟨.bool false, by kernel_rfl, rfl⟩⟩
instance : ElT Tryd.prog 4 (.bool false) 1 1 := ⟨by kernel_rfl, rfl⟩
instance : OneC Tryd.prog 9 := ⟨⟨_, Tryd.underlying9, rfl⟩, by kernel_rfl⟩
instance : StrC Tryd.prog 9 := ⟨Tryd.underlying9⟩
instance : ZC Tryd.prog 9 [.string ⟨#[]⟩] := ⟨⟨.string ⟨#[]⟩, by kernel_rfl, rfl⟩⟩
instance : ElT Tryd.prog 9 (.string ⟨#[]⟩) 1 16 := ⟨by kernel_rfl, rfl⟩
instance : OneC Tryd.prog 21 := ⟨⟨_, Tryd.underlying21, rfl⟩, by kernel_rfl⟩
instance : IntC Tryd.prog 21 .i32 := ⟨Tryd.underlying21⟩
instance : ZC Tryd.prog 21 [.int .i32 0] := ⟨⟨.int .i32 0, by kernel_rfl, rfl⟩⟩
instance : ElT Tryd.prog 21 (.int .i32 0) 1 4 := ⟨by kernel_rfl, rfl⟩
instance : AggC Tryd.prog 26 3 := ⟨⟨_, Tryd.underlying26, rfl⟩, by kernel_rfl⟩
instance : FldC Tryd.prog 26 0 0 3 1 := ⟨⟨_, _, Tryd.underlying26, rfl, rfl, rfl⟩, by kernel_rfl, by decide⟩
instance : FldC Tryd.prog 26 1 1 3 1 := ⟨⟨_, _, Tryd.underlying26, rfl, rfl, rfl⟩, by kernel_rfl, by decide⟩
instance : FldC Tryd.prog 26 2 2 24 1 := ⟨⟨_, _, Tryd.underlying26, rfl, rfl, rfl⟩, by kernel_rfl, by decide⟩
instance : ZC Tryd.prog 26 [.int .i64 0, .int .i64 0, .slice none 0 0] := ⟨⟨.agg #[.int .i64 0, .int .i64 0, .slice none 0 0], by kernel_rfl, rfl⟩⟩
instance : ElT Tryd.prog 26 (.agg #[.int .i64 0, .int .i64 0, .slice none 0 0]) 3 40 := ⟨by kernel_rfl, rfl⟩
instance : BldC Tryd.prog 26 [(0, 1), (1, 1), (2, 1)] [.int .i64 0, .int .i64 0, .slice none 0 0] := ⟨fun parts => by kernel_rfl⟩
instance : AggC Tryd.prog 30 5 := ⟨⟨_, Tryd.underlying30, rfl⟩, by kernel_rfl⟩
instance : FldC Tryd.prog 30 0 0 3 1 := ⟨⟨_, _, Tryd.underlying30, rfl, rfl, rfl⟩, by kernel_rfl, by decide⟩
instance : FldC Tryd.prog 30 1 1 3 1 := ⟨⟨_, _, Tryd.underlying30, rfl, rfl, rfl⟩, by kernel_rfl, by decide⟩
instance : FldC Tryd.prog 30 2 2 3 1 := ⟨⟨_, _, Tryd.underlying30, rfl, rfl, rfl⟩, by kernel_rfl, by decide⟩
instance : FldC Tryd.prog 30 3 3 3 1 := ⟨⟨_, _, Tryd.underlying30, rfl, rfl, rfl⟩, by kernel_rfl, by decide⟩
instance : FldC Tryd.prog 30 4 4 9 1 := ⟨⟨_, _, Tryd.underlying30, rfl, rfl, rfl⟩, by kernel_rfl, by decide⟩
instance : ZC Tryd.prog 30 [.int .i64 0, .int .i64 0, .int .i64 0, .int .i64 0, .string ⟨#[]⟩] := ⟨⟨.agg #[.int .i64 0, .int .i64 0, .int .i64 0, .int .i64 0, .string ⟨#[]⟩], by kernel_rfl, rfl⟩⟩
instance : ElT Tryd.prog 30 (.agg #[.int .i64 0, .int .i64 0, .int .i64 0, .int .i64 0, .string ⟨#[]⟩]) 5 48 := ⟨by kernel_rfl, rfl⟩
instance : BldC Tryd.prog 30 [(0, 1), (1, 1), (2, 1), (3, 1), (4, 1)] [.int .i64 0, .int .i64 0, .int .i64 0, .int .i64 0, .string ⟨#[]⟩] := ⟨fun parts => by kernel_rfl⟩
instance : AggC Tryd.prog 60 2 := ⟨⟨_, Tryd.underlying60, rfl⟩, by kernel_rfl⟩
instance : FldC Tryd.prog 60 0 0 3 1 := ⟨⟨_, _, Tryd.underlying60, rfl, rfl, rfl⟩, by kernel_rfl, by decide⟩
instance : FldC Tryd.prog 60 1 1 58 1 := ⟨⟨_, _, Tryd.underlying60, rfl, rfl, rfl⟩, by kernel_rfl, by decide⟩
instance : ZC Tryd.prog 60 [.int .i64 0, .slice none 0 0] := ⟨⟨.agg #[.int .i64 0, .slice none 0 0], by kernel_rfl, rfl⟩⟩
instance : ElT Tryd.prog 60 (.agg #[.int .i64 0, .slice none 0 0]) 2 32 := ⟨by kernel_rfl, rfl⟩
instance : BldC Tryd.prog 60 [(0, 1), (1, 1)] [.int .i64 0, .slice none 0 0] := ⟨fun parts => by kernel_rfl⟩
instance : AggC Tryd.prog 76 3 := ⟨⟨_, Tryd.underlying76, rfl⟩, by kernel_rfl⟩
instance : FldC Tryd.prog 76 0 0 24 1 := ⟨⟨_, _, Tryd.underlying76, rfl, rfl, rfl⟩, by kernel_rfl, by decide⟩
instance : FldC Tryd.prog 76 1 1 9 1 := ⟨⟨_, _, Tryd.underlying76, rfl, rfl, rfl⟩, by kernel_rfl, by decide⟩
instance : FldC Tryd.prog 76 2 2 3 1 := ⟨⟨_, _, Tryd.underlying76, rfl, rfl, rfl⟩, by kernel_rfl, by decide⟩
instance : ZC Tryd.prog 76 [.slice none 0 0, .string ⟨#[]⟩, .int .i64 0] := ⟨⟨.agg #[.slice none 0 0, .string ⟨#[]⟩, .int .i64 0], by kernel_rfl, rfl⟩⟩
instance : ElT Tryd.prog 76 (.agg #[.slice none 0 0, .string ⟨#[]⟩, .int .i64 0]) 3 48 := ⟨by kernel_rfl, rfl⟩
instance : BldC Tryd.prog 76 [(0, 1), (1, 1), (2, 1)] [.slice none 0 0, .string ⟨#[]⟩, .int .i64 0] := ⟨fun parts => by kernel_rfl⟩
instance : AggC Tryd.prog 93 3 := ⟨⟨_, Tryd.underlying93, rfl⟩, by kernel_rfl⟩
instance : FldC Tryd.prog 93 0 0 3 1 := ⟨⟨_, _, Tryd.underlying93, rfl, rfl, rfl⟩, by kernel_rfl, by decide⟩
instance : FldC Tryd.prog 93 1 1 3 1 := ⟨⟨_, _, Tryd.underlying93, rfl, rfl, rfl⟩, by kernel_rfl, by decide⟩
instance : FldC Tryd.prog 93 2 2 24 1 := ⟨⟨_, _, Tryd.underlying93, rfl, rfl, rfl⟩, by kernel_rfl, by decide⟩
instance : ZC Tryd.prog 93 [.int .i64 0, .int .i64 0, .slice none 0 0] := ⟨⟨.agg #[.int .i64 0, .int .i64 0, .slice none 0 0], by kernel_rfl, rfl⟩⟩
instance : ElT Tryd.prog 93 (.agg #[.int .i64 0, .int .i64 0, .slice none 0 0]) 3 40 := ⟨by kernel_rfl, rfl⟩
instance : BldC Tryd.prog 93 [(0, 1), (1, 1), (2, 1)] [.int .i64 0, .int .i64 0, .slice none 0 0] := ⟨fun parts => by kernel_rfl⟩
instance : AggC Tryd.prog 96 6 := ⟨⟨_, Tryd.underlying96, rfl⟩, by kernel_rfl⟩
instance : FldC Tryd.prog 96 0 0 93 3 := ⟨⟨_, _, Tryd.underlying96, rfl, rfl, rfl⟩, by kernel_rfl, by decide⟩
instance : FldC Tryd.prog 96 1 3 3 1 := ⟨⟨_, _, Tryd.underlying96, rfl, rfl, rfl⟩, by kernel_rfl, by decide⟩
instance : FldC Tryd.prog 96 2 4 3 1 := ⟨⟨_, _, Tryd.underlying96, rfl, rfl, rfl⟩, by kernel_rfl, by decide⟩
instance : FldC Tryd.prog 96 3 5 94 1 := ⟨⟨_, _, Tryd.underlying96, rfl, rfl, rfl⟩, by kernel_rfl, by decide⟩
instance : ZC Tryd.prog 96 [.int .i64 0, .int .i64 0, .slice none 0 0, .int .i64 0, .int .i64 0, .slice none 0 0] := ⟨⟨.agg #[.int .i64 0, .int .i64 0, .slice none 0 0, .int .i64 0, .int .i64 0, .slice none 0 0], by kernel_rfl, rfl⟩⟩
instance : ElT Tryd.prog 96 (.agg #[.int .i64 0, .int .i64 0, .slice none 0 0, .int .i64 0, .int .i64 0, .slice none 0 0]) 6 80 := ⟨by kernel_rfl, rfl⟩
instance : BldC Tryd.prog 96 [(0, 3), (3, 1), (4, 1), (5, 1)] [.int .i64 0, .int .i64 0, .slice none 0 0, .int .i64 0, .int .i64 0, .slice none 0 0] := ⟨fun parts => by kernel_rfl⟩
instance : AggC Tryd.prog 100 6 := ⟨⟨_, Tryd.underlying100, rfl⟩, by kernel_rfl⟩
instance : FldC Tryd.prog 100 0 0 26 3 := ⟨⟨_, _, Tryd.underlying100, rfl, rfl, rfl⟩, by kernel_rfl, by decide⟩
instance : FldC Tryd.prog 100 1 3 3 1 := ⟨⟨_, _, Tryd.underlying100, rfl, rfl, rfl⟩, by kernel_rfl, by decide⟩
instance : FldC Tryd.prog 100 2 4 3 1 := ⟨⟨_, _, Tryd.underlying100, rfl, rfl, rfl⟩, by kernel_rfl, by decide⟩
instance : FldC Tryd.prog 100 3 5 98 1 := ⟨⟨_, _, Tryd.underlying100, rfl, rfl, rfl⟩, by kernel_rfl, by decide⟩
instance : ZC Tryd.prog 100 [.int .i64 0, .int .i64 0, .slice none 0 0, .int .i64 0, .int .i64 0, .slice none 0 0] := ⟨⟨.agg #[.int .i64 0, .int .i64 0, .slice none 0 0, .int .i64 0, .int .i64 0, .slice none 0 0], by kernel_rfl, rfl⟩⟩
instance : ElT Tryd.prog 100 (.agg #[.int .i64 0, .int .i64 0, .slice none 0 0, .int .i64 0, .int .i64 0, .slice none 0 0]) 6 80 := ⟨by kernel_rfl, rfl⟩
instance : BldC Tryd.prog 100 [(0, 3), (3, 1), (4, 1), (5, 1)] [.int .i64 0, .int .i64 0, .slice none 0 0, .int .i64 0, .int .i64 0, .slice none 0 0] := ⟨fun parts => by kernel_rfl⟩
instance : AggC Tryd.prog 121 3 := ⟨⟨_, Tryd.underlying121, rfl⟩, by kernel_rfl⟩
instance : FldC Tryd.prog 121 0 0 22 1 := ⟨⟨_, _, Tryd.underlying121, rfl, rfl, rfl⟩, by kernel_rfl, by decide⟩
instance : FldC Tryd.prog 121 1 1 3 1 := ⟨⟨_, _, Tryd.underlying121, rfl, rfl, rfl⟩, by kernel_rfl, by decide⟩
instance : FldC Tryd.prog 121 2 2 119 1 := ⟨⟨_, _, Tryd.underlying121, rfl, rfl, rfl⟩, by kernel_rfl, by decide⟩
instance : ZC Tryd.prog 121 [.slice none 0 0, .int .i64 0, .int .u64 0] := ⟨⟨.agg #[.slice none 0 0, .int .i64 0, .int .u64 0], by kernel_rfl, rfl⟩⟩
instance : ElT Tryd.prog 121 (.agg #[.slice none 0 0, .int .i64 0, .int .u64 0]) 3 40 := ⟨by kernel_rfl, rfl⟩
instance : BldC Tryd.prog 121 [(0, 1), (1, 1), (2, 1)] [.slice none 0 0, .int .i64 0, .int .u64 0] := ⟨fun parts => by kernel_rfl⟩
instance : AggC Tryd.prog 146 2 := ⟨⟨_, Tryd.underlying146, rfl⟩, by kernel_rfl⟩
instance : FldC Tryd.prog 146 0 0 4 1 := ⟨⟨_, _, Tryd.underlying146, rfl, rfl, rfl⟩, by kernel_rfl, by decide⟩
instance : FldC Tryd.prog 146 1 1 9 1 := ⟨⟨_, _, Tryd.underlying146, rfl, rfl, rfl⟩, by kernel_rfl, by decide⟩
instance : ZC Tryd.prog 146 [.bool false, .string ⟨#[]⟩] := ⟨⟨.agg #[.bool false, .string ⟨#[]⟩], by kernel_rfl, rfl⟩⟩
instance : ElT Tryd.prog 146 (.agg #[.bool false, .string ⟨#[]⟩]) 2 24 := ⟨by kernel_rfl, rfl⟩
instance : BldC Tryd.prog 146 [(0, 1), (1, 1)] [.bool false, .string ⟨#[]⟩] := ⟨fun parts => by kernel_rfl⟩
instance : AggC Tryd.prog 195 2 := ⟨⟨_, Tryd.underlying195, rfl⟩, by kernel_rfl⟩
instance : FldC Tryd.prog 195 0 0 3 1 := ⟨⟨_, _, Tryd.underlying195, rfl, rfl, rfl⟩, by kernel_rfl, by decide⟩
instance : FldC Tryd.prog 195 1 1 3 1 := ⟨⟨_, _, Tryd.underlying195, rfl, rfl, rfl⟩, by kernel_rfl, by decide⟩
instance : ZC Tryd.prog 195 [.int .i64 0, .int .i64 0] := ⟨⟨.agg #[.int .i64 0, .int .i64 0], by kernel_rfl, rfl⟩⟩
instance : ElT Tryd.prog 195 (.agg #[.int .i64 0, .int .i64 0]) 2 16 := ⟨by kernel_rfl, rfl⟩
instance : BldC Tryd.prog 195 [(0, 1), (1, 1)] [.int .i64 0, .int .i64 0] := ⟨fun parts => by kernel_rfl⟩
instance : AggC Tryd.prog 198 2 := ⟨⟨_, Tryd.underlying198, rfl⟩, by kernel_rfl⟩
instance : FldC Tryd.prog 198 0 0 3 1 := ⟨⟨_, _, Tryd.underlying198, rfl, rfl, rfl⟩, by kernel_rfl, by decide⟩
instance : FldC Tryd.prog 198 1 1 3 1 := ⟨⟨_, _, Tryd.underlying198, rfl, rfl, rfl⟩, by kernel_rfl, by decide⟩
instance : ZC Tryd.prog 198 [.int .i64 0, .int .i64 0] := ⟨⟨.agg #[.int .i64 0, .int .i64 0], by kernel_rfl, rfl⟩⟩
instance : ElT Tryd.prog 198 (.agg #[.int .i64 0, .int .i64 0]) 2 16 := ⟨by kernel_rfl, rfl⟩
instance : BldC Tryd.prog 198 [(0, 1), (1, 1)] [.int .i64 0, .int .i64 0] := ⟨fun parts => by kernel_rfl⟩
instance : OneC Tryd.prog 22 := ⟨⟨_, Tryd.underlying22, rfl⟩, by kernel_rfl⟩
instance : SlC Tryd.prog 22 5 1 := ⟨Tryd.underlying22, by kernel_rfl⟩
instance : ZC Tryd.prog 22 [.slice none 0 0] := ⟨⟨.slice none 0 0, by kernel_rfl, rfl⟩⟩
instance : ElT Tryd.prog 22 (.slice none 0 0) 1 24 := ⟨by kernel_rfl, rfl⟩
instance : OneC Tryd.prog 24 := ⟨⟨_, Tryd.underlying24, rfl⟩, by kernel_rfl⟩
instance : SlC Tryd.prog 24 9 1 := ⟨Tryd.underlying24, by kernel_rfl⟩
instance : ZC Tryd.prog 24 [.slice none 0 0] := ⟨⟨.slice none 0 0, by kernel_rfl, rfl⟩⟩
instance : ElT Tryd.prog 24 (.slice none 0 0) 1 24 := ⟨by kernel_rfl, rfl⟩
instance : OneC Tryd.prog 42 := ⟨⟨_, Tryd.underlying42, rfl⟩, by kernel_rfl⟩
instance : SlC Tryd.prog 42 3 1 := ⟨Tryd.underlying42, by kernel_rfl⟩
instance : ZC Tryd.prog 42 [.slice none 0 0] := ⟨⟨.slice none 0 0, by kernel_rfl, rfl⟩⟩
instance : ElT Tryd.prog 42 (.slice none 0 0) 1 24 := ⟨by kernel_rfl, rfl⟩
instance : OneC Tryd.prog 58 := ⟨⟨_, Tryd.underlying58, rfl⟩, by kernel_rfl⟩
instance : SlC Tryd.prog 58 146 2 := ⟨Tryd.underlying58, by kernel_rfl⟩
instance : ZC Tryd.prog 58 [.slice none 0 0] := ⟨⟨.slice none 0 0, by kernel_rfl, rfl⟩⟩
instance : ElT Tryd.prog 58 (.slice none 0 0) 1 24 := ⟨by kernel_rfl, rfl⟩
instance : OneC Tryd.prog 94 := ⟨⟨_, Tryd.underlying94, rfl⟩, by kernel_rfl⟩
instance : SlC Tryd.prog 94 198 2 := ⟨Tryd.underlying94, by kernel_rfl⟩
instance : ZC Tryd.prog 94 [.slice none 0 0] := ⟨⟨.slice none 0 0, by kernel_rfl, rfl⟩⟩
instance : ElT Tryd.prog 94 (.slice none 0 0) 1 24 := ⟨by kernel_rfl, rfl⟩
instance : OneC Tryd.prog 98 := ⟨⟨_, Tryd.underlying98, rfl⟩, by kernel_rfl⟩
instance : SlC Tryd.prog 98 195 2 := ⟨Tryd.underlying98, by kernel_rfl⟩
instance : ZC Tryd.prog 98 [.slice none 0 0] := ⟨⟨.slice none 0 0, by kernel_rfl, rfl⟩⟩
instance : ElT Tryd.prog 98 (.slice none 0 0) 1 24 := ⟨by kernel_rfl, rfl⟩
instance : OneC Tryd.prog 101 := ⟨⟨_, Tryd.underlying101, rfl⟩, by kernel_rfl⟩
instance : SlC Tryd.prog 101 30 5 := ⟨Tryd.underlying101, by kernel_rfl⟩
instance : ZC Tryd.prog 101 [.slice none 0 0] := ⟨⟨.slice none 0 0, by kernel_rfl, rfl⟩⟩
instance : ElT Tryd.prog 101 (.slice none 0 0) 1 24 := ⟨by kernel_rfl, rfl⟩
instance : OneC Tryd.prog 118 := ⟨⟨_, Tryd.underlying118, rfl⟩, by kernel_rfl⟩
instance : OneC Tryd.prog 176 := ⟨⟨_, Tryd.underlying176, rfl⟩, by kernel_rfl⟩
instance : OneC Tryd.prog 179 := ⟨⟨_, Tryd.underlying179, rfl⟩, by kernel_rfl⟩
instance : OneC Tryd.prog 183 := ⟨⟨_, Tryd.underlying183, rfl⟩, by kernel_rfl⟩
instance : OneC Tryd.prog 200 := ⟨⟨_, Tryd.underlying200, rfl⟩, by kernel_rfl⟩
end Go.Proofs.YtidephmobajikaaDoor
