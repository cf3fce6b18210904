/- What the types of this program are. -/
import Derived.Test.YtkcajnpdmgafjaaDoorX4
import Derived.Test.YtkcajnpdmgafjaaDoorProg
namespace Go.Proofs.YtkcajnpdmgafjaaDoor
open Go.RowKit
instance : OneC Tryd.prog 3 := ⟨⟨_, Tryd.underlying3, rfl⟩, by kernel_rfl⟩
instance : IntC Tryd.prog 3 .i64 := ⟨Tryd.underlying3⟩
instance : ZC Tryd.prog 3 [.int .i64 0] := ⟨⟨.int .i64 0, by kernel_rfl, rfl⟩⟩
instance : ElT Tryd.prog 3 (.int .i64 0) 1 8 := ⟨by kernel_rfl, rfl⟩
instance : OneC Tryd.prog 5 := ⟨⟨_, Tryd.underlying5, rfl⟩, by kernel_rfl⟩
instance : IntC Tryd.prog 5 .u8 := ⟨Tryd.underlying5⟩
instance : ZC Tryd.prog 5 [.int .u8 0] := ⟨⟨.int .u8 0, by kernel_rfl, rfl⟩⟩
instance : ElT Tryd.prog 5 (.int .u8 0) 1 1 := ⟨by kernel_rfl, rfl⟩
instance : OneC Tryd.prog 143 := ⟨⟨_, Tryd.underlying143, rfl⟩, by kernel_rfl⟩
instance : IntC Tryd.prog 143 .u64 := ⟨Tryd.underlying143⟩
instance : ZC Tryd.prog 143 [.int .u64 0] := ⟨⟨.int .u64 0, by kernel_rfl, rfl⟩⟩
instance : ElT Tryd.prog 143 (.int .u64 0) 1 8 := ⟨by kernel_rfl, rfl⟩
instance : OneC Tryd.prog 4 := ⟨⟨_, Tryd.underlying4, rfl⟩, by kernel_rfl⟩
instance : BoolC Tryd.prog 4 := ⟨Tryd.underlying4⟩
instance : ZC Tryd.prog 4 [.bool false] := ⟨⟨.bool false, by kernel_rfl, rfl⟩⟩
instance : ElT Tryd.prog 4 (.bool false) 1 1 := ⟨by kernel_rfl, rfl⟩
instance : OneC Tryd.prog 9 := ⟨⟨_, Tryd.underlying9, rfl⟩, by kernel_rfl⟩
instance : StrC Tryd.prog 9 := ⟨Tryd.underlying9⟩
instance : ZC Tryd.prog 9 [.string ⟨#[]⟩] := ⟨⟨.string ⟨#[]⟩, by kernel_rfl, rfl⟩⟩
instance : ElT Tryd.prog 9 (.string ⟨#[]⟩) 1 16 := ⟨by kernel_rfl, rfl⟩
instance : OneC Tryd.prog 21 := ⟨⟨_, Tryd.underlying21, rfl⟩, by kernel_rfl⟩
instance : IntC Tryd.prog 21 .i32 := ⟨Tryd.underlying21⟩
instance : ZC Tryd.prog 21 [.int .i32 0] := ⟨⟨.int .i32 0, by kernel_rfl, rfl⟩⟩
instance : ElT Tryd.prog 21 (.int .i32 0) 1 4 := ⟨by kernel_rfl, rfl⟩
instance : AggC Tryd.prog 24 3 := ⟨⟨_, Tryd.underlying24, rfl⟩, by kernel_rfl⟩
instance : FldC Tryd.prog 24 0 0 22 1 := ⟨⟨_, _, Tryd.underlying24, rfl, rfl, rfl⟩, by kernel_rfl, by decide⟩
instance : FldC Tryd.prog 24 1 1 9 1 := ⟨⟨_, _, Tryd.underlying24, rfl, rfl, rfl⟩, by kernel_rfl, by decide⟩
instance : FldC Tryd.prog 24 2 2 3 1 := ⟨⟨_, _, Tryd.underlying24, rfl, rfl, rfl⟩, by kernel_rfl, by decide⟩
instance : ZC Tryd.prog 24 [.slice none 0 0, .string ⟨#[]⟩, .int .i64 0] := ⟨⟨.agg #[.slice none 0 0, .string ⟨#[]⟩, .int .i64 0], by kernel_rfl, rfl⟩⟩
instance : ElT Tryd.prog 24 (.agg #[.slice none 0 0, .string ⟨#[]⟩, .int .i64 0]) 3 48 := ⟨by kernel_rfl, rfl⟩
instance : BldC Tryd.prog 24 [(0, 1), (1, 1), (2, 1)] [.slice none 0 0, .string ⟨#[]⟩, .int .i64 0] := ⟨fun parts => by kernel_rfl⟩
instance : AggC Tryd.prog 26 3 := ⟨⟨_, Tryd.underlying26, rfl⟩, by kernel_rfl⟩
instance : FldC Tryd.prog 26 0 0 22 1 := ⟨⟨_, _, Tryd.underlying26, rfl, rfl, rfl⟩, by kernel_rfl, by decide⟩
instance : FldC Tryd.prog 26 1 1 9 1 := ⟨⟨_, _, Tryd.underlying26, rfl, rfl, rfl⟩, by kernel_rfl, by decide⟩
instance : FldC Tryd.prog 26 2 2 3 1 := ⟨⟨_, _, Tryd.underlying26, rfl, rfl, rfl⟩, by kernel_rfl, by decide⟩
instance : ZC Tryd.prog 26 [.slice none 0 0, .string ⟨#[]⟩, .int .i64 0] := ⟨⟨.agg #[.slice none 0 0, .string ⟨#[]⟩, .int .i64 0], by kernel_rfl, rfl⟩⟩
instance : ElT Tryd.prog 26 (.agg #[.slice none 0 0, .string ⟨#[]⟩, .int .i64 0]) 3 48 := ⟨by kernel_rfl, rfl⟩
instance : BldC Tryd.prog 26 [(0, 1), (1, 1), (2, 1)] [.slice none 0 0, .string ⟨#[]⟩, .int .i64 0] := ⟨fun parts => by kernel_rfl⟩
instance : AggC Tryd.prog 65 2 := ⟨⟨_, Tryd.underlying65, rfl⟩, by kernel_rfl⟩
instance : FldC Tryd.prog 65 0 0 3 1 := ⟨⟨_, _, Tryd.underlying65, rfl, rfl, rfl⟩, by kernel_rfl, by decide⟩
instance : FldC Tryd.prog 65 1 1 63 1 := ⟨⟨_, _, Tryd.underlying65, rfl, rfl, rfl⟩, by kernel_rfl, by decide⟩
instance : ZC Tryd.prog 65 [.int .i64 0, .slice none 0 0] := ⟨⟨.agg #[.int .i64 0, .slice none 0 0], by kernel_rfl, rfl⟩⟩
instance : ElT Tryd.prog 65 (.agg #[.int .i64 0, .slice none 0 0]) 2 32 := ⟨by kernel_rfl, rfl⟩
instance : BldC Tryd.prog 65 [(0, 1), (1, 1)] [.int .i64 0, .slice none 0 0] := ⟨fun parts => by kernel_rfl⟩
instance : AggC Tryd.prog 69 2 := ⟨⟨_, Tryd.underlying69, rfl⟩, by kernel_rfl⟩
instance : FldC Tryd.prog 69 0 0 3 1 := ⟨⟨_, _, Tryd.underlying69, rfl, rfl, rfl⟩, by kernel_rfl, by decide⟩
instance : FldC Tryd.prog 69 1 1 67 1 := ⟨⟨_, _, Tryd.underlying69, rfl, rfl, rfl⟩, by kernel_rfl, by decide⟩
instance : ZC Tryd.prog 69 [.int .i64 0, .slice none 0 0] := ⟨⟨.agg #[.int .i64 0, .slice none 0 0], by kernel_rfl, rfl⟩⟩
instance : ElT Tryd.prog 69 (.agg #[.int .i64 0, .slice none 0 0]) 2 32 := ⟨by kernel_rfl, rfl⟩
instance : BldC Tryd.prog 69 [(0, 1), (1, 1)] [.int .i64 0, .slice none 0 0] := ⟨fun parts => by kernel_rfl⟩
instance : AggC Tryd.prog 79 3 := ⟨⟨_, Tryd.underlying79, rfl⟩, by kernel_rfl⟩
instance : FldC Tryd.prog 79 0 0 3 1 := ⟨⟨_, _, Tryd.underlying79, rfl, rfl, rfl⟩, by kernel_rfl, by decide⟩
instance : FldC Tryd.prog 79 1 1 3 1 := ⟨⟨_, _, Tryd.underlying79, rfl, rfl, rfl⟩, by kernel_rfl, by decide⟩
instance : FldC Tryd.prog 79 2 2 22 1 := ⟨⟨_, _, Tryd.underlying79, rfl, rfl, rfl⟩, by kernel_rfl, by decide⟩
instance : ZC Tryd.prog 79 [.int .i64 0, .int .i64 0, .slice none 0 0] := ⟨⟨.agg #[.int .i64 0, .int .i64 0, .slice none 0 0], by kernel_rfl, rfl⟩⟩
instance : ElT Tryd.prog 79 (.agg #[.int .i64 0, .int .i64 0, .slice none 0 0]) 3 40 := ⟨by kernel_rfl, rfl⟩
instance : BldC Tryd.prog 79 [(0, 1), (1, 1), (2, 1)] [.int .i64 0, .int .i64 0, .slice none 0 0] := ⟨fun parts => by kernel_rfl⟩
instance : AggC Tryd.prog 83 5 := ⟨⟨_, Tryd.underlying83, rfl⟩, by kernel_rfl⟩
instance : FldC Tryd.prog 83 0 0 3 1 := ⟨⟨_, _, Tryd.underlying83, rfl, rfl, rfl⟩, by kernel_rfl, by decide⟩
instance : FldC Tryd.prog 83 1 1 3 1 := ⟨⟨_, _, Tryd.underlying83, rfl, rfl, rfl⟩, by kernel_rfl, by decide⟩
instance : FldC Tryd.prog 83 2 2 3 1 := ⟨⟨_, _, Tryd.underlying83, rfl, rfl, rfl⟩, by kernel_rfl, by decide⟩
instance : FldC Tryd.prog 83 3 3 3 1 := ⟨⟨_, _, Tryd.underlying83, rfl, rfl, rfl⟩, by kernel_rfl, by decide⟩
instance : FldC Tryd.prog 83 4 4 9 1 := ⟨⟨_, _, Tryd.underlying83, rfl, rfl, rfl⟩, by kernel_rfl, by decide⟩
instance : ZC Tryd.prog 83 [.int .i64 0, .int .i64 0, .int .i64 0, .int .i64 0, .string ⟨#[]⟩] := ⟨⟨.agg #[.int .i64 0, .int .i64 0, .int .i64 0, .int .i64 0, .string ⟨#[]⟩], by kernel_rfl, rfl⟩⟩
instance : ElT Tryd.prog 83 (.agg #[.int .i64 0, .int .i64 0, .int .i64 0, .int .i64 0, .string ⟨#[]⟩]) 5 48 := ⟨by kernel_rfl, rfl⟩
instance : BldC Tryd.prog 83 [(0, 1), (1, 1), (2, 1), (3, 1), (4, 1)] [.int .i64 0, .int .i64 0, .int .i64 0, .int .i64 0, .string ⟨#[]⟩] := ⟨fun parts => by kernel_rfl⟩
instance : AggC Tryd.prog 118 3 := ⟨⟨_, Tryd.underlying118, rfl⟩, by kernel_rfl⟩
instance : FldC Tryd.prog 118 0 0 3 1 := ⟨⟨_, _, Tryd.underlying118, rfl, rfl, rfl⟩, by kernel_rfl, by decide⟩
instance : FldC Tryd.prog 118 1 1 3 1 := ⟨⟨_, _, Tryd.underlying118, rfl, rfl, rfl⟩, by kernel_rfl, by decide⟩
instance : FldC Tryd.prog 118 2 2 22 1 := ⟨⟨_, _, Tryd.underlying118, rfl, rfl, rfl⟩, by kernel_rfl, by decide⟩
instance : ZC Tryd.prog 118 [.int .i64 0, .int .i64 0, .slice none 0 0] := ⟨⟨.agg #[.int .i64 0, .int .i64 0, .slice none 0 0], by kernel_rfl, rfl⟩⟩
instance : ElT Tryd.prog 118 (.agg #[.int .i64 0, .int .i64 0, .slice none 0 0]) 3 40 := ⟨by kernel_rfl, rfl⟩
instance : BldC Tryd.prog 118 [(0, 1), (1, 1), (2, 1)] [.int .i64 0, .int .i64 0, .slice none 0 0] := ⟨fun parts => by kernel_rfl⟩
instance : AggC Tryd.prog 121 6 := ⟨⟨_, Tryd.underlying121, rfl⟩, by kernel_rfl⟩
instance : FldC Tryd.prog 121 0 0 118 3 := ⟨⟨_, _, Tryd.underlying121, rfl, rfl, rfl⟩, by kernel_rfl, by decide⟩
instance : FldC Tryd.prog 121 1 3 3 1 := ⟨⟨_, _, Tryd.underlying121, rfl, rfl, rfl⟩, by kernel_rfl, by decide⟩
instance : FldC Tryd.prog 121 2 4 3 1 := ⟨⟨_, _, Tryd.underlying121, rfl, rfl, rfl⟩, by kernel_rfl, by decide⟩
instance : FldC Tryd.prog 121 3 5 119 1 := ⟨⟨_, _, Tryd.underlying121, rfl, rfl, rfl⟩, by kernel_rfl, by decide⟩
instance : ZC Tryd.prog 121 [.int .i64 0, .int .i64 0, .slice none 0 0, .int .i64 0, .int .i64 0, .slice none 0 0] := ⟨⟨.agg #[.int .i64 0, .int .i64 0, .slice none 0 0, .int .i64 0, .int .i64 0, .slice none 0 0], by kernel_rfl, rfl⟩⟩
instance : ElT Tryd.prog 121 (.agg #[.int .i64 0, .int .i64 0, .slice none 0 0, .int .i64 0, .int .i64 0, .slice none 0 0]) 6 80 := ⟨by kernel_rfl, rfl⟩
instance : BldC Tryd.prog 121 [(0, 3), (3, 1), (4, 1), (5, 1)] [.int .i64 0, .int .i64 0, .slice none 0 0, .int .i64 0, .int .i64 0, .slice none 0 0] := ⟨fun parts => by kernel_rfl⟩
instance : AggC Tryd.prog 125 6 := ⟨⟨_, Tryd.underlying125, rfl⟩, by kernel_rfl⟩
instance : FldC Tryd.prog 125 0 0 79 3 := ⟨⟨_, _, Tryd.underlying125, rfl, rfl, rfl⟩, by kernel_rfl, by decide⟩
instance : FldC Tryd.prog 125 1 3 3 1 := ⟨⟨_, _, Tryd.underlying125, rfl, rfl, rfl⟩, by kernel_rfl, by decide⟩
instance : FldC Tryd.prog 125 2 4 3 1 := ⟨⟨_, _, Tryd.underlying125, rfl, rfl, rfl⟩, by kernel_rfl, by decide⟩
instance : FldC Tryd.prog 125 3 5 123 1 := ⟨⟨_, _, Tryd.underlying125, rfl, rfl, rfl⟩, by kernel_rfl, by decide⟩
instance : ZC Tryd.prog 125 [.int .i64 0, .int .i64 0, .slice none 0 0, .int .i64 0, .int .i64 0, .slice none 0 0] := ⟨⟨.agg #[.int .i64 0, .int .i64 0, .slice none 0 0, .int .i64 0, .int .i64 0, .slice none 0 0], by kernel_rfl, rfl⟩⟩
instance : ElT Tryd.prog 125 (.agg #[.int .i64 0, .int .i64 0, .slice none 0 0, .int .i64 0, .int .i64 0, .slice none 0 0]) 6 80 := ⟨by kernel_rfl, rfl⟩
instance : BldC Tryd.prog 125 [(0, 3), (3, 1), (4, 1), (5, 1)] [.int .i64 0, .int .i64 0, .slice none 0 0, .int .i64 0, .int .i64 0, .slice none 0 0] := ⟨fun parts => by kernel_rfl⟩
instance : AggC Tryd.prog 145 3 := ⟨⟨_, Tryd.underlying145, rfl⟩, by kernel_rfl⟩
instance : FldC Tryd.prog 145 0 0 39 1 := ⟨⟨_, _, Tryd.underlying145, rfl, rfl, rfl⟩, by kernel_rfl, by decide⟩
instance : FldC Tryd.prog 145 1 1 3 1 := ⟨⟨_, _, Tryd.underlying145, rfl, rfl, rfl⟩, by kernel_rfl, by decide⟩
instance : FldC Tryd.prog 145 2 2 143 1 := ⟨⟨_, _, Tryd.underlying145, rfl, rfl, rfl⟩, by kernel_rfl, by decide⟩
instance : ZC Tryd.prog 145 [.slice none 0 0, .int .i64 0, .int .u64 0] := ⟨⟨.agg #[.slice none 0 0, .int .i64 0, .int .u64 0], by kernel_rfl, rfl⟩⟩
instance : ElT Tryd.prog 145 (.agg #[.slice none 0 0, .int .i64 0, .int .u64 0]) 3 40 := ⟨by kernel_rfl, rfl⟩
instance : BldC Tryd.prog 145 [(0, 1), (1, 1), (2, 1)] [.slice none 0 0, .int .i64 0, .int .u64 0] := ⟨fun parts => by kernel_rfl⟩
instance : AggC Tryd.prog 184 2 := ⟨⟨_, Tryd.underlying184, rfl⟩, by kernel_rfl⟩
instance : FldC Tryd.prog 184 0 0 4 1 := ⟨⟨_, _, Tryd.underlying184, rfl, rfl, rfl⟩, by kernel_rfl, by decide⟩
instance : FldC Tryd.prog 184 1 1 9 1 := ⟨⟨_, _, Tryd.underlying184, rfl, rfl, rfl⟩, by kernel_rfl, by decide⟩
instance : ZC Tryd.prog 184 [.bool false, .string ⟨#[]⟩] := ⟨⟨.agg #[.bool false, .string ⟨#[]⟩], by kernel_rfl, rfl⟩⟩
instance : ElT Tryd.prog 184 (.agg #[.bool false, .string ⟨#[]⟩]) 2 24 := ⟨by kernel_rfl, rfl⟩
instance : BldC Tryd.prog 184 [(0, 1), (1, 1)] [.bool false, .string ⟨#[]⟩] := ⟨fun parts => by kernel_rfl⟩
instance : AggC Tryd.prog 212 2 := ⟨⟨_, Tryd.underlying212, rfl⟩, by kernel_rfl⟩
instance : FldC Tryd.prog 212 0 0 4 1 := ⟨⟨_, _, Tryd.underlying212, rfl, rfl, rfl⟩, by kernel_rfl, by decide⟩
instance : FldC Tryd.prog 212 1 1 9 1 := ⟨⟨_, _, Tryd.underlying212, rfl, rfl, rfl⟩, by kernel_rfl, by decide⟩
instance : ZC Tryd.prog 212 [.bool false, .string ⟨#[]⟩] := ⟨⟨.agg #[.bool false, .string ⟨#[]⟩], by kernel_rfl, rfl⟩⟩
instance : ElT Tryd.prog 212 (.agg #[.bool false, .string ⟨#[]⟩]) 2 24 := ⟨by kernel_rfl, rfl⟩
instance : BldC Tryd.prog 212 [(0, 1), (1, 1)] [.bool false, .string ⟨#[]⟩] := ⟨fun parts => by kernel_rfl⟩
instance : AggC Tryd.prog 223 2 := ⟨⟨_, Tryd.underlying223, rfl⟩, by kernel_rfl⟩
instance : FldC Tryd.prog 223 0 0 3 1 := ⟨⟨_, _, Tryd.underlying223, rfl, rfl, rfl⟩, by kernel_rfl, by decide⟩
instance : FldC Tryd.prog 223 1 1 3 1 := ⟨⟨_, _, Tryd.underlying223, rfl, rfl, rfl⟩, by kernel_rfl, by decide⟩
instance : ZC Tryd.prog 223 [.int .i64 0, .int .i64 0] := ⟨⟨.agg #[.int .i64 0, .int .i64 0], by kernel_rfl, rfl⟩⟩
instance : ElT Tryd.prog 223 (.agg #[.int .i64 0, .int .i64 0]) 2 16 := ⟨by kernel_rfl, rfl⟩
instance : BldC Tryd.prog 223 [(0, 1), (1, 1)] [.int .i64 0, .int .i64 0] := ⟨fun parts => by kernel_rfl⟩
instance : AggC Tryd.prog 226 2 := ⟨⟨_, Tryd.underlying226, rfl⟩, by kernel_rfl⟩
instance : FldC Tryd.prog 226 0 0 3 1 := ⟨⟨_, _, Tryd.underlying226, rfl, rfl, rfl⟩, by kernel_rfl, by decide⟩
instance : FldC Tryd.prog 226 1 1 3 1 := ⟨⟨_, _, Tryd.underlying226, rfl, rfl, rfl⟩, by kernel_rfl, by decide⟩
instance : ZC Tryd.prog 226 [.int .i64 0, .int .i64 0] := ⟨⟨.agg #[.int .i64 0, .int .i64 0], by kernel_rfl, rfl⟩⟩
instance : ElT Tryd.prog 226 (.agg #[.int .i64 0, .int .i64 0]) 2 16 := ⟨by kernel_rfl, rfl⟩
instance : BldC Tryd.prog 226 [(0, 1), (1, 1)] [.int .i64 0, .int .i64 0] := ⟨fun parts => by kernel_rfl⟩
instance : OneC Tryd.prog 22 := ⟨⟨_, Tryd.underlying22, rfl⟩, by kernel_rfl⟩
instance : SlC Tryd.prog 22 9 1 := ⟨Tryd.underlying22, by kernel_rfl⟩
instance : ZC Tryd.prog 22 [.slice none 0 0] := ⟨⟨.slice none 0 0, by kernel_rfl, rfl⟩⟩
instance : ElT Tryd.prog 22 (.slice none 0 0) 1 24 := ⟨by kernel_rfl, rfl⟩
instance : OneC Tryd.prog 39 := ⟨⟨_, Tryd.underlying39, rfl⟩, by kernel_rfl⟩
instance : SlC Tryd.prog 39 5 1 := ⟨Tryd.underlying39, by kernel_rfl⟩
instance : ZC Tryd.prog 39 [.slice none 0 0] := ⟨⟨.slice none 0 0, by kernel_rfl, rfl⟩⟩
instance : ElT Tryd.prog 39 (.slice none 0 0) 1 24 := ⟨by kernel_rfl, rfl⟩
instance : OneC Tryd.prog 58 := ⟨⟨_, Tryd.underlying58, rfl⟩, by kernel_rfl⟩
instance : SlC Tryd.prog 58 3 1 := ⟨Tryd.underlying58, by kernel_rfl⟩
instance : ZC Tryd.prog 58 [.slice none 0 0] := ⟨⟨.slice none 0 0, by kernel_rfl, rfl⟩⟩
instance : ElT Tryd.prog 58 (.slice none 0 0) 1 24 := ⟨by kernel_rfl, rfl⟩
instance : OneC Tryd.prog 63 := ⟨⟨_, Tryd.underlying63, rfl⟩, by kernel_rfl⟩
instance : SlC Tryd.prog 63 212 2 := ⟨Tryd.underlying63, by kernel_rfl⟩
instance : ZC Tryd.prog 63 [.slice none 0 0] := ⟨⟨.slice none 0 0, by kernel_rfl, rfl⟩⟩
instance : ElT Tryd.prog 63 (.slice none 0 0) 1 24 := ⟨by kernel_rfl, rfl⟩
instance : OneC Tryd.prog 67 := ⟨⟨_, Tryd.underlying67, rfl⟩, by kernel_rfl⟩
instance : SlC Tryd.prog 67 184 2 := ⟨Tryd.underlying67, by kernel_rfl⟩
instance : ZC Tryd.prog 67 [.slice none 0 0] := ⟨⟨.slice none 0 0, by kernel_rfl, rfl⟩⟩
instance : ElT Tryd.prog 67 (.slice none 0 0) 1 24 := ⟨by kernel_rfl, rfl⟩
instance : OneC Tryd.prog 119 := ⟨⟨_, Tryd.underlying119, rfl⟩, by kernel_rfl⟩
instance : SlC Tryd.prog 119 226 2 := ⟨Tryd.underlying119, by kernel_rfl⟩
instance : ZC Tryd.prog 119 [.slice none 0 0] := ⟨⟨.slice none 0 0, by kernel_rfl, rfl⟩⟩
instance : ElT Tryd.prog 119 (.slice none 0 0) 1 24 := ⟨by kernel_rfl, rfl⟩
instance : OneC Tryd.prog 123 := ⟨⟨_, Tryd.underlying123, rfl⟩, by kernel_rfl⟩
instance : SlC Tryd.prog 123 223 2 := ⟨Tryd.underlying123, by kernel_rfl⟩
instance : ZC Tryd.prog 123 [.slice none 0 0] := ⟨⟨.slice none 0 0, by kernel_rfl, rfl⟩⟩
instance : ElT Tryd.prog 123 (.slice none 0 0) 1 24 := ⟨by kernel_rfl, rfl⟩
instance : OneC Tryd.prog 142 := ⟨⟨_, Tryd.underlying142, rfl⟩, by kernel_rfl⟩
instance : OneC Tryd.prog 199 := ⟨⟨_, Tryd.underlying199, rfl⟩, by kernel_rfl⟩
instance : OneC Tryd.prog 216 := ⟨⟨_, Tryd.underlying216, rfl⟩, by kernel_rfl⟩
instance : OneC Tryd.prog 219 := ⟨⟨_, Tryd.underlying219, rfl⟩, by kernel_rfl⟩
instance : OneC Tryd.prog 228 := ⟨⟨_, Tryd.underlying228, rfl⟩, by kernel_rfl⟩
end Go.Proofs.YtkcajnpdmgafjaaDoor
