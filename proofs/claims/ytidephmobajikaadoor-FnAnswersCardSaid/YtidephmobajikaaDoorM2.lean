/- Part 2 of the proof: 50 texts, one behind the other. -/
import Derived.Test.YtidephmobajikaaDoorProg
import Derived.Test.YtidephmobajikaaDoorShelf
import Derived.Laws.IdiomStrings
import Derived.Laws.Bits64b
import Derived.Test.YtidephmobajikaaDoorM1
/- What the types of this program are. -/
namespace Go.Proofs.YtidephmobajikaaDoor
open Go.RowKit
instance : OneC Tryd.prog 3 := ⟨⟨_, Tryd.underlying3, rfl⟩, by kernel_rfl⟩
instance : IntC Tryd.prog 3 .i64 := ⟨Tryd.underlying3⟩
instance : ZC Tryd.prog 3 [.int .i64 0] := ⟨⟨.int .i64 0, by kernel_rfl, rfl⟩⟩
instance : ElT Tryd.prog 3 (.int .i64 0) 1 8 := ⟨by kernel_rfl, rfl⟩
instance : OneC Tryd.prog 5 := ⟨⟨_, Tryd.underlying5, rfl⟩, by kernel_rfl⟩
instance : IntC Tryd.prog 5 .u8 := ⟨Tryd.underlying5⟩
instance : ZC Tryd.prog 5 [.int .u8 0] := ⟨⟨.int .u8 0, by kernel_rfl, rfl⟩⟩
instance : ElT Tryd.prog 5 (.int .u8 0) 1 1 := ⟨by kernel_rfl, rfl⟩
instance : OneC Tryd.prog 119 := ⟨⟨_, Tryd.underlying119, rfl⟩, by kernel_rfl⟩
instance : IntC Tryd.prog 119 .u64 := ⟨Tryd.underlying119⟩
instance : ZC Tryd.prog 119 [.int .u64 0] := ⟨⟨.int .u64 0, by kernel_rfl, rfl⟩⟩
instance : ElT Tryd.prog 119 (.int .u64 0) 1 8 := ⟨by kernel_rfl, rfl⟩
instance : OneC Tryd.prog 4 := ⟨⟨_, Tryd.underlying4, rfl⟩, by kernel_rfl⟩
instance : BoolC Tryd.prog 4 := ⟨Tryd.underlying4⟩
instance : ZC Tryd.prog 4 [.bool false] := ⟨⟨.bool false, by kernel_rfl, rfl⟩⟩
instance : ElT Tryd.prog 4 (.bool false) 1 1 := ⟨by kernel_rfl, rfl⟩
instance : OneC Tryd.prog 9 := ⟨⟨_, Tryd.underlying9, rfl⟩, by kernel_rfl⟩
instance : StrC Tryd.prog 9 := ⟨Tryd.underlying9⟩
instance : ZC Tryd.prog 9 [.string ⟨#[]⟩] := ⟨⟨.string ⟨#[]⟩, by kernel_rfl, rfl⟩⟩
instance : ElT Tryd.prog 9 (.string ⟨#[]⟩) 1 16 := ⟨by kernel_rfl, rfl⟩
instance : OneC Tryd.prog 21 := ⟨⟨_, Tryd.underlying21, rfl⟩, by kernel_rfl⟩
instance : IntC Tryd.prog 21 .i32 := ⟨Tryd.underlying21⟩
instance : ZC Tryd.prog 21 [.int .i32 0] := ⟨⟨.int .i32 0, by kernel_rfl, rfl⟩⟩
instance : ElT Tryd.prog 21 (.int .i32 0) 1 4 := ⟨by kernel_rfl, rfl⟩
instance : AggC Tryd.prog 26 3 := ⟨⟨_, Tryd.underlying26, rfl⟩, by kernel_rfl⟩
instance : FldC Tryd.prog 26 0 0 3 1 := ⟨⟨_, _, Tryd.underlying26, rfl, rfl, rfl⟩, by kernel_rfl, by decide⟩
instance : FldC Tryd.prog 26 1 1 3 1 := ⟨⟨_, _, Tryd.underlying26, rfl, rfl, rfl⟩, by kernel_rfl, by decide⟩
instance : FldC Tryd.prog 26 2 2 24 1 := ⟨⟨_, _, Tryd.underlying26, rfl, rfl, rfl⟩, by kernel_rfl, by decide⟩
instance : ZC Tryd.prog 26 [.int .i64 0, .int .i64 0, .slice none 0 0] := ⟨⟨.agg #[.int .i64 0, .int .i64 0, .slice none 0 0], by kernel_rfl, rfl⟩⟩
instance : ElT Tryd.prog 26 (.agg #[.int .i64 0, .int .i64 0, .slice none 0 0]) 3 40 := ⟨by kernel_rfl, rfl⟩
instance : BldC Tryd.prog 26 [(0, 1), (1, 1), (2, 1)] [.int .i64 0, .int .i64 0, .slice none 0 0] := ⟨fun parts => by kernel_rfl⟩
instance : AggC Tryd.prog 30 5 := ⟨⟨_, Tryd.underlying30, rfl⟩, by kernel_rfl⟩
instance : FldC Tryd.prog 30 0 0 3 1 := ⟨⟨_, _, Tryd.underlying30, rfl, rfl, rfl⟩, by kernel_rfl, by decide⟩
instance : FldC Tryd.prog 30 1 1 3 1 := ⟨⟨_, _, Tryd.underlying30, rfl, rfl, rfl⟩, by kernel_rfl, by decide⟩
instance : FldC Tryd.prog 30 2 2 3 1 := ⟨⟨_, _, Tryd.underlying30, rfl, rfl, rfl⟩, by kernel_rfl, by decide⟩
instance : FldC Tryd.prog 30 3 3 3 1 := ⟨⟨_, _, Tryd.underlying30, rfl, rfl, rfl⟩, by kernel_rfl, by decide⟩
instance : FldC Tryd.prog 30 4 4 9 1 := ⟨⟨_, _, Tryd.underlying30, rfl, rfl, rfl⟩, by kernel_rfl, by decide⟩
instance : ZC Tryd.prog 30 [.int .i64 0, .int .i64 0, .int .i64 0, .int .i64 0, .string ⟨#[]⟩] := ⟨⟨.agg #[.int .i64 0, .int .i64 0, .int .i64 0, .int .i64 0, .string ⟨#[]⟩], by kernel_rfl, rfl⟩⟩
instance : ElT Tryd.prog 30 (.agg #[.int .i64 0, .int .i64 0, .int .i64 0, .int .i64 0, .string ⟨#[]⟩]) 5 48 := ⟨by kernel_rfl, rfl⟩
instance : BldC Tryd.prog 30 [(0, 1), (1, 1), (2, 1), (3, 1), (4, 1)] [.int .i64 0, .int .i64 0, .int .i64 0, .int .i64 0, .string ⟨#[]⟩] := ⟨fun parts => by kernel_rfl⟩
instance : AggC Tryd.prog 60 2 := ⟨⟨_, Tryd.underlying60, rfl⟩, by kernel_rfl⟩
instance : FldC Tryd.prog 60 0 0 3 1 := ⟨⟨_, _, Tryd.underlying60, rfl, rfl, rfl⟩, by kernel_rfl, by decide⟩
instance : FldC Tryd.prog 60 1 1 58 1 := ⟨⟨_, _, Tryd.underlying60, rfl, rfl, rfl⟩, by kernel_rfl, by decide⟩
instance : ZC Tryd.prog 60 [.int .i64 0, .slice none 0 0] := ⟨⟨.agg #[.int .i64 0, .slice none 0 0], by kernel_rfl, rfl⟩⟩
instance : ElT Tryd.prog 60 (.agg #[.int .i64 0, .slice none 0 0]) 2 32 := ⟨by kernel_rfl, rfl⟩
instance : BldC Tryd.prog 60 [(0, 1), (1, 1)] [.int .i64 0, .slice none 0 0] := ⟨fun parts => by kernel_rfl⟩
instance : AggC Tryd.prog 76 3 := ⟨⟨_, Tryd.underlying76, rfl⟩, by kernel_rfl⟩
instance : FldC Tryd.prog 76 0 0 24 1 := ⟨⟨_, _, Tryd.underlying76, rfl, rfl, rfl⟩, by kernel_rfl, by decide⟩
instance : FldC Tryd.prog 76 1 1 9 1 := ⟨⟨_, _, Tryd.underlying76, rfl, rfl, rfl⟩, by kernel_rfl, by decide⟩
instance : FldC Tryd.prog 76 2 2 3 1 := ⟨⟨_, _, Tryd.underlying76, rfl, rfl, rfl⟩, by kernel_rfl, by decide⟩
instance : ZC Tryd.prog 76 [.slice none 0 0, .string ⟨#[]⟩, .int .i64 0] := ⟨⟨.agg #[.slice none 0 0, .string ⟨#[]⟩, .int .i64 0], by kernel_rfl, rfl⟩⟩
instance : ElT Tryd.prog 76 (.agg #[.slice none 0 0, .string ⟨#[]⟩, .int .i64 0]) 3 48 := ⟨by kernel_rfl, rfl⟩
instance : BldC Tryd.prog 76 [(0, 1), (1, 1), (2, 1)] [.slice none 0 0, .string ⟨#[]⟩, .int .i64 0] := ⟨fun parts => by kernel_rfl⟩
instance : AggC Tryd.prog 93 3 := ⟨⟨_, Tryd.underlying93, rfl⟩, by kernel_rfl⟩
instance : FldC Tryd.prog 93 0 0 3 1 := ⟨⟨_, _, Tryd.underlying93, rfl, rfl, rfl⟩, by kernel_rfl, by decide⟩
instance : FldC Tryd.prog 93 1 1 3 1 := ⟨⟨_, _, Tryd.underlying93, rfl, rfl, rfl⟩, by kernel_rfl, by decide⟩
instance : FldC Tryd.prog 93 2 2 24 1 := ⟨⟨_, _, Tryd.underlying93, rfl, rfl, rfl⟩, by kernel_rfl, by decide⟩
instance : ZC Tryd.prog 93 [.int .i64 0, .int .i64 0, .slice none 0 0] := ⟨⟨.agg #[.int .i64 0, .int .i64 0, .slice none 0 0], by kernel_rfl, rfl⟩⟩
instance : ElT Tryd.prog 93 (.agg #[.int .i64 0, .int .i64 0, .slice none 0 0]) 3 40 := ⟨by kernel_rfl, rfl⟩
instance : BldC Tryd.prog 93 [(0, 1), (1, 1), (2, 1)] [.int .i64 0, .int .i64 0, .slice none 0 0] := ⟨fun parts => by kernel_rfl⟩
instance : AggC Tryd.prog 96 6 := ⟨⟨_, Tryd.underlying96, rfl⟩, by kernel_rfl⟩
instance : FldC Tryd.prog 96 0 0 93 3 := ⟨⟨_, _, Tryd.underlying96, rfl, rfl, rfl⟩, by kernel_rfl, by decide⟩
instance : FldC Tryd.prog 96 1 3 3 1 := ⟨⟨_, _, Tryd.underlying96, rfl, rfl, rfl⟩, by kernel_rfl, by decide⟩
instance : FldC Tryd.prog 96 2 4 3 1 := ⟨⟨_, _, Tryd.underlying96, rfl, rfl, rfl⟩, by kernel_rfl, by decide⟩
instance : FldC Tryd.prog 96 3 5 94 1 := ⟨⟨_, _, Tryd.underlying96, rfl, rfl, rfl⟩, by kernel_rfl, by decide⟩
instance : ZC Tryd.prog 96 [.int .i64 0, .int .i64 0, .slice none 0 0, .int .i64 0, .int .i64 0, .slice none 0 0] := ⟨⟨.agg #[.int .i64 0, .int .i64 0, .slice none 0 0, .int .i64 0, .int .i64 0, .slice none 0 0], by kernel_rfl, rfl⟩⟩
instance : ElT Tryd.prog 96 (.agg #[.int .i64 0, .int .i64 0, .slice none 0 0, .int .i64 0, .int .i64 0, .slice none 0 0]) 6 80 := ⟨by kernel_rfl, rfl⟩
instance : BldC Tryd.prog 96 [(0, 3), (3, 1), (4, 1), (5, 1)] [.int .i64 0, .int .i64 0, .slice none 0 0, .int .i64 0, .int .i64 0, .slice none 0 0] := ⟨fun parts => by kernel_rfl⟩
instance : AggC Tryd.prog 100 6 := ⟨⟨_, Tryd.underlying100, rfl⟩, by kernel_rfl⟩
instance : FldC Tryd.prog 100 0 0 26 3 := ⟨⟨_, _, Tryd.underlying100, rfl, rfl, rfl⟩, by kernel_rfl, by decide⟩
instance : FldC Tryd.prog 100 1 3 3 1 := ⟨⟨_, _, Tryd.underlying100, rfl, rfl, rfl⟩, by kernel_rfl, by decide⟩
instance : FldC Tryd.prog 100 2 4 3 1 := ⟨⟨_, _, Tryd.underlying100, rfl, rfl, rfl⟩, by kernel_rfl, by decide⟩
instance : FldC Tryd.prog 100 3 5 98 1 := ⟨⟨_, _, Tryd.underlying100, rfl, rfl, rfl⟩, by kernel_rfl, by decide⟩
instance : ZC Tryd.prog 100 [.int .i64 0, .int .i64 0, .slice none 0 0, .int .i64 0, .int .i64 0, .slice none 0 0] := ⟨⟨.agg #[.int .i64 0, .int .i64 0, .slice none 0 0, .int .i64 0, .int .i64 0, .slice none 0 0], by kernel_rfl, rfl⟩⟩
instance : ElT Tryd.prog 100 (.agg #[.int .i64 0, .int .i64 0, .slice none 0 0, .int .i64 0, .int .i64 0, .slice none 0 0]) 6 80 := ⟨by kernel_rfl, rfl⟩
instance : BldC Tryd.prog 100 [(0, 3), (3, 1), (4, 1), (5, 1)] [.int .i64 0, .int .i64 0, .slice none 0 0, .int .i64 0, .int .i64 0, .slice none 0 0] := ⟨fun parts => by kernel_rfl⟩
instance : AggC Tryd.prog 121 3 := ⟨⟨_, Tryd.underlying121, rfl⟩, by kernel_rfl⟩
instance : FldC Tryd.prog 121 0 0 22 1 := ⟨⟨_, _, Tryd.underlying121, rfl, rfl, rfl⟩, by kernel_rfl, by decide⟩
instance : FldC Tryd.prog 121 1 1 3 1 := ⟨⟨_, _, Tryd.underlying121, rfl, rfl, rfl⟩, by kernel_rfl, by decide⟩
instance : FldC Tryd.prog 121 2 2 119 1 := ⟨⟨_, _, Tryd.underlying121, rfl, rfl, rfl⟩, by kernel_rfl, by decide⟩
instance : ZC Tryd.prog 121 [.slice none 0 0, .int .i64 0, .int .u64 0] := ⟨⟨.agg #[.slice none 0 0, .int .i64 0, .int .u64 0], by kernel_rfl, rfl⟩⟩
instance : ElT Tryd.prog 121 (.agg #[.slice none 0 0, .int .i64 0, .int .u64 0]) 3 40 := ⟨by kernel_rfl, rfl⟩
instance : BldC Tryd.prog 121 [(0, 1), (1, 1), (2, 1)] [.slice none 0 0, .int .i64 0, .int .u64 0] := ⟨fun parts => by kernel_rfl⟩
instance : AggC Tryd.prog 146 2 := ⟨⟨_, Tryd.underlying146, rfl⟩, by kernel_rfl⟩
instance : FldC Tryd.prog 146 0 0 4 1 := ⟨⟨_, _, Tryd.underlying146, rfl, rfl, rfl⟩, by kernel_rfl, by decide⟩
instance : FldC Tryd.prog 146 1 1 9 1 := ⟨⟨_, _, Tryd.underlying146, rfl, rfl, rfl⟩, by kernel_rfl, by decide⟩
instance : ZC Tryd.prog 146 [.bool false, .string ⟨#[]⟩] := ⟨⟨.agg #[.bool false, .string ⟨#[]⟩], by kernel_rfl, rfl⟩⟩
instance : ElT Tryd.prog 146 (.agg #[.bool false, .string ⟨#[]⟩]) 2 24 := ⟨by kernel_rfl, rfl⟩
instance : BldC Tryd.prog 146 [(0, 1), (1, 1)] [.bool false, .string ⟨#[]⟩] := ⟨fun parts => by kernel_rfl⟩
instance : AggC Tryd.prog 195 2 := ⟨⟨_, Tryd.underlying195, rfl⟩, by kernel_rfl⟩
instance : FldC Tryd.prog 195 0 0 3 1 := ⟨⟨_, _, Tryd.underlying195, rfl, rfl, rfl⟩, by kernel_rfl, by decide⟩
instance : FldC Tryd.prog 195 1 1 3 1 := ⟨⟨_, _, Tryd.underlying195, rfl, rfl, rfl⟩, by kernel_rfl, by decide⟩
instance : ZC Tryd.prog 195 [.int .i64 0, .int .i64 0] := ⟨⟨.agg #[.int .i64 0, .int .i64 0], by kernel_rfl, rfl⟩⟩
instance : ElT Tryd.prog 195 (.agg #[.int .i64 0, .int .i64 0]) 2 16 := ⟨by kernel_rfl, rfl⟩
instance : BldC Tryd.prog 195 [(0, 1), (1, 1)] [.int .i64 0, .int .i64 0] := ⟨fun parts => by kernel_rfl⟩
instance : AggC Tryd.prog 198 2 := ⟨⟨_, Tryd.underlying198, rfl⟩, by kernel_rfl⟩
instance : FldC Tryd.prog 198 0 0 3 1 := ⟨⟨_, _, Tryd.underlying198, rfl, rfl, rfl⟩, by kernel_rfl, by decide⟩
instance : FldC Tryd.prog 198 1 1 3 1 := ⟨⟨_, _, Tryd.underlying198, rfl, rfl, rfl⟩, by kernel_rfl, by decide⟩
instance : ZC Tryd.prog 198 [.int .i64 0, .int .i64 0] := ⟨⟨.agg #[.int .i64 0, .int .i64 0], by kernel_rfl, rfl⟩⟩
instance : ElT Tryd.prog 198 (.agg #[.int .i64 0, .int .i64 0]) 2 16 := ⟨by kernel_rfl, rfl⟩
instance : BldC Tryd.prog 198 [(0, 1), (1, 1)] [.int .i64 0, .int .i64 0] := ⟨fun parts => by kernel_rfl⟩
instance : OneC Tryd.prog 22 := ⟨⟨_, Tryd.underlying22, rfl⟩, by kernel_rfl⟩
instance : SlC Tryd.prog 22 5 1 := ⟨Tryd.underlying22, by kernel_rfl⟩
instance : ZC Tryd.prog 22 [.slice none 0 0] := ⟨⟨.slice none 0 0, by kernel_rfl, rfl⟩⟩
instance : ElT Tryd.prog 22 (.slice none 0 0) 1 24 := ⟨by kernel_rfl, rfl⟩
instance : OneC Tryd.prog 24 := ⟨⟨_, Tryd.underlying24, rfl⟩, by kernel_rfl⟩
instance : SlC Tryd.prog 24 9 1 := ⟨Tryd.underlying24, by kernel_rfl⟩
instance : ZC Tryd.prog 24 [.slice none 0 0] := ⟨⟨.slice none 0 0, by kernel_rfl, rfl⟩⟩
instance : ElT Tryd.prog 24 (.slice none 0 0) 1 24 := ⟨by kernel_rfl, rfl⟩
instance : OneC Tryd.prog 42 := ⟨⟨_, Tryd.underlying42, rfl⟩, by kernel_rfl⟩
instance : SlC Tryd.prog 42 3 1 := ⟨Tryd.underlying42, by kernel_rfl⟩
instance : ZC Tryd.prog 42 [.slice none 0 0] := ⟨⟨.slice none 0 0, by kernel_rfl, rfl⟩⟩
instance : ElT Tryd.prog 42 (.slice none 0 0) 1 24 := ⟨by kernel_rfl, rfl⟩
instance : OneC Tryd.prog 58 := ⟨⟨_, Tryd.underlying58, rfl⟩, by kernel_rfl⟩
instance : SlC Tryd.prog 58 146 2 := ⟨Tryd.underlying58, by kernel_rfl⟩
instance : ZC Tryd.prog 58 [.slice none 0 0] := ⟨⟨.slice none 0 0, by kernel_rfl, rfl⟩⟩
instance : ElT Tryd.prog 58 (.slice none 0 0) 1 24 := ⟨by kernel_rfl, rfl⟩
instance : OneC Tryd.prog 94 := ⟨⟨_, Tryd.underlying94, rfl⟩, by kernel_rfl⟩
instance : SlC Tryd.prog 94 198 2 := ⟨Tryd.underlying94, by kernel_rfl⟩
instance : ZC Tryd.prog 94 [.slice none 0 0] := ⟨⟨.slice none 0 0, by kernel_rfl, rfl⟩⟩
instance : ElT Tryd.prog 94 (.slice none 0 0) 1 24 := ⟨by kernel_rfl, rfl⟩
instance : OneC Tryd.prog 98 := ⟨⟨_, Tryd.underlying98, rfl⟩, by kernel_rfl⟩
instance : SlC Tryd.prog 98 195 2 := ⟨Tryd.underlying98, by kernel_rfl⟩
instance : ZC Tryd.prog 98 [.slice none 0 0] := ⟨⟨.slice none 0 0, by kernel_rfl, rfl⟩⟩
instance : ElT Tryd.prog 98 (.slice none 0 0) 1 24 := ⟨by kernel_rfl, rfl⟩
instance : OneC Tryd.prog 101 := ⟨⟨_, Tryd.underlying101, rfl⟩, by kernel_rfl⟩
instance : SlC Tryd.prog 101 30 5 := ⟨Tryd.underlying101, by kernel_rfl⟩
instance : ZC Tryd.prog 101 [.slice none 0 0] := ⟨⟨.slice none 0 0, by kernel_rfl, rfl⟩⟩
instance : ElT Tryd.prog 101 (.slice none 0 0) 1 24 := ⟨by kernel_rfl, rfl⟩
instance : OneC Tryd.prog 118 := ⟨⟨_, Tryd.underlying118, rfl⟩, by kernel_rfl⟩
instance : OneC Tryd.prog 176 := ⟨⟨_, Tryd.underlying176, rfl⟩, by kernel_rfl⟩
instance : OneC Tryd.prog 179 := ⟨⟨_, Tryd.underlying179, rfl⟩, by kernel_rfl⟩
instance : OneC Tryd.prog 183 := ⟨⟨_, Tryd.underlying183, rfl⟩, by kernel_rfl⟩
instance : OneC Tryd.prog 200 := ⟨⟨_, Tryd.underlying200, rfl⟩, by kernel_rfl⟩
end Go.Proofs.YtidephmobajikaaDoor
/- The rules as walks use them, with the tactics that close their side conditions; parts of slices; appending; regions that draw their order. Plain: no program in sight. -/
namespace Go.Proofs.YtidephmobajikaaDoor
open Go.RowKit
theorem memE {p : Pc} {H : List Pc} (h : p ∈ H := by first | exact .head _ | exact .tail _ (.head _) | exact .tail _ (.tail _ (.head _)) | exact .tail _ (.tail _ (.tail _ (.head _))) | exact .tail _ (.tail _ (.tail _ (.tail _ (.head _)))) | exact .tail _ (.tail _ (.tail _ (.tail _ (.tail _ (.head _))))) | exact .tail _ (.tail _ (.tail _ (.tail _ (.tail _ (.tail _ (.head _)))))) | exact .tail _ (.tail _ (.tail _ (.tail _ (.tail _ (.tail _ (.tail _ (.head _))))))) | exact .tail _ (.tail _ (.tail _ (.tail _ (.tail _ (.tail _ (.tail _ (.tail _ (.head _)))))))) | exact .tail _ (.tail _ (.tail _ (.tail _ (.tail _ (.tail _ (.tail _ (.tail _ (.tail _ (.head _))))))))) | exact .tail _ (.tail _ (.tail _ (.tail _ (.tail _ (.tail _ (.tail _ (.tail _ (.tail _ (.tail _ (.head _)))))))))) | exact .tail _ (.tail _ (.tail _ (.tail _ (.tail _ (.tail _ (.tail _ (.tail _ (.tail _ (.tail _ (.tail _ (.head _))))))))))) | exact .tail _ (.tail _ (.tail _ (.tail _ (.tail _ (.tail _ (.tail _ (.tail _ (.tail _ (.tail _ (.tail _ (.tail _ (.head _)))))))))))) | exact .tail _ (.tail _ (.tail _ (.tail _ (.tail _ (.tail _ (.tail _ (.tail _ (.tail _ (.tail _ (.tail _ (.tail _ (.tail _ (.head _)))))))))))))) : p ∈ H := h
theorem cutE {l : List Value} {j m : Nat} {r : List Value} (h : Cut l j m r := by repeat constructor) : Cut l j m r := h
theorem putE {l r s : List Value} {j : Nat} (h : Put l j r s := by first | exact .one .zero | repeat constructor) : Put l j r s := h
theorem evsE {fr : Fr} {aS : List Operand} {vs : List Value} (h : Evs fr aS vs := by repeat (first | exact Evs.nil | apply Evs.cons (by rfl))) : Evs fr aS vs := h
theorem rplE {H S : List Pc} {p q : Pc} (h : Rpl H p q S := by first | exact .here | exact .there .here | exact .there (.there .here) | exact .there (.there (.there .here)) | exact .there (.there (.there (.there .here))) | exact .there (.there (.there (.there (.there .here)))) | exact .there (.there (.there (.there (.there (.there .here))))) | exact .there (.there (.there (.there (.there (.there (.there .here)))))) | exact .there (.there (.there (.there (.there (.there (.there (.there .here))))))) | exact .there (.there (.there (.there (.there (.there (.there (.there (.there .here)))))))) | exact .there (.there (.there (.there (.there (.there (.there (.there (.there (.there .here))))))))) | exact .there (.there (.there (.there (.there (.there (.there (.there (.there (.there (.there .here)))))))))) | exact .there (.there (.there (.there (.there (.there (.there (.there (.there (.there (.there (.there .here))))))))))) | exact .there (.there (.there (.there (.there (.there (.there (.there (.there (.there (.there (.there (.there .here))))))))))))) : Rpl H p q S := h
theorem picksE {H M R : List Pc} (h : Picks H M R := by repeat (first | exact Picks.nil | apply Picks.cons (by first | exact .here | exact .there .here | exact .there (.there .here) | exact .there (.there (.there .here)) | exact .there (.there (.there (.there .here))) | exact .there (.there (.there (.there (.there .here)))) | exact .there (.there (.there (.there (.there (.there .here))))) | exact .there (.there (.there (.there (.there (.there (.there .here)))))) | exact .there (.there (.there (.there (.there (.there (.there (.there .here))))))) | exact .there (.there (.there (.there (.there (.there (.there (.there (.there .here)))))))) | exact .there (.there (.there (.there (.there (.there (.there (.there (.there (.there .here))))))))) | exact .there (.there (.there (.there (.there (.there (.there (.there (.there (.there (.there .here)))))))))) | exact .there (.there (.there (.there (.there (.there (.there (.there (.there (.there (.there (.there .here))))))))))) | exact .there (.there (.there (.there (.there (.there (.there (.there (.there (.there (.there (.there (.there .here))))))))))))))) : Picks H M R := h
theorem frE {a b : Fr} (h : FrSub a b := by repeat (first | exact FrSub.nil | refine FrSub.cons (by rfl) ?_)) : FrSub a b := h
theorem foldl_put (l : List Value) : ∀ (k off : Nat) (A o B : List Value), A.length = off + k → o.length = l.length → (l.zipIdx k).foldl (fun (cs : Array Value) (x : Value × Nat) => cs.setIfInBounds (off + x.2) x.1) (A ++ o ++ B).toArray = (A ++ l ++ B).toArray := by
  induction l with
  | nil => intro k off A o B _ ho; simp at ho; subst ho; simp
  | cons u r ih =>
    intro k off A o B hA ho
    cases o with
    | nil => simp at ho
    | cons z o =>
      rw [List.zipIdx_cons, List.foldl_cons]
      have h4 : (A ++ (z :: o) ++ B).toArray.setIfInBounds (off + k) u = ((A ++ [u]) ++ o ++ B).toArray := by
        rw [← hA]; simp [List.set_append]
      show List.foldl _ ((A ++ (z :: o) ++ B).toArray.setIfInBounds (off + k) u) _ = _
      rw [h4, ih (k + 1) off (A ++ [u]) o B (by simp; omega) (by simpa using ho)]; simp
/-- parts go to their places -/
inductive Fil (pl : Nat → Option (Nat × Nat)) (fr : Fr) : List Value → List (Nat × Operand) → List Value → Prop
  | nil {cs} : Fil pl fr cs [] cs
  | cons {cs i x ps v l off r q} : ev fr x = some v → v.cells = l.toArray → pl i = some (off, l.length) → Put cs off l r → Fil pl fr r ps q → Fil pl fr cs ((i, x) :: ps) q
theorem Fil.run {pl : Nat → Option (Nat × Nat)} {fr : Fr} {n : Nat} {cs q : List Value} {ps : List (Nat × Operand)} (h : Fil pl fr cs ps q) {a : Act} (g : Ag n fr a) : Instr.fill pl cs.toArray (ps.map fun (i, x) => (i, a.eval x)) = some q.toArray := by
  induction h with
  | nil => rfl
  | @cons cs i x ps v l off r q hx hv hp hput _ ih =>
    obtain ⟨A, o, B, rfl, rfl, rfl, ho⟩ := hput.parts
    rw [List.map_cons]
    unfold Instr.fill
    simp only [hp, g.ev hx, hv]
    have h1 : ¬ ((l.toArray.size ≠ l.length) ∨ (A.length + l.toArray.size > (A ++ o ++ B).toArray.size)) := by simp; omega
    rw [if_neg (by simpa using h1)]
    have h2 : l.toArray.zipIdx.foldl (fun (cs : Array Value) (x : Value × Nat) => cs.setIfInBounds (A.length + x.2) x.1) (A ++ o ++ B).toArray = (A ++ l ++ B).toArray := by
      rw [← Array.foldl_toList]
      have := foldl_put l 0 A.length A o B rfl ho
      simpa using this
    rw [h2]; exact ih
theorem filE {pl : Nat → Option (Nat × Nat)} {fr : Fr} {cs q : List Value} {ps : List (Nat × Operand)} (h : Fil pl fr cs ps q := by repeat (first | exact Fil.nil | apply Fil.cons (by rfl) (by rfl) (by rfl) (by repeat constructor))) : Fil pl fr cs ps q := h
theorem yd_bd {P : Program} {n : Nat} {fr : Fr} {H : List Pc} {ty : TypeId} {t : Nat} {pl : List (Nat × Nat)} {zs q : List Value} {ps : List (Nat × Operand)} [hB : BldC P t pl zs] (hf : Fil (pl.toArray[·]?) fr zs ps q) : Yd P n fr H (.build t ps.toArray) ty (.agg q.toArray) := .mk fun a w d pos aft gd g _ => by
  have h3 := hf.run g
  have h4 := run_build (P := P) w t (ps.map fun (i, x) => (i, a.eval x)).toArray q.toArray (by rw [hB.b]; exact h3)
  simp only [List.map_toArray] at h4
  simp [execOp, h4]
theorem ydE {P : Program} {n : Nat} {fr : Fr} {H : List Pc} {o : Op} {ty : TypeId} {v : Value} (h : Yd P n fr H o ty v := by first | (apply yd_move; rfl) | (apply yd_assign; rfl) | (apply yd_nil; rfl) | (apply yd_fa; rfl) | (apply yd_ld; rfl; exact memE; rfl) | (apply yd_ldc; rfl; exact memE; rfl) | (apply yd_lda; rfl; exact memE; exact cutE) | (apply yd_ldac; rfl; exact memE; exact cutE) | (apply yd_pick_t; rfl; rfl) | (apply yd_pick_f; rfl; rfl) | (apply yd_len; rfl) | (apply yd_lens; rfl) | (apply yd_ex; rfl; rfl) | (apply yd_fld; rfl; rfl) | (apply yd_flda; rfl; exact cutE) | (apply yd_lt; rfl; rfl) | (apply yd_le; rfl; rfl) | (apply yd_gt; rfl; rfl) | (apply yd_ge; rfl; rfl) | (apply yd_eq; rfl; rfl) | (apply yd_ne; rfl; rfl) | (apply yd_add; rfl; rfl; omega; omega) | (apply yd_sub; rfl; rfl; omega; omega) | (apply yd_eqs; rfl; rfl) | (apply yd_nes; rfl; rfl) | (apply yd_cat; rfl; rfl; omega) | (apply yd_notd; rfl) | (apply yd_not; rfl) | (apply yd_neg; rfl; omega; omega) | (apply yd_ix; rfl; rfl; omega; omega) | (apply yd_ixs; rfl; rfl; omega; omega) | (apply yd_quo; rfl; rfl; omega; omega; omega) | (apply yd_rem; rfl; rfl; omega; omega) | (apply yd_mul; rfl; rfl; omega; omega) | (apply yd_cv; rfl; omega; omega) | (apply yd_eqb; rfl; rfl) | (apply yd_neb; rfl; rfl) | (apply yd_fn; exact evsE) | (apply yd_nilf; rfl) | (apply yd_min; rfl; rfl) | (apply yd_max; rfl; rfl) | (apply yd_bd; exact filE)) : Yd P n fr H o ty v := h
section
variable {c : Cx} {fr : Fr} {H : List Pc} {k : List It} {Φ : Gl} {ops : Array Oper} {rest : List Oper} {d : Nat} {o : Op} {ty : TypeId} {pos : String} {aft : Array Edge} {v u : Value} {x y : Operand}
theorem st {t g tt o' j m : Nat} {A cs B l r : List Value} {S : List Pc} {gd : Option (Nat × Bool)} (h : T c fr S Φ) (hx : ev fr x = some (ptr g o' j) := by rfl) (hy : ev fr y = some v := by rfl) (hv : v.cells = l.toArray := by rfl) (hs : (c.P.info? t).map (·.size) = some m := by first | exact AggC.s | exact OneC.s) (hl : l.length = m := by rfl)
    (hr : Rpl H (.row g tt o' A cs B) (.row g tt o' A r B) S := by first | exact .here | exact .there .here | exact .there (.there .here) | exact .there (.there (.there .here)) | exact .there (.there (.there (.there .here))) | exact .there (.there (.there (.there (.there .here)))) | exact .there (.there (.there (.there (.there (.there .here))))) | exact .there (.there (.there (.there (.there (.there (.there .here)))))) | exact .there (.there (.there (.there (.there (.there (.there (.there .here))))))) | exact .there (.there (.there (.there (.there (.there (.there (.there (.there .here)))))))) | exact .there (.there (.there (.there (.there (.there (.there (.there (.there (.there .here))))))))) | exact .there (.there (.there (.there (.there (.there (.there (.there (.there (.there (.there .here)))))))))) | exact .there (.there (.there (.there (.there (.there (.there (.there (.there (.there (.there (.there .here))))))))))) | exact .there (.there (.there (.there (.there (.there (.there (.there (.there (.there (.there (.there (.there .here))))))))))))) (hp : Put cs j l r := by first | exact .one .zero | repeat constructor) (h1 : l.all (·.oneCell') = true := by rfl) : Ef c fr H ⟨none, .store t x y, ty, pos, aft, gd⟩ Φ := ef_store hs hx hy hv hl h1 hp hr h
theorem cf {f : Nat} {vs : List Value} {A M R : List Pc} {σ : Type} {C : σ → Prop} {vv : σ → Value} {N : σ → List Pc} (hf : Fn c.P f vs A M C vv N) (h : ∀ s, C s → T c ((d, vv s) :: fr) (N s ++ R) Φ)
    (hM : Picks H M R := by repeat (first | exact Picks.nil | apply Picks.cons (by first | exact .here | exact .there .here | exact .there (.there .here) | exact .there (.there (.there .here)) | exact .there (.there (.there (.there .here))) | exact .there (.there (.there (.there (.there .here)))) | exact .there (.there (.there (.there (.there (.there .here))))) | exact .there (.there (.there (.there (.there (.there (.there .here)))))) | exact .there (.there (.there (.there (.there (.there (.there (.there .here))))))) | exact .there (.there (.there (.there (.there (.there (.there (.there (.there .here)))))))) | exact .there (.there (.there (.there (.there (.there (.there (.there (.there (.there .here))))))))) | exact .there (.there (.there (.there (.there (.there (.there (.there (.there (.there (.there .here)))))))))) | exact .there (.there (.there (.there (.there (.there (.there (.there (.there (.there (.there (.there .here))))))))))) | exact .there (.there (.there (.there (.there (.there (.there (.there (.there (.there (.there (.there (.there .here))))))))))))))) (hA : Mems A R := by repeat (first | exact Mems.nil | refine Mems.cons (by first | exact .head _ | exact .tail _ (.head _) | exact .tail _ (.tail _ (.head _)) | exact .tail _ (.tail _ (.tail _ (.head _))) | exact .tail _ (.tail _ (.tail _ (.tail _ (.head _)))) | exact .tail _ (.tail _ (.tail _ (.tail _ (.tail _ (.head _))))) | exact .tail _ (.tail _ (.tail _ (.tail _ (.tail _ (.tail _ (.head _)))))) | exact .tail _ (.tail _ (.tail _ (.tail _ (.tail _ (.tail _ (.tail _ (.head _))))))) | exact .tail _ (.tail _ (.tail _ (.tail _ (.tail _ (.tail _ (.tail _ (.tail _ (.head _)))))))) | exact .tail _ (.tail _ (.tail _ (.tail _ (.tail _ (.tail _ (.tail _ (.tail _ (.tail _ (.head _))))))))) | exact .tail _ (.tail _ (.tail _ (.tail _ (.tail _ (.tail _ (.tail _ (.tail _ (.tail _ (.tail _ (.head _)))))))))) | exact .tail _ (.tail _ (.tail _ (.tail _ (.tail _ (.tail _ (.tail _ (.tail _ (.tail _ (.tail _ (.tail _ (.head _))))))))))) | exact .tail _ (.tail _ (.tail _ (.tail _ (.tail _ (.tail _ (.tail _ (.tail _ (.tail _ (.tail _ (.tail _ (.tail _ (.head _)))))))))))) | exact .tail _ (.tail _ (.tail _ (.tail _ (.tail _ (.tail _ (.tail _ (.tail _ (.tail _ (.tail _ (.tail _ (.tail _ (.tail _ (.head _)))))))))))))) ?_)) (hmM : M.all (·.mu) = true := by rfl) (hmA : A.all (fun p => !p.mu) = true := by rfl) : Cl c fr H d f vs Φ := cf_ hf h hM hA hmM hmA
/-- lists put together -/
inductive AppL : List Pc → List Pc → List Pc → Prop
  | nil {R} : AppL [] R R
  | cons {p N R X} : AppL N R X → AppL (p :: N) R (p :: X)
theorem AppL.eq {N R X} (h : AppL N R X) : N ++ R = X := by
  induction h with
  | nil => rfl
  | cons _ ih => simp [ih]
theorem t_app {N R X : List Pc} (h : T c fr X Φ) (hX : AppL N R X := by repeat constructor) : T c fr (N ++ R) Φ := by rw [hX.eq]; exact h
theorem St.ro {G D w0 w} {p q : Pc} (s : St G D w0 H w) (hq : q ∈ H) (hm : q.mu = false) (hpm : p.mu = false) (hp : p.P w) (hF : ∀ b ∈ p.F, b ∈ q.F) : St G D w0 (p :: H) w :=
  s.add (N := [p]) (Below.refl _ _) (by intro x hx; simp at hx; subst hx; exact hp) ⟨by simp, trivial⟩ (by intro x hx b hb; simp at hx; subst hx; exact .inr ⟨hpm, q, hq, hm, hF b hb⟩)
theorem St.conv {G D w0 w} {p q : Pc} {S : List Pc} (s : St G D w0 (p :: S) w) (hm : p.mu = true) (hq : q.P w) (hF : ∀ b ∈ q.F, b ∈ p.F) : St G D w0 (q :: S) w :=
  St.turn (M := [p]) (N := [q]) s (Keep.refl _ w) (by intro x hx; simp at hx; subst hx; exact hq) ⟨by simp, trivial⟩ (by intro x hx b hb; simp at hx; subst hx; exact .inr (.inl ⟨p, by simp, hm, hF b hb⟩))
/-! elements, parts of slices that read -/
/-- what holds of element i: its cells lie there -/
theorem sl_at {α : Type} {E : Elem α} {w : World} {a : Option Addr} {n cp : Nat} {xs : List α} {F : List Nat} (h : (Pc.sl E (.slice a n cp) xs F).P w) (i : Nat) (hi : i < xs.length) :
    ∃ b o cs G, a = some ⟨b, o, none⟩ ∧ E.rep w cs xs[i] G ∧ (∀ x ∈ G, x ∈ F) ∧ b ∈ F ∧ cs ≠ [] ∧ w.rangeAt b (o + i * E.sz) cs := by
  obtain ⟨hz, a', cap, hv, hl, h | ⟨b, o, F', rfl, hne, rfl, hc⟩⟩ := h
  · rw [h.1] at hi; simp at hi
  · simp only [Value.slice.injEq] at hv
    obtain ⟨rfl, -, -⟩ := hv
    obtain ⟨cs, F1, h1, h2, h3⟩ := hc.get i hi
    have hl := E.len h1
    refine ⟨b, o, cs, F1, rfl, h1, fun x hx => by simp [h3 x hx], by simp, fun e => by subst e; simp at hl; omega, fun j u hu => ?_⟩
    have hj : j < E.sz := by have := (List.getElem?_eq_some_iff.1 hu).1; omega
    rw [h2 j hj]; exact hu
theorem at_str {a : Option Addr} {n cp : Nat} {xs : List ByteArray} {F : List Nat} (i : Nat) (h : ∀ (hi : i < xs.length) b o, a = some ⟨b, o, none⟩ → xs[i].size ≤ maxLen → T c fr (.cel b (o + i * 1) [.string xs[i]] :: H) Φ) (hm : .sl EStr (.slice a n cp) xs F ∈ H := by first | exact .head _ | exact .tail _ (.head _) | exact .tail _ (.tail _ (.head _)) | exact .tail _ (.tail _ (.tail _ (.head _))) | exact .tail _ (.tail _ (.tail _ (.tail _ (.head _)))) | exact .tail _ (.tail _ (.tail _ (.tail _ (.tail _ (.head _))))) | exact .tail _ (.tail _ (.tail _ (.tail _ (.tail _ (.tail _ (.head _)))))) | exact .tail _ (.tail _ (.tail _ (.tail _ (.tail _ (.tail _ (.tail _ (.head _))))))) | exact .tail _ (.tail _ (.tail _ (.tail _ (.tail _ (.tail _ (.tail _ (.tail _ (.head _)))))))) | exact .tail _ (.tail _ (.tail _ (.tail _ (.tail _ (.tail _ (.tail _ (.tail _ (.tail _ (.head _))))))))) | exact .tail _ (.tail _ (.tail _ (.tail _ (.tail _ (.tail _ (.tail _ (.tail _ (.tail _ (.tail _ (.head _)))))))))) | exact .tail _ (.tail _ (.tail _ (.tail _ (.tail _ (.tail _ (.tail _ (.tail _ (.tail _ (.tail _ (.tail _ (.head _))))))))))) | exact .tail _ (.tail _ (.tail _ (.tail _ (.tail _ (.tail _ (.tail _ (.tail _ (.tail _ (.tail _ (.tail _ (.tail _ (.head _)))))))))))) | exact .tail _ (.tail _ (.tail _ (.tail _ (.tail _ (.tail _ (.tail _ (.tail _ (.tail _ (.tail _ (.tail _ (.tail _ (.tail _ (.head _)))))))))))))) (hi : i < xs.length := by omega) : T c fr H Φ := .mk fun ac w s g => by
  obtain ⟨b, o, cs, G, ha, ⟨rfl, hs, rfl⟩, -, hb, hne, hr⟩ := sl_at (s.get hm) i hi
  exact (h hi b o ha hs).h ac w (s.ro hm rfl rfl ⟨hne, hr⟩ (by intro x hx; simp [Pc.F] at hx; subst hx; exact hb)) g
/-- an owned slice may be read aS one -/
theorem t_read {α : Type} {E : Elem α} {t : TypeId} {v : Value} {xs : List α} {F : List Nat} {S : List Pc} (h : ∀ F', T c fr (.sl E v xs F' :: S) Φ) (hp : Pick H (.ow E t v xs F) S := by first | exact .here | exact .there .here | exact .there (.there .here) | exact .there (.there (.there .here)) | exact .there (.there (.there (.there .here))) | exact .there (.there (.there (.there (.there .here)))) | exact .there (.there (.there (.there (.there (.there .here))))) | exact .there (.there (.there (.there (.there (.there (.there .here)))))) | exact .there (.there (.there (.there (.there (.there (.there (.there .here))))))) | exact .there (.there (.there (.there (.there (.there (.there (.there (.there .here)))))))) | exact .there (.there (.there (.there (.there (.there (.there (.there (.there (.there .here))))))))) | exact .there (.there (.there (.there (.there (.there (.there (.there (.there (.there (.there .here)))))))))) | exact .there (.there (.there (.there (.there (.there (.there (.there (.there (.there (.there (.there .here))))))))))) | exact .there (.there (.there (.there (.there (.there (.there (.there (.there (.there (.there (.there (.there .here))))))))))))) (hz : 0 < E.sz := by decide) : T c fr H Φ := .mk fun a w s g => by
  have s1 := s.pick hp
  obtain ⟨-, ho⟩ := s1.on (.ow E t v xs F) (by simp)
  obtain ⟨F', hF, hs⟩ := ho.read
  exact (h F').h a w (s1.conv rfl ⟨hz, hs⟩ hF) g
/-- the empty slice is owned -/
theorem t_nilow {α : Type} (E : Elem α) (t : TypeId) (h : T c fr (.ow E t (.slice none 0 0) [] [] :: H) Φ) : T c fr H Φ := .mk fun a w s g =>
  h.h a w (s.add (N := [.ow E t (.slice none 0 0) [] []]) (Below.refl _ _) (by intro p hp; simp at hp; subst hp; exact ⟨by simp, .inl ⟨rfl, rfl, rfl⟩⟩) ⟨by simp, trivial⟩ (by intro p hp b hb; simp at hp; subst hp; simp [Pc.F] at hb)) g
/-- an empty slice is built -/
theorem bs0 {t e m : Nat} {gd : Option (Nat × Bool)} [hS : SlC c.P t e m] (h : ∀ g, T c ((d, .slice (some ⟨g, 0, none⟩) 0 0) :: fr) (.row g e 0 [] [] [] :: H) Φ) (hd : Nat.blt d c.n = true := by rfl) : Ef c fr H ⟨some d, .buildSlice t 0 #[], ty, pos, aft, gd⟩ Φ := ef_of fun Q a w s g => by
  have e1 : (execOp a.eval ⟨some d, .buildSlice t 0 #[], ty, pos, aft, gd⟩).run c.P w = .ok (.value (.slice (some ⟨w.heap.size, 0, none⟩) 0 0)) (w.alloc (.cells #[] e)) := by
    simp [execOp, Instr.buildSlice, run_underlying hS.u, size_of hS.s, Instr.fill, newRow, Array.range_zero']
  rw [e1]
  exact (h _).h _ _ (s.new e []) (g.put hd)
inductive AppV : List Value → List Value → List Value → Prop
  | nil {r} : AppV [] r r
  | cons {u l r q} : AppV l r q → AppV (u :: l) r (u :: q)
theorem AppV.eq {l r q} (h : AppV l r q) : l ++ r = q := by
  induction h with
  | nil => rfl
  | cons _ ih => simp [ih]
inductive Rpt (zs : List Value) : Nat → List Value → Prop
  | zero : Rpt zs 0 []
  | succ {n r q} : Rpt zs n r → AppV zs r q → Rpt zs (n + 1) q
theorem Rpt.eq {zs : List Value} {n q} (h : Rpt zs n q) : q = (List.replicate n zs).flatten := by
  induction h with
  | zero => rfl
  | succ _ h2 ih => rw [← h2.eq, ih, List.replicate_succ, List.flatten_cons]
/-- a slice's literal -/
theorem bs {t e m b len : Nat} {z : Value} {zs cs q : List Value} {ps : List (Nat × Operand)} {gd : Option (Nat × Bool)} [hS : SlC c.P t e m] [hE : ElT c.P e z m b] [hZ : ZC c.P e zs] (h : ∀ g, T c ((d, .slice (some ⟨g, 0, none⟩) len len) :: fr) (.row g e 0 [] q [] :: H) Φ)
    (hc : Rpt zs len cs := by repeat constructor) (hf : Fil (fun i => some (i * m, m)) fr cs ps q := by repeat (first | exact Fil.nil | apply Fil.cons (by rfl) (by rfl) (by rfl) (by repeat constructor))) (hl : Nat.ble (len * m) 1000 = true := by rfl) (hm : Nat.blt 0 m = true := by rfl) (hlen : Nat.blt 0 len = true := by rfl) (hd : Nat.blt d c.n = true := by rfl) :
    Ef c fr H ⟨some d, .buildSlice t len ps.toArray, ty, pos, aft, gd⟩ Φ := ef_of fun Q a w s g => by
  have hm0 : m ≠ 0 := by have : 0 < m := by simpa using hm
                         omega
  have hlen0 : len ≠ 0 := by have : 0 < len := by simpa using hlen
                             omega
  have hl2 : len * m ≤ 1000 := by simpa using hl
  obtain ⟨i, hi, hz⟩ := Option.map_eq_some_iff.1 hE.i
  simp only [Prod.mk.injEq] at hz
  obtain ⟨hz, hs, -⟩ := hz
  obtain ⟨z', hz', hzc⟩ := hZ.z
  obtain rfl : z' = z := by rw [hi] at hz'; simp [hz] at hz'; exact hz'.symm
  have hzl : zs.length = m := by have := hE.s; rw [hzc] at this; simpa using this
  have e2 : ((Array.range (len * m)).map (zs.toArray[· % zs.toArray.size]!)) = cs.toArray := by
    have := madeCells_flat zs.toArray len
    rw [hc.eq]
    apply Array.ext'
    rw [show zs.toArray.size = m from by simp [hzl]] at this
    simpa [madeCells] using this
  have e1 : (execOp a.eval ⟨some d, .buildSlice t len ps.toArray, ty, pos, aft, gd⟩).run c.P w = .ok (.value (.slice (some ⟨w.heap.size, 0, none⟩) len len)) (w.alloc (.cells q.toArray e)) := by
    have h3 := hf.run g
    have hne : ¬ (len * m = 0) := Nat.mul_ne_zero hlen0 hm0
    have hns : ¬ (len * m > 2 ^ 24) := by omega
    have hzv : (zeroValue e).run c.P w = .ok z' w := by simp [zeroValue, typeInfo, hi, hz]
    simp only [execOp, Instr.buildSlice, Sem.run_bind, run_underlying hS.u, size_of hS.s, Result.andThen_ok, if_neg hns, if_neg hne, hzv, hzc, Sem.run_pure, Sem.run_ite, e2]
    simp only [List.map_toArray, h3, newRow, Sem.run_bind, run_newObj_alloc, Result.andThen_ok, Sem.run_pure]
  rw [e1]
  exact (h _).h _ _ (s.new e q) (g.put hd)
theorem o_bs0 {t e m : Nat} [SlC c.P t e m] (hd : Nat.blt d c.n = true) (h : ∀ g, T c ((d, .slice (some ⟨g, 0, none⟩) 0 0) :: fr) (.row g e 0 [] [] [] :: H) Φ) : On c fr H (some d) (.buildSlice t 0 #[]) ty Φ := ⟨fun _ _ _ => bs0 h hd⟩
theorem rptE {zs : List Value} {n : Nat} {q : List Value} (h : Rpt zs n q := by repeat constructor) : Rpt zs n q := h
theorem o_bs {t e m b len : Nat} {z : Value} {zs cs q : List Value} {ps : List (Nat × Operand)} [SlC c.P t e m] [ElT c.P e z m b] [ZC c.P e zs] (hd : Nat.blt d c.n = true) (hlen : Nat.blt 0 len = true) (hm : Nat.blt 0 m = true) (hl : Nat.ble (len * m) 1000 = true) (hc : Rpt zs len cs) (hf : Fil (fun i => some (i * m, m)) fr cs ps q) (h : ∀ g, T c ((d, .slice (some ⟨g, 0, none⟩) len len) :: fr) (.row g e 0 [] q [] :: H) Φ) :
    On c fr H (some d) (.buildSlice t len ps.toArray) ty Φ := ⟨fun _ _ _ => bs h hc hf hl hm hlen hd⟩
end
end Go.Proofs.YtidephmobajikaaDoor
/- Appending, parts of slices, regions that draw their order, a function's beginning and end: as walks use them. Plain: no program in sight. -/
namespace Go.Proofs.YtidephmobajikaaDoor
open Go.RowKit
section
variable {c : Cx} {fr : Fr} {H : List Pc} {k : List It} {Φ : Gl} {ops : Array Oper} {rest : List Oper} {d : Nat} {o : Op} {ty : TypeId} {pos : String} {aft : Array Edge} {v u : Value} {x y : Operand}
theorem ap {α : Type} {E : Elem α} {t e m b : Nat} {z : Value} [hS : SlC c.P t e m] [hE : ElT c.P e z m b] {xs ys : List α} {F Fy : List Nat} {ao : Option Addr} {n cp : Nat} {gd : Option (Nat × Bool)} {R S : List Pc} (one : One E) (hz : 0 < E.sz) (hm : E.sz = m)
    (hp : Pick H (.ow E e v xs F) R) (hx : ev fr x = some v) (hy : ev fr y = some (.slice ao n cp)) (hn : n = ys.length)
    (hsrc : ∀ w, St c.G c.D c.w0 (.ow E e v xs F :: R) w → ∃ news, Flat E w news ys Fy ∧ ((ao = none ∧ cp = 0 ∧ ys = []) ∨ ∃ ad, ao = some ad ∧ ∀ j u, news[j]? = some u → w.cell? (ad.add j) = some u) ∧ (∀ b ∈ Fy, b ∉ F) ∧ Fy.Nodup)
    (hFy : ∀ w v' F', St c.G c.D c.w0 (.ow E e v xs F :: R) w → (∀ b ∈ F', b ∈ F ∨ b ∈ Fy ∨ b = w.heap.size) → ∀ w', Keep F w w' → (Pc.ow E e v' (xs ++ ys) F').P w' → St c.G c.D c.w0 (.ow E e v' (xs ++ ys) F' :: S) w')
    (h63 : xs.length + ys.length ≤ maxLen) (hby : (xs.length + ys.length) * b ≤ 140737488355328)
    (h : ∀ a' c' F', T c ((d, .slice a' (xs ++ ys).length c') :: fr) (.ow E e (.slice a' (xs ++ ys).length c') (xs ++ ys) F' :: S) Φ) (hd : Nat.blt d c.n = true) :
    Ef c fr H ⟨some d, .call { callee := .builtin .append, args := #[x, y], argTypes := #[t, t] }, ty, pos, aft, gd⟩ Φ := .mk fun Q a w s g => by
  have s1 := s.pick hp
  obtain ⟨hnd, how⟩ := s1.on (.ow E e v xs F) (by simp)
  obtain ⟨news, hfl, hsr, hdis, hny⟩ := hsrc w s1
  subst hn
  refine wp_apd (P := c.P) one hz x y t rfl e z b hS.u (by rw [hE.i, hm]) (by rw [hE.s, hm]) v xs F (g.ev hx) how (Hd.of hnd) ao ys cp (g.ev hy) news Fy hfl hsr (fun b hb e => hdis b hb (how.own_mem b e)) h63 hby fun v' w' F' hA => ?_
  obtain ⟨a', c', rfl⟩ := hA.val
  rw [← List.length_append] at hA ⊢
  have hw := hA.ow
  exact (h a' c' F').h _ _ (hFy w _ F' s1 hA.mem w' hA.keep ⟨hA.nodup hnd hny hdis, hw⟩) (g.put hd)
/-- what is appended lies in a row of our own -/
theorem ap1 {α : Type} {E : Elem α} {t e m b : Nat} {z : Value} [hS : SlC c.P t e m] [hE : ElT c.P e z m b] {xs ys : List α} {F : List Nat} {g n cp tt : Nat} {cs : List Value} {R S : List Pc}
    (hfl : ∀ w, Flat E w cs ys []) (one : One E) (h : ∀ a' c' F', T c ((d, .slice a' (xs ++ ys).length c') :: fr) (.ow E e (.slice a' (xs ++ ys).length c') (xs ++ ys) F' :: S) Φ)
    (hx : ev fr x = some v := by rfl) (hy : ev fr y = some (.slice (some ⟨g, 0, none⟩) n cp) := by rfl) (hp : Pick H (.ow E e v xs F) R := by first | exact .here | exact .there .here | exact .there (.there .here) | exact .there (.there (.there .here)) | exact .there (.there (.there (.there .here))) | exact .there (.there (.there (.there (.there .here)))) | exact .there (.there (.there (.there (.there (.there .here))))) | exact .there (.there (.there (.there (.there (.there (.there .here)))))) | exact .there (.there (.there (.there (.there (.there (.there (.there .here))))))) | exact .there (.there (.there (.there (.there (.there (.there (.there (.there .here)))))))) | exact .there (.there (.there (.there (.there (.there (.there (.there (.there (.there .here))))))))) | exact .there (.there (.there (.there (.there (.there (.there (.there (.there (.there (.there .here)))))))))) | exact .there (.there (.there (.there (.there (.there (.there (.there (.there (.there (.there (.there .here))))))))))) | exact .there (.there (.there (.there (.there (.there (.there (.there (.there (.there (.there (.there (.there .here))))))))))))) (hp2 : Pick R (.row g tt 0 [] cs []) S := by first | exact .here | exact .there .here | exact .there (.there .here) | exact .there (.there (.there .here)) | exact .there (.there (.there (.there .here))) | exact .there (.there (.there (.there (.there .here)))) | exact .there (.there (.there (.there (.there (.there .here))))) | exact .there (.there (.there (.there (.there (.there (.there .here)))))) | exact .there (.there (.there (.there (.there (.there (.there (.there .here))))))) | exact .there (.there (.there (.there (.there (.there (.there (.there (.there .here)))))))) | exact .there (.there (.there (.there (.there (.there (.there (.there (.there (.there .here))))))))) | exact .there (.there (.there (.there (.there (.there (.there (.there (.there (.there (.there .here)))))))))) | exact .there (.there (.there (.there (.there (.there (.there (.there (.there (.there (.there (.there .here))))))))))) | exact .there (.there (.there (.there (.there (.there (.there (.there (.there (.there (.there (.there (.there .here))))))))))))) (hn : n = ys.length := by rfl) (hz : 0 < E.sz := by decide) (hm : E.sz = m := by rfl)
    (h63 : xs.length + ys.length ≤ 9223372036854775807 := by simp only [List.length_cons, List.length_nil]; omega) (hby : (xs.length + ys.length) * b ≤ 140737488355328 := by simp only [List.length_cons, List.length_nil]; omega) (hd : Nat.blt d c.n = true := by rfl) :
    On c fr H (some d) (.call { callee := .builtin .append, args := #[x, y], argTypes := #[t, t] }) ty Φ :=
  ⟨fun _ _ _ => ap one hz hm hp hx hy hn (Fy := []) (fun w s => ⟨cs, hfl w, .inr ⟨_, rfl, fun j u hu => by
      have hr := (s.on (.row g tt 0 [] cs []) (by simp [hp2.mem])).2
      have := hr.cell j
      simp only [List.nil_append, List.append_nil] at this
      rw [hu] at this
      unfold Addr.add
      split
      · rename_i e; subst e; exact this
      · simpa using this⟩, by simp, by simp⟩)
    (fun w v' F' s hF w' hk hv => by
      have s2 : St c.G c.D c.w0 (.ow E e v xs F :: S) w := ⟨s.keep, fun q hq => s.on q (by rcases List.mem_cons.1 hq with rfl | hq; simp; simp [hp2.sub q hq]), ⟨fun q hq => s.sep.1 q (hp2.sub q hq), (hp2.sep s.sep.2).2⟩, fun q hq => s.mine q (by rcases List.mem_cons.1 hq with rfl | hq; simp; simp [hp2.sub q hq])⟩
      exact St.turn (M := [.ow E e v xs F]) (N := [.ow E e v' (xs ++ ys) F']) s2 (by simpa [List.filter, Pc.mu, fp, Pc.F] using hk) (by intro q hq; simp at hq; subst hq; exact hv) ⟨by simp, trivial⟩ (by
        intro q hq b hb
        simp at hq; subst hq
        rcases hF b hb with h | h | h
        · exact .inr (.inl ⟨.ow E e v xs F, by simp, rfl, h⟩)
        · simp at h
        · exact .inl (by omega)))
    (by unfold maxLen; exact h63) hby h hd⟩
/-! parts of slices that read -/
/-! one element of an owned slice, of elements without blocks of their own -/
/-! calls by the elder contracts -/
theorem cv {α : Type} {E : Elem α} {z : α} {f : Nat} {vs : List Value} (hc : ∀ w, St c.G c.D c.w0 H w → Calls c.P f vs.toArray w (RetV E z w)) (h : ∀ v F, T c ((d, v) :: fr) (.own E v z F :: H) Φ) : Cl c fr H d f vs Φ :=
  cl_of hc (fun w e w' s hR => by
    obtain ⟨v, F, he, ho, hn, hF, hB⟩ := hR
    exact ⟨_, he, fun ac g => (h v F).h ac w' (s.add (N := [.own E v z F]) hB (by intro q hq; simp at hq; subst hq; exact ⟨hn, ho⟩) ⟨by simp, trivial⟩ (by intro q hq b hb; simp at hq; subst hq; exact .inl (hF b hb))) g⟩)
/-! regions that draw their order -/
inductive Nth : List Pc → Nat → Pc → Prop
  | zero {p R} : Nth (p :: R) 0 p
  | succ {x p R i} : Nth R i p → Nth (x :: R) (i + 1) p
inductive Sel (H : List Pc) : List Nat → List Pc → Prop
  | nil : Sel H [] []
  | cons {i is p R} : Nth H i p → Sel H is R → Sel H (i :: is) (p :: R)
variable {H0 : List Pc} {X : List Nat} {f : Nat} {listed : Array Bool}
theorem d_start {id : Nat} {l : List Oper} (is X : List Nat) (h : T c fr H (.dx k H0 X l.toArray l.length (Array.replicate l.length false))) (_hsel : Sel H is H0 := by repeat constructor) (hm : c.P.follows .mixedOrders = true := by kernel_rfl) : T c fr H (.code k (Code.region id l.toArray true)) := .mk fun a w s g => by
  refine AnyX.start (S := Hol H0) (X := fun i => X.contains i) hm ?_
  have := h.h a w.drew (s.below (belowDrewN (Below.refl _ _) 1)) g
  simpa [Gl.sem] using this
/-- a panic leaves the slots alone -/
def PanOk (c : Cx) : Prop := ∀ ch d v a w, c.R (.panic ch) (Act.put a d v) w → c.R (.panic ch) a w
theorem panOk {P : Program} {D G : List Nat} {w0 : World} {n : Nat} {fn : Func} {R : Ending → World → Prop} : PanOk ⟨P, G, D, w0, n, bodyPost P fn R⟩ := fun ch d v a w h => by
  cases d <;> exact h
theorem dt (i : Nat) (h : T c ((d, v) :: fr) H (.dx k H0 X ops f (listed.setIfInBounds i true))) (ho : ops[i]? = some ⟨some d, o, ty, pos, aft, none⟩ := by rw [List.getElem?_toArray]; rfl) (hy : Yd c.P c.n fr H0 o ty v := by exact ydE) (hs : Mems H0 H := by repeat (first | exact Mems.nil | refine Mems.cons (by first | exact .head _ | exact .tail _ (.head _) | exact .tail _ (.tail _ (.head _)) | exact .tail _ (.tail _ (.tail _ (.head _))) | exact .tail _ (.tail _ (.tail _ (.tail _ (.head _)))) | exact .tail _ (.tail _ (.tail _ (.tail _ (.tail _ (.head _))))) | exact .tail _ (.tail _ (.tail _ (.tail _ (.tail _ (.tail _ (.head _)))))) | exact .tail _ (.tail _ (.tail _ (.tail _ (.tail _ (.tail _ (.tail _ (.head _))))))) | exact .tail _ (.tail _ (.tail _ (.tail _ (.tail _ (.tail _ (.tail _ (.tail _ (.head _)))))))) | exact .tail _ (.tail _ (.tail _ (.tail _ (.tail _ (.tail _ (.tail _ (.tail _ (.tail _ (.head _))))))))) | exact .tail _ (.tail _ (.tail _ (.tail _ (.tail _ (.tail _ (.tail _ (.tail _ (.tail _ (.tail _ (.head _)))))))))) | exact .tail _ (.tail _ (.tail _ (.tail _ (.tail _ (.tail _ (.tail _ (.tail _ (.tail _ (.tail _ (.tail _ (.head _))))))))))) | exact .tail _ (.tail _ (.tail _ (.tail _ (.tail _ (.tail _ (.tail _ (.tail _ (.tail _ (.tail _ (.tail _ (.tail _ (.head _)))))))))))) | exact .tail _ (.tail _ (.tail _ (.tail _ (.tail _ (.tail _ (.tail _ (.tail _ (.tail _ (.tail _ (.tail _ (.tail _ (.tail _ (.head _)))))))))))))) ?_))
    (h1 : Region.noSelect ops = true := by kernel_rfl) (h2 : Region.free .any ops listed i = true := by kernel_rfl) (h3 : (Region.ready .any ops listed).contains i = true := by kernel_rfl) (h4 : waitsAll .any ops (fun i => X.contains i) i = true := by kernel_rfl) (h5 : closedB .any ops listed = true := by kernel_rfl) (hR : PanOk c := by exact panOk) (hd : Nat.blt d c.n = true := by rfl) :
    T c fr H (.dx k H0 X ops (f + 1) listed) := .mk fun a w s g =>
  AnyX.take (v := v) ho h1 h2 h3 h4 h5 (fun ch a w hp => by rw [run_panic] at hp ⊢; exact hR _ _ _ _ _ hp) (.inl ⟨rfl, fun w' hw' => hy.h a w' _ _ _ _ g hw'⟩) (fun p hp => s.on p (hs.all p hp)) (h.h _ _ s (g.put hd))
/-- an operation with a guard that holds, taken first -/
theorem dtg (i : Nat) {j t : Nat} {b : Bool} (h : T c ((d, v) :: fr) H (.dx k H0 X ops f (listed.setIfInBounds i true))) (ho : ops[i]? = some ⟨some d, o, ty, pos, aft, some (j, b)⟩ := by rw [List.getElem?_toArray]; rfl) (ht : (ops[j]?).bind (·.dst) = some t := by rfl) (hl : look fr t = some (.bool b) := by rfl) (hy : Yd c.P c.n fr H0 o ty v := by exact ydE) (hs : Mems H0 H := by repeat (first | exact Mems.nil | refine Mems.cons (by first | exact .head _ | exact .tail _ (.head _) | exact .tail _ (.tail _ (.head _)) | exact .tail _ (.tail _ (.tail _ (.head _))) | exact .tail _ (.tail _ (.tail _ (.tail _ (.head _)))) | exact .tail _ (.tail _ (.tail _ (.tail _ (.tail _ (.head _))))) | exact .tail _ (.tail _ (.tail _ (.tail _ (.tail _ (.tail _ (.head _)))))) | exact .tail _ (.tail _ (.tail _ (.tail _ (.tail _ (.tail _ (.tail _ (.head _))))))) | exact .tail _ (.tail _ (.tail _ (.tail _ (.tail _ (.tail _ (.tail _ (.tail _ (.head _)))))))) | exact .tail _ (.tail _ (.tail _ (.tail _ (.tail _ (.tail _ (.tail _ (.tail _ (.tail _ (.head _))))))))) | exact .tail _ (.tail _ (.tail _ (.tail _ (.tail _ (.tail _ (.tail _ (.tail _ (.tail _ (.tail _ (.head _)))))))))) | exact .tail _ (.tail _ (.tail _ (.tail _ (.tail _ (.tail _ (.tail _ (.tail _ (.tail _ (.tail _ (.tail _ (.head _))))))))))) | exact .tail _ (.tail _ (.tail _ (.tail _ (.tail _ (.tail _ (.tail _ (.tail _ (.tail _ (.tail _ (.tail _ (.tail _ (.head _)))))))))))) | exact .tail _ (.tail _ (.tail _ (.tail _ (.tail _ (.tail _ (.tail _ (.tail _ (.tail _ (.tail _ (.tail _ (.tail _ (.tail _ (.head _)))))))))))))) ?_))
    (h1 : Region.noSelect ops = true := by kernel_rfl) (h2 : Region.free .any ops listed i = true := by kernel_rfl) (h3 : (Region.ready .any ops listed).contains i = true := by kernel_rfl) (h4 : waitsAll .any ops (fun i => X.contains i) i = true := by kernel_rfl) (h5 : closedB .any ops listed = true := by kernel_rfl) (hR : PanOk c := by exact panOk) (hd : Nat.blt d c.n = true := by rfl) :
    T c fr H (.dx k H0 X ops (f + 1) listed) := .mk fun a w s g =>
  AnyX.take (v := v) ho h1 h2 h3 h4 h5 (fun ch a w hp => by rw [run_panic] at hp ⊢; exact hR _ _ _ _ _ hp) (.inl ⟨by rw [wanted_eq (c := c) ht hl g]; simp, fun w' hw' => hy.h a w' _ _ _ _ g hw'⟩) (fun p hp => s.on p (hs.all p hp)) (h.h _ _ s (g.put hd))
/-- an operation whose guard says no -/
theorem ds (i : Nat) {j t : Nat} {b b' : Bool} (h : T c ((d, undef) :: fr) H (.dx k H0 X ops f (listed.setIfInBounds i true))) (ho : ops[i]? = some ⟨some d, o, ty, pos, aft, some (j, b)⟩ := by rw [List.getElem?_toArray]; rfl) (ht : (ops[j]?).bind (·.dst) = some t := by rfl) (hl : look fr t = some (.bool b') := by rfl) (hb : (b' == b) = false := by rfl) (hs : Mems H0 H := by repeat (first | exact Mems.nil | refine Mems.cons (by first | exact .head _ | exact .tail _ (.head _) | exact .tail _ (.tail _ (.head _)) | exact .tail _ (.tail _ (.tail _ (.head _))) | exact .tail _ (.tail _ (.tail _ (.tail _ (.head _)))) | exact .tail _ (.tail _ (.tail _ (.tail _ (.tail _ (.head _))))) | exact .tail _ (.tail _ (.tail _ (.tail _ (.tail _ (.tail _ (.head _)))))) | exact .tail _ (.tail _ (.tail _ (.tail _ (.tail _ (.tail _ (.tail _ (.head _))))))) | exact .tail _ (.tail _ (.tail _ (.tail _ (.tail _ (.tail _ (.tail _ (.tail _ (.head _)))))))) | exact .tail _ (.tail _ (.tail _ (.tail _ (.tail _ (.tail _ (.tail _ (.tail _ (.tail _ (.head _))))))))) | exact .tail _ (.tail _ (.tail _ (.tail _ (.tail _ (.tail _ (.tail _ (.tail _ (.tail _ (.tail _ (.head _)))))))))) | exact .tail _ (.tail _ (.tail _ (.tail _ (.tail _ (.tail _ (.tail _ (.tail _ (.tail _ (.tail _ (.tail _ (.head _))))))))))) | exact .tail _ (.tail _ (.tail _ (.tail _ (.tail _ (.tail _ (.tail _ (.tail _ (.tail _ (.tail _ (.tail _ (.tail _ (.head _)))))))))))) | exact .tail _ (.tail _ (.tail _ (.tail _ (.tail _ (.tail _ (.tail _ (.tail _ (.tail _ (.tail _ (.tail _ (.tail _ (.tail _ (.head _)))))))))))))) ?_))
    (h1 : Region.noSelect ops = true := by kernel_rfl) (h2 : Region.free .any ops listed i = true := by kernel_rfl) (h3 : (Region.ready .any ops listed).contains i = true := by kernel_rfl) (h4 : waitsAll .any ops (fun i => X.contains i) i = true := by kernel_rfl) (h5 : closedB .any ops listed = true := by kernel_rfl) (hR : PanOk c := by exact panOk) (hd : Nat.blt d c.n = true := by rfl) :
    T c fr H (.dx k H0 X ops (f + 1) listed) := .mk fun a w s g =>
  AnyX.take (v := undef) ho h1 h2 h3 h4 h5 (fun ch a w hp => by rw [run_panic] at hp ⊢; exact hR _ _ _ _ _ hp) (.inr ⟨by rw [wanted_eq (c := c) ht hl g]; exact hb, rfl⟩) (fun p hp => s.on p (hs.all p hp)) (h.h _ _ s (g.put hd))
/-- the state holds once more behind an operation -/
theorem dk {i : Nat} (h : T c fr H (.dx k H0 X ops f listed)) (hs : Mems H0 H := by repeat (first | exact Mems.nil | refine Mems.cons (by first | exact .head _ | exact .tail _ (.head _) | exact .tail _ (.tail _ (.head _)) | exact .tail _ (.tail _ (.tail _ (.head _))) | exact .tail _ (.tail _ (.tail _ (.tail _ (.head _)))) | exact .tail _ (.tail _ (.tail _ (.tail _ (.tail _ (.head _))))) | exact .tail _ (.tail _ (.tail _ (.tail _ (.tail _ (.tail _ (.head _)))))) | exact .tail _ (.tail _ (.tail _ (.tail _ (.tail _ (.tail _ (.tail _ (.head _))))))) | exact .tail _ (.tail _ (.tail _ (.tail _ (.tail _ (.tail _ (.tail _ (.tail _ (.head _)))))))) | exact .tail _ (.tail _ (.tail _ (.tail _ (.tail _ (.tail _ (.tail _ (.tail _ (.tail _ (.head _))))))))) | exact .tail _ (.tail _ (.tail _ (.tail _ (.tail _ (.tail _ (.tail _ (.tail _ (.tail _ (.tail _ (.head _)))))))))) | exact .tail _ (.tail _ (.tail _ (.tail _ (.tail _ (.tail _ (.tail _ (.tail _ (.tail _ (.tail _ (.tail _ (.head _))))))))))) | exact .tail _ (.tail _ (.tail _ (.tail _ (.tail _ (.tail _ (.tail _ (.tail _ (.tail _ (.tail _ (.tail _ (.tail _ (.head _)))))))))))) | exact .tail _ (.tail _ (.tail _ (.tail _ (.tail _ (.tail _ (.tail _ (.tail _ (.tail _ (.tail _ (.tail _ (.tail _ (.tail _ (.head _)))))))))))))) ?_)) : T c fr H (.dk i k H0 X ops f listed) := .mk fun a w s g => ⟨fun _ p hp => s.on p (hs.all p hp), h.h a w s g⟩
theorem dkx {i : Nat} (h : T c fr H (.dx k H0 X ops f listed)) (hi : X.contains i = true := by rfl) : T c fr H (.dk i k H0 X ops f listed) := .mk fun a w s g => ⟨fun h0 => (by rw [hi] at h0; cases h0), h.h a w s g⟩
/-- the only one that may come up -/
theorem d1 (i : Nat) {o : Oper} (h : Ef c fr H o (.dk i k H0 X ops f (listed.setIfInBounds i true))) (hr : Region.ready .any ops listed = [i] := by kernel_rfl) (ho : ops[i]? = some o := by rw [List.getElem?_toArray]; rfl) (hg : o.guard = none := by rfl) : T c fr H (.dx k H0 X ops (f + 1) listed) := .mk fun a w s g =>
  AnyX.only hr ho fun K hK => by
    rw [if_pos (by simp [Region.wanted, hg])]
    exact Oper.wp_mono (fun a' w' h' => hK a' w' h'.1 h'.2) (h.h _ a w s g)
theorem d1g (i : Nat) {od : Option Tmp} {j t : Nat} {b : Bool} (h : Ef c fr H ⟨od, o, ty, pos, aft, some (j, b)⟩ (.dk i k H0 X ops f (listed.setIfInBounds i true))) (hr : Region.ready .any ops listed = [i] := by kernel_rfl) (ho : ops[i]? = some ⟨od, o, ty, pos, aft, some (j, b)⟩ := by rw [List.getElem?_toArray]; rfl) (ht : (ops[j]?).bind (·.dst) = some t := by rfl) (hl : look fr t = some (.bool b) := by rfl) : T c fr H (.dx k H0 X ops (f + 1) listed) := .mk fun a w s g =>
  AnyX.only hr ho fun K hK => by
    rw [if_pos (by rw [wanted_eq (c := c) ht hl g]; simp)]
    exact Oper.wp_mono (fun a' w' h' => hK a' w' h'.1 h'.2) (h.h _ a w s g)
/-- two that may come up -/
theorem d2 (i j : Nat) {o o2 : Oper} (h : Ef c fr H o (.dk i k H0 X ops f (listed.setIfInBounds i true))) (h' : Ef c fr H o2 (.dk j k H0 X ops f (listed.setIfInBounds j true)))
    (hr : Region.ready .any ops listed = [i, j] := by kernel_rfl) (ho : ops[i]? = some o := by rw [List.getElem?_toArray]; rfl) (ho2 : ops[j]? = some o2 := by rw [List.getElem?_toArray]; rfl) (hg : o.guard = none := by rfl) (hg2 : o2.guard = none := by rfl) : T c fr H (.dx k H0 X ops (f + 1) listed) := .mk fun a w s g =>
  AnyX.two hr ho ho2 (fun K hK => by
    rw [if_pos (by simp [Region.wanted, hg])]
    exact Oper.wp_mono (fun a' w' h' => hK a' w' h'.1 h'.2) (h.h _ a w s g)) (fun K hK => by
    rw [if_pos (by simp [Region.wanted, hg2])]
    exact Oper.wp_mono (fun a' w' h'' => hK a' w' h''.1 h''.2) (h'.h _ a w s g))
theorem dO (i : Nat) {od : Option Tmp} (hr : Region.ready .any ops listed = [i]) (ho : ops[i]? = some ⟨od, o, ty, pos, aft, none⟩) (h : On c fr H od o ty (.dk i k H0 X ops f (listed.setIfInBounds i true))) : T c fr H (.dx k H0 X ops (f + 1) listed) := d1 i (h.h pos aft none) hr ho rfl
theorem dO2 (i j : Nat) {od od2 : Option Tmp} {o2 : Op} {ty2 : TypeId} {pos2 : String} {aft2 : Array Edge} (hr : Region.ready .any ops listed = [i, j]) (ho : ops[i]? = some ⟨od, o, ty, pos, aft, none⟩) (ho2 : ops[j]? = some ⟨od2, o2, ty2, pos2, aft2, none⟩) (h : On c fr H od o ty (.dk i k H0 X ops f (listed.setIfInBounds i true))) (h' : On c fr H od2 o2 ty2 (.dk j k H0 X ops f (listed.setIfInBounds j true))) : T c fr H (.dx k H0 X ops (f + 1) listed) := d2 i j (h.h pos aft none) (h'.h pos2 aft2 none) hr ho ho2 rfl rfl
theorem dd (h : T c fr H (.norm k)) (hr : Region.ready .any ops listed = [] := by kernel_rfl) : T c fr H (.dx k H0 X ops f listed) := .mk fun a w s g => AnyX.done hr (h.h a w s g) f
end
/-- slots that keep their values -/
inductive Kf (fr : Fr) : List Nat → Fr → Prop
  | nil : Kf fr [] []
  | cons {t v ts r} : look fr t = some v → Kf fr ts r → Kf fr (t :: ts) ((t, v) :: r)
theorem Kf.sub {fr ts r} (h : Kf fr ts r) : FrSub fr r := by
  induction h with
  | nil => exact .nil
  | cons h _ ih => exact .cons h ih
theorem FrSub.app {fr a b : Fr} (h : FrSub fr a) (h2 : FrSub fr b) : FrSub fr (a ++ b) := by
  induction h with
  | nil => exact h2
  | cons h _ ih => exact .cons h ih
theorem Picks.hsub {H M R : List Pc} (h : Picks H M R) : HSub H (M ++ R) := by
  have all : ∀ (H : List Pc), HSub H H := by
    intro H
    induction H with
    | nil => exact .nil
    | cons p H ih => exact .cons .here ih
  induction h with
  | nil => exact all _
  | cons hp _ ih => exact .cons hp ih
theorem c_loopS {c : Cx} {fr : Fr} {H : List Pc} {k : List It} {x : Code} {σ : Type} {cst : Fr} {rest : List Pc} (ks : List Nat) (upd : σ → Fr) (chg : σ → List Pc) (C : σ → Prop) (μ : σ → Nat) (s0 : σ) (h0 : C s0)
    (round : ∀ s, C s → T c (upd s ++ cst) (chg s ++ rest) (.code (.lp (LpN c (fun s => upd s ++ cst) (fun s => chg s ++ rest) C μ (μ s)) :: k) x)) (hk : Kf fr ks cst := by repeat (first | exact Kf.nil | apply Kf.cons (by rfl))) (hf : FrSub fr (upd s0) := by exact frE) (hH : Picks H (chg s0) rest := by exact picksE) : T c fr H (.code k (Code.loop x)) :=
  c_loop (fun s => upd s ++ cst) (fun s => chg s ++ rest) C μ s0 h0 round (hf.app hk.sub) hH.hsub
/-- a loop that leaves the pieces alone -/
theorem c_loopR {c : Cx} {fr : Fr} {H : List Pc} {k : List It} {x : Code} {σ : Type} {cst : Fr} (ks : List Nat) (upd : σ → Fr) (C : σ → Prop) (μ : σ → Nat) (s0 : σ) (h0 : C s0)
    (round : ∀ s, C s → T c (upd s ++ cst) H (.code (.lp (LpN c (fun s => upd s ++ cst) (fun _ => H) C μ (μ s)) :: k) x)) (hk : Kf fr ks cst := by repeat (first | exact Kf.nil | apply Kf.cons (by rfl))) (hf : FrSub fr (upd s0) := by exact frE) : T c fr H (.code k (Code.loop x)) :=
  c_loop (fun s => upd s ++ cst) (fun _ => H) C μ s0 h0 round (hf.app hk.sub) (by
    have all : ∀ (H : List Pc), HSub H H := by
      intro H
      induction H with
      | nil => exact .nil
      | cons p H ih => exact .cons .here ih
    exact all _)
/-- ways that meet: what is known where they do, aS a function of s -/
def Jn {σ : Type} (c : Cx) (fr' : σ → Fr) (H' : σ → List Pc) (C : σ → Prop) (a : Act) (w : World) : Prop := ∃ s, C s ∧ St c.G c.D c.w0 (H' s) w ∧ Ag c.n (fr' s) a
theorem c_join {c : Cx} {fr : Fr} {H : List Pc} {k : List It} {x : Code} {σ : Type} (fr' : σ → Fr) (H' : σ → List Pc) (C : σ → Prop) (h : T c fr H (.code (.lp (Jn c fr' H' C) :: k) x)) (h2 : ∀ s, C s → T c (fr' s) (H' s) (.norm k)) : T c fr H (.code k x) := .mk fun a w s g =>
  wp_mono (h.h a w s g) fun e a' w' he => by
    cases e with
    | normal => obtain ⟨z, hz, hs, hg⟩ := he; exact (h2 z hz).h a' w' hs hg
    | _ => exact he
theorem n_join {c : Cx} {fr : Fr} {H : List Pc} {k : List It} {σ : Type} {fr' : σ → Fr} {H' : σ → List Pc} {C : σ → Prop} (s : σ) (hC : C s) (hf : FrSub fr (fr' s) := by repeat (first | exact FrSub.nil | refine FrSub.cons (by rfl) ?_)) (hH : HSub H (H' s) := by repeat (first | exact HSub.nil | refine HSub.cons (by first | exact .here | exact .there .here | exact .there (.there .here) | exact .there (.there (.there .here)) | exact .there (.there (.there (.there .here))) | exact .there (.there (.there (.there (.there .here)))) | exact .there (.there (.there (.there (.there (.there .here))))) | exact .there (.there (.there (.there (.there (.there (.there .here)))))) | exact .there (.there (.there (.there (.there (.there (.there (.there .here))))))) | exact .there (.there (.there (.there (.there (.there (.there (.there (.there .here)))))))) | exact .there (.there (.there (.there (.there (.there (.there (.there (.there (.there .here))))))))) | exact .there (.there (.there (.there (.there (.there (.there (.there (.there (.there (.there .here)))))))))) | exact .there (.there (.there (.there (.there (.there (.there (.there (.there (.there (.there (.there .here))))))))))) | exact .there (.there (.there (.there (.there (.there (.there (.there (.there (.there (.there (.there (.there .here))))))))))))) ?_)) : T c fr H (.norm (.lp (Jn c fr' H' C) :: k)) :=
  .mk fun _ _ st g => ⟨s, hC, st.sub hH, g.sub hf⟩
theorem c_joinS {c : Cx} {fr : Fr} {H : List Pc} {k : List It} {x : Code} {σ : Type} {cst : Fr} {rest : List Pc} (ks rs : List Nat) (upd : σ → Fr) (chg : σ → List Pc) (C : σ → Prop) (h : T c fr H (.code (.lp (Jn c (fun s => upd s ++ cst) (fun s => chg s ++ rest) C) :: k) x)) (h2 : ∀ s, C s → T c (upd s ++ cst) (chg s ++ rest) (.norm k)) (_hk : Kf fr ks cst := by repeat (first | exact Kf.nil | apply Kf.cons (by rfl))) (_hr : Sel H rs rest := by repeat constructor) : T c fr H (.code k x) :=
  c_join _ _ C h h2
theorem enter {P : Program} {f : FuncId} {fn : Func} {cd : Code} {args : List Value} {A M H : List Pc} {σ : Type} {C : σ → Prop} {v : σ → Value} {N : σ → List Pc} {n : Nat} (hf : P.funcs[f]? = some fn) (hb : fn.body = some cd) (hn : fn.ntmps = n)
    (h : ∀ w, T ⟨P, fp M, fp A, w, n, bodyPost P fn (FnPost P w A M C v N)⟩ (args0 0 args) H (.code [] cd))
    (hl : Nat.ble args.length n = true := by rfl) (hmA : A.all (fun p => !p.mu) = true := by rfl) (hH : AppL M A H := by repeat constructor) : Fn P f args A M C v N := by
  subst hn
  exact fn_enter hf hb (fun w => by rw [hH.eq]; exact h w) (by simpa using hl) hmA
theorem ret {P : Program} {fn : Func} {G D : List Nat} {w0 : World} {n : Nat} {A M : List Pc} {σ : Type} {C : σ → Prop} {v : σ → Value} {N : σ → List Pc} {fr : Fr} {H : List Pc} {rs : List ResultVar} {vs : List Value} (s : σ) (hC : C s) (hv : tup vs = v s)
    (hr : fn.results = rs.toArray := by rfl) (h : Res P fr H rs vs := by repeat (first | exact Res.nil | apply Res.tmp (by rfl) | apply Res.agg inferInstance (by rfl) (by first | exact .head _ | exact .tail _ (.head _) | exact .tail _ (.tail _ (.head _)) | exact .tail _ (.tail _ (.tail _ (.head _))) | exact .tail _ (.tail _ (.tail _ (.tail _ (.head _)))) | exact .tail _ (.tail _ (.tail _ (.tail _ (.tail _ (.head _))))) | exact .tail _ (.tail _ (.tail _ (.tail _ (.tail _ (.tail _ (.head _)))))) | exact .tail _ (.tail _ (.tail _ (.tail _ (.tail _ (.tail _ (.tail _ (.head _))))))) | exact .tail _ (.tail _ (.tail _ (.tail _ (.tail _ (.tail _ (.tail _ (.tail _ (.head _)))))))) | exact .tail _ (.tail _ (.tail _ (.tail _ (.tail _ (.tail _ (.tail _ (.tail _ (.tail _ (.head _))))))))) | exact .tail _ (.tail _ (.tail _ (.tail _ (.tail _ (.tail _ (.tail _ (.tail _ (.tail _ (.tail _ (.head _)))))))))) | exact .tail _ (.tail _ (.tail _ (.tail _ (.tail _ (.tail _ (.tail _ (.tail _ (.tail _ (.tail _ (.tail _ (.head _))))))))))) | exact .tail _ (.tail _ (.tail _ (.tail _ (.tail _ (.tail _ (.tail _ (.tail _ (.tail _ (.tail _ (.tail _ (.tail _ (.head _)))))))))))) | exact .tail _ (.tail _ (.tail _ (.tail _ (.tail _ (.tail _ (.tail _ (.tail _ (.tail _ (.tail _ (.tail _ (.tail _ (.tail _ (.head _)))))))))))))) (by rfl) | apply Res.one inferInstance (by rfl) (by first | exact .head _ | exact .tail _ (.head _) | exact .tail _ (.tail _ (.head _)) | exact .tail _ (.tail _ (.tail _ (.head _))) | exact .tail _ (.tail _ (.tail _ (.tail _ (.head _)))) | exact .tail _ (.tail _ (.tail _ (.tail _ (.tail _ (.head _))))) | exact .tail _ (.tail _ (.tail _ (.tail _ (.tail _ (.tail _ (.head _)))))) | exact .tail _ (.tail _ (.tail _ (.tail _ (.tail _ (.tail _ (.tail _ (.head _))))))) | exact .tail _ (.tail _ (.tail _ (.tail _ (.tail _ (.tail _ (.tail _ (.tail _ (.head _)))))))) | exact .tail _ (.tail _ (.tail _ (.tail _ (.tail _ (.tail _ (.tail _ (.tail _ (.tail _ (.head _))))))))) | exact .tail _ (.tail _ (.tail _ (.tail _ (.tail _ (.tail _ (.tail _ (.tail _ (.tail _ (.tail _ (.head _)))))))))) | exact .tail _ (.tail _ (.tail _ (.tail _ (.tail _ (.tail _ (.tail _ (.tail _ (.tail _ (.tail _ (.tail _ (.head _))))))))))) | exact .tail _ (.tail _ (.tail _ (.tail _ (.tail _ (.tail _ (.tail _ (.tail _ (.tail _ (.tail _ (.tail _ (.tail _ (.head _)))))))))))) | exact .tail _ (.tail _ (.tail _ (.tail _ (.tail _ (.tail _ (.tail _ (.tail _ (.tail _ (.tail _ (.tail _ (.tail _ (.tail _ (.head _)))))))))))))))) (hN : HSub H (N s) := by repeat (first | exact HSub.nil | refine HSub.cons (by first | exact .here | exact .there .here | exact .there (.there .here) | exact .there (.there (.there .here)) | exact .there (.there (.there (.there .here))) | exact .there (.there (.there (.there (.there .here)))) | exact .there (.there (.there (.there (.there (.there .here))))) | exact .there (.there (.there (.there (.there (.there (.there .here)))))) | exact .there (.there (.there (.there (.there (.there (.there (.there .here))))))) | exact .there (.there (.there (.there (.there (.there (.there (.there (.there .here)))))))) | exact .there (.there (.there (.there (.there (.there (.there (.there (.there (.there .here))))))))) | exact .there (.there (.there (.there (.there (.there (.there (.there (.there (.there (.there .here)))))))))) | exact .there (.there (.there (.there (.there (.there (.there (.there (.there (.there (.there (.there .here))))))))))) | exact .there (.there (.there (.there (.there (.there (.there (.there (.there (.there (.there (.there (.there .here))))))))))))) ?_)) (hG : G = fp M := by rfl) (hD : D = fp A := by rfl) : T ⟨P, G, D, w0, n, bodyPost P fn (FnPost P w0 A M C v N)⟩ fr H (.fin .ret) := fn_ret s hC hr h hv hN hG hD
/-- out of a triple: a value, nothing that was there has turned -/
theorem Fn.val {P : Program} {f : FuncId} {args : List Value} {A : List Pc} {C : Unit → Prop} {v : Value} (h : Fn P f args A [] C (fun _ => v) (fun _ => [])) (w : World) (hA : Hol A w) (hm : A.all (fun p => !p.mu) = true := by rfl) : Calls P f args.toArray w fun e w' => e = .returned v ∧ Below w.heap.size w w' :=
  have hs : ∀ (A : List Pc), A.all (fun p => !p.mu) = true → Sep A := by
    intro A
    induction A with
    | nil => intro _; trivial
    | cons p A ih =>
      intro h
      simp only [List.all_cons, Bool.and_eq_true, Bool.not_eq_true'] at h
      exact ⟨fun q hq hm => by have := List.all_eq_true.1 h.2 q hq; simp [h.1] at hm; simp [hm] at this, ih h.2⟩
  (h w (by simpa using hA) (by simpa using hs A hm)).mono fun e w' ⟨_, _, he, _, _, hk, _⟩ => ⟨he, hk.below (Nat.le_refl _) (by simp [fp])⟩
theorem sep_ro : ∀ (A : List Pc), A.all (fun p => !p.mu) = true → Sep A
  | [], _ => trivial
  | p :: A, h => by
    simp only [List.all_cons, Bool.and_eq_true, Bool.not_eq_true'] at h
    exact ⟨fun q hq hm => by have := List.all_eq_true.1 h.2 q hq; simp [h.1] at hm; simp [hm] at this, sep_ro A h.2⟩
theorem Pc.nd {p : Pc} (hm : p.mu = true) {w : World} (h : p.P w) : p.F.Nodup := by
  cases p with
  | row g t o A cs B => simp [Pc.F]
  | ow E t v xs F => exact h.1
  | own E v x F => exact h.1
  | flat E cs xs F => exact h.1
  | _ => cases hm
theorem fp_nd {w : World} : ∀ {N : List Pc}, N.all (·.mu) = true → Hol N w → Sep N → (fp N).Nodup
  | [], _, _, _ => by simp [fp]
  | p :: N, hm, hH, hs => by
    simp only [List.all_cons, Bool.and_eq_true] at hm
    refine List.nodup_append.2 ⟨Pc.nd hm.1 (hH p (by simp)), fp_nd hm.2 (fun q hq => hH q (by simp [hq])) hs.2, fun b hb b' hb' e => ?_⟩
    subst e
    obtain ⟨q, hq, hqb⟩ := mem_fp.1 hb'
    exact hs.1 q hq (by simp [hm.1]) b hb hqb
/-- out of a triple that only reads: what it returns is owned, and new -/
theorem Fn.made {P : Program} {f : FuncId} {args : List Value} {A : List Pc} {σ : Type} {C : σ → Prop} {v : σ → Value} {N : σ → List Pc} (h : Fn P f args A [] C v N) (w : World) (hA : Hol A w) (hN : ∀ s, (N s).all (·.mu) = true) (hm : A.all (fun p => !p.mu) = true := by rfl) :
    Calls P f args.toArray w fun e w' => ∃ s, C s ∧ e = .returned (v s) ∧ Hol (N s) w' ∧ (fp (N s)).Nodup ∧ (∀ b ∈ fp (N s), w.heap.size ≤ b) ∧ Below w.heap.size w w' :=
  (h w (by simpa using hA) (by simpa using sep_ro A hm)).mono fun e w' ⟨s, hC, he, hH, hS, hk, hF⟩ => ⟨s, hC, he, hH, fp_nd (hN s) hH hS, (fun b hb => by
    obtain ⟨p, hp, hpb⟩ := mem_fp.1 hb
    rcases hF p hp b hpb with h | ⟨q, hq, _⟩ | ⟨h, _⟩
    · exact h
    · simp at hq
    · have := List.all_eq_true.1 (hN s) p hp; rw [h] at this; cases this), hk.below (Nat.le_refl _) (by simp [fp])⟩
end Go.Proofs.YtidephmobajikaaDoor
/- The type Hold of the exact laws: how it reads, how it is owned; the walks of its size, copy, equality, mark and held. Written by wip/gentypes.py. -/
namespace Go.Proofs.YtidephmobajikaaDoor
open Go.RowKit
structure Hold where
  number : Int
  untl : Int
end Go.Proofs.YtidephmobajikaaDoor
/- The type Source of the exact laws: how it reads, how it is owned; the walks of its size, copy, equality, mark and held. Written by wip/gentypes.py. -/
namespace Go.Proofs.YtidephmobajikaaDoor
open Go.RowKit
structure Source where
  window : SendWindow
  clock : Int
  quiet : Int
  holds : List Hold
end Go.Proofs.YtidephmobajikaaDoor
/- Structs of type Source in a walk's state: opened, closed. -/
namespace Go.Proofs.YtidephmobajikaaDoor
open Go.RowKit
section
variable {c : Cx} {fr : Fr} {H : List Pc} {Φ : Gl}
end
end Go.Proofs.YtidephmobajikaaDoor
/- Structs of type Hold in a walk's state: opened, closed. -/
namespace Go.Proofs.YtidephmobajikaaDoor
open Go.RowKit
section
variable {c : Cx} {fr : Fr} {H : List Pc} {Φ : Gl}
end
end Go.Proofs.YtidephmobajikaaDoor
/- Structs of type SendWindow in a walk's state: opened, closed. -/
namespace Go.Proofs.YtidephmobajikaaDoor
open Go.RowKit
section
variable {c : Cx} {fr : Fr} {H : List Pc} {Φ : Gl}
theorem openSendWindow {v : Value} {x : SendWindow} {F : List Nat} (h : ∀ (a1 : Option Addr) (c1 : Nat) (F1 : List Nat), v = .agg #[.int .i64 x.trail, .int .i64 x.size, .slice a1 x.items.length c1] → x.items.length ≤ maxLen → T c fr (.sl EStr (.slice a1 x.items.length c1) x.items F1 :: H) Φ) (hm : .isv ESendWindow v x F ∈ H := by first | exact .head _ | exact .tail _ (.head _) | exact .tail _ (.tail _ (.head _)) | exact .tail _ (.tail _ (.tail _ (.head _))) | exact .tail _ (.tail _ (.tail _ (.tail _ (.head _)))) | exact .tail _ (.tail _ (.tail _ (.tail _ (.tail _ (.head _))))) | exact .tail _ (.tail _ (.tail _ (.tail _ (.tail _ (.tail _ (.head _)))))) | exact .tail _ (.tail _ (.tail _ (.tail _ (.tail _ (.tail _ (.tail _ (.head _))))))) | exact .tail _ (.tail _ (.tail _ (.tail _ (.tail _ (.tail _ (.tail _ (.tail _ (.head _)))))))) | exact .tail _ (.tail _ (.tail _ (.tail _ (.tail _ (.tail _ (.tail _ (.tail _ (.tail _ (.head _))))))))) | exact .tail _ (.tail _ (.tail _ (.tail _ (.tail _ (.tail _ (.tail _ (.tail _ (.tail _ (.tail _ (.head _)))))))))) | exact .tail _ (.tail _ (.tail _ (.tail _ (.tail _ (.tail _ (.tail _ (.tail _ (.tail _ (.tail _ (.tail _ (.head _))))))))))) | exact .tail _ (.tail _ (.tail _ (.tail _ (.tail _ (.tail _ (.tail _ (.tail _ (.tail _ (.tail _ (.tail _ (.tail _ (.head _)))))))))))) | exact .tail _ (.tail _ (.tail _ (.tail _ (.tail _ (.tail _ (.tail _ (.tail _ (.tail _ (.tail _ (.tail _ (.tail _ (.tail _ (.head _)))))))))))))) : T c fr H Φ := .mk fun a w s g => by
  obtain ⟨cs, rfl, v1, rfl, h1⟩ := s.get hm
  obtain ⟨a1, c1, rfl⟩ := h1.slice; have l1 := h1.len
  have t1 := s.ro (p := .sl EStr (.slice a1 x.items.length c1) x.items F) hm rfl rfl ⟨by decide, h1⟩ fun b hb => hb
  exact (h a1 c1 F rfl  l1).h a w t1 g
theorem closeSendWindow (x : SendWindow) {a1 : Option Addr} {c1 : Nat} {F1 : List Nat}  (h : T c fr (.isv ESendWindow (.agg #[.int .i64 x.trail, .int .i64 x.size, .slice a1 x.items.length c1]) x (F1) :: H) Φ) (m1 : .sl EStr (.slice a1 x.items.length c1) x.items F1 ∈ H := by first | exact .head _ | exact .tail _ (.head _) | exact .tail _ (.tail _ (.head _)) | exact .tail _ (.tail _ (.tail _ (.head _))) | exact .tail _ (.tail _ (.tail _ (.tail _ (.head _)))) | exact .tail _ (.tail _ (.tail _ (.tail _ (.tail _ (.head _))))) | exact .tail _ (.tail _ (.tail _ (.tail _ (.tail _ (.tail _ (.head _)))))) | exact .tail _ (.tail _ (.tail _ (.tail _ (.tail _ (.tail _ (.tail _ (.head _))))))) | exact .tail _ (.tail _ (.tail _ (.tail _ (.tail _ (.tail _ (.tail _ (.tail _ (.head _)))))))) | exact .tail _ (.tail _ (.tail _ (.tail _ (.tail _ (.tail _ (.tail _ (.tail _ (.tail _ (.head _))))))))) | exact .tail _ (.tail _ (.tail _ (.tail _ (.tail _ (.tail _ (.tail _ (.tail _ (.tail _ (.tail _ (.head _)))))))))) | exact .tail _ (.tail _ (.tail _ (.tail _ (.tail _ (.tail _ (.tail _ (.tail _ (.tail _ (.tail _ (.tail _ (.head _))))))))))) | exact .tail _ (.tail _ (.tail _ (.tail _ (.tail _ (.tail _ (.tail _ (.tail _ (.tail _ (.tail _ (.tail _ (.tail _ (.head _)))))))))))) | exact .tail _ (.tail _ (.tail _ (.tail _ (.tail _ (.tail _ (.tail _ (.tail _ (.tail _ (.tail _ (.tail _ (.tail _ (.tail _ (.head _)))))))))))))) : T c fr H Φ := .mk fun a w s g => by
  have hP : IsV ESendWindow w (.agg #[.int .i64 x.trail, .int .i64 x.size, .slice a1 x.items.length c1]) x (F1) := ⟨_, rfl, _, rfl, (s.get m1).2⟩
  refine h.h a w (s.add (N := [.isv ESendWindow (.agg #[.int .i64 x.trail, .int .i64 x.size, .slice a1 x.items.length c1]) x (F1)]) (Below.refl _ _) (by intro q hq; simp at hq; subst hq; exact hP) ⟨by simp, trivial⟩ fun q hq b hb => ?_) g
  simp at hq; subst hq
  simp only [Pc.F, List.mem_append] at hb
  exact .inr ⟨rfl, _, m1, rfl, hb⟩
theorem openOSendWindow {v : Value} {x : SendWindow} {F : List Nat} {S : List Pc} (h : ∀ (a1 : Option Addr) (c1 : Nat) (F1 : List Nat), v = .agg #[.int .i64 x.trail, .int .i64 x.size, .slice a1 x.items.length c1] → x.items.length ≤ maxLen → T c fr (.ow EStr 9 (.slice a1 x.items.length c1) x.items F1 :: S) Φ) (hp : Pick H (.own OSendWindow v x F) S := by first | exact .here | exact .there .here | exact .there (.there .here) | exact .there (.there (.there .here)) | exact .there (.there (.there (.there .here))) | exact .there (.there (.there (.there (.there .here)))) | exact .there (.there (.there (.there (.there (.there .here))))) | exact .there (.there (.there (.there (.there (.there (.there .here)))))) | exact .there (.there (.there (.there (.there (.there (.there (.there .here))))))) | exact .there (.there (.there (.there (.there (.there (.there (.there (.there .here)))))))) | exact .there (.there (.there (.there (.there (.there (.there (.there (.there (.there .here))))))))) | exact .there (.there (.there (.there (.there (.there (.there (.there (.there (.there (.there .here)))))))))) | exact .there (.there (.there (.there (.there (.there (.there (.there (.there (.there (.there (.there .here))))))))))) | exact .there (.there (.there (.there (.there (.there (.there (.there (.there (.there (.there (.there (.there .here))))))))))))) : T c fr H Φ := .mk fun a w s g => by
  have z1 := s.pick hp
  obtain ⟨hn, cs, rfl, v1, rfl, h1⟩ := z1.on (.own OSendWindow v x F) (by simp)
  obtain ⟨a1, c1, rfl⟩ := h1.slice; have l1 := h1.len
  refine (h a1 c1 F rfl  l1).h a w (St.turn (M := [.own OSendWindow (.agg #[.int .i64 x.trail, .int .i64 x.size, .slice a1 x.items.length c1]) x _]) (N := [.ow EStr 9 (.slice a1 x.items.length c1) x.items F]) z1 (Keep.refl _ w) ?_ ?_ ?_) g
  · intro q hq; simp at hq; subst hq; exact ⟨hn, h1⟩
  · exact ⟨by simp, trivial⟩
  · intro q hq b hb; simp at hq; subst hq; exact .inr (.inl ⟨_, List.mem_singleton.2 rfl, rfl, hb⟩)
theorem closeOSendWindow (x : SendWindow) {a1 : Option Addr} {c1 : Nat} {F1 : List Nat} {S1 : List Pc}  (h : T c fr (.own OSendWindow (.agg #[.int .i64 x.trail, .int .i64 x.size, .slice a1 x.items.length c1]) x (F1) :: S1) Φ) (m1 : Pick H (.ow EStr 9 (.slice a1 x.items.length c1) x.items F1) S1 := by first | exact .here | exact .there .here | exact .there (.there .here) | exact .there (.there (.there .here)) | exact .there (.there (.there (.there .here))) | exact .there (.there (.there (.there (.there .here)))) | exact .there (.there (.there (.there (.there (.there .here))))) | exact .there (.there (.there (.there (.there (.there (.there .here)))))) | exact .there (.there (.there (.there (.there (.there (.there (.there .here))))))) | exact .there (.there (.there (.there (.there (.there (.there (.there (.there .here)))))))) | exact .there (.there (.there (.there (.there (.there (.there (.there (.there (.there .here))))))))) | exact .there (.there (.there (.there (.there (.there (.there (.there (.there (.there (.there .here)))))))))) | exact .there (.there (.there (.there (.there (.there (.there (.there (.there (.there (.there (.there .here))))))))))) | exact .there (.there (.there (.there (.there (.there (.there (.there (.there (.there (.there (.there (.there .here)))))))))))))  : T c fr H Φ := .mk fun a w s g => by
  have z1 : St c.G c.D c.w0 ([.ow EStr 9 (.slice a1 x.items.length c1) x.items F1] ++ S1) w := by simpa using (show Picks H [.ow EStr 9 (.slice a1 x.items.length c1) x.items F1] S1 from Picks.cons m1 (Picks.nil)).st (X := []) (by simpa using s)
  obtain ⟨n1, k1⟩ := z1.on (.ow EStr 9 (.slice a1 x.items.length c1) x.items F1) (by simp)
  have hN := n1
  refine h.h a w (St.turn (M := [.ow EStr 9 (.slice a1 x.items.length c1) x.items F1]) (N := [.own OSendWindow (.agg #[.int .i64 x.trail, .int .i64 x.size, .slice a1 x.items.length c1]) x (F1)]) z1 (Keep.refl _ w) (by intro q hq; simp at hq; subst hq; exact ⟨hN, _, rfl, _, rfl, k1⟩) ⟨by simp, trivial⟩ fun q hq b hb => ?_) g
  simp at hq; subst hq
  simp only [Pc.F, List.mem_append] at hb
  exact .inr (.inl ⟨_, List.mem_singleton.2 rfl, rfl, hb⟩)
end
end Go.Proofs.YtidephmobajikaaDoor
/- A string as a row of one. -/
namespace Go.Proofs.YtidephmobajikaaDoor
open Go.RowKit
theorem rep_s {s : ByteArray} (h : s.size ≤ maxLen) (w : World) : Flat EStr w [.string s] [s] [] := ⟨_, [], [], [], by simp, by simp, ⟨rfl, h, rfl⟩, rfl, rfl⟩
theorem t_sl {c : Cx} {fr : Fr} {H : List Pc} {Φ : Gl} {α : Type} {E : Elem α} {v : Value} {xs : List α} {F : List Nat} (h : ∀ a cp, v = .slice a xs.length cp → xs.length ≤ cp → cp ≤ 9223372036854775807 → T c fr H Φ) (hm : .sl E v xs F ∈ H := by first | exact .head _ | exact .tail _ (.head _) | exact .tail _ (.tail _ (.head _)) | exact .tail _ (.tail _ (.tail _ (.head _))) | exact .tail _ (.tail _ (.tail _ (.tail _ (.head _)))) | exact .tail _ (.tail _ (.tail _ (.tail _ (.tail _ (.head _))))) | exact .tail _ (.tail _ (.tail _ (.tail _ (.tail _ (.tail _ (.head _)))))) | exact .tail _ (.tail _ (.tail _ (.tail _ (.tail _ (.tail _ (.tail _ (.head _))))))) | exact .tail _ (.tail _ (.tail _ (.tail _ (.tail _ (.tail _ (.tail _ (.tail _ (.head _)))))))) | exact .tail _ (.tail _ (.tail _ (.tail _ (.tail _ (.tail _ (.tail _ (.tail _ (.tail _ (.head _))))))))) | exact .tail _ (.tail _ (.tail _ (.tail _ (.tail _ (.tail _ (.tail _ (.tail _ (.tail _ (.tail _ (.head _)))))))))) | exact .tail _ (.tail _ (.tail _ (.tail _ (.tail _ (.tail _ (.tail _ (.tail _ (.tail _ (.tail _ (.tail _ (.head _))))))))))) | exact .tail _ (.tail _ (.tail _ (.tail _ (.tail _ (.tail _ (.tail _ (.tail _ (.tail _ (.tail _ (.tail _ (.tail _ (.head _)))))))))))) | exact .tail _ (.tail _ (.tail _ (.tail _ (.tail _ (.tail _ (.tail _ (.tail _ (.tail _ (.tail _ (.tail _ (.tail _ (.tail _ (.head _)))))))))))))) : T c fr H Φ := .mk fun ac w s g => by
  obtain ⟨-, hs⟩ := s.get hm
  obtain ⟨a, cp, rfl⟩ := hs.slice
  obtain ⟨-, h2, h3⟩ := hs.caps
  exact (h a cp rfl h2 (by unfold maxLen at h3; omega)).h ac w s g
/-- a row of our own is an owned slice -/
theorem t_row {c : Cx} {fr : Fr} {H : List Pc} {Φ : Gl} {α : Type} {E : Elem α} {t g : Nat} {cs : List Value} {xs : List α} {S : List Pc} (hfl : ∀ w, Flat E w cs xs []) (h : T c fr (.ow E t (.slice (some ⟨g, 0, none⟩) xs.length xs.length) xs [g] :: S) Φ) (hl : xs.length ≤ 1000000) (hp : Pick H (.row g t 0 [] cs []) S := by first | exact .here | exact .there .here | exact .there (.there .here) | exact .there (.there (.there .here)) | exact .there (.there (.there (.there .here))) | exact .there (.there (.there (.there (.there .here)))) | exact .there (.there (.there (.there (.there (.there .here))))) | exact .there (.there (.there (.there (.there (.there (.there .here)))))) | exact .there (.there (.there (.there (.there (.there (.there (.there .here))))))) | exact .there (.there (.there (.there (.there (.there (.there (.there (.there .here)))))))) | exact .there (.there (.there (.there (.there (.there (.there (.there (.there (.there .here))))))))) | exact .there (.there (.there (.there (.there (.there (.there (.there (.there (.there (.there .here)))))))))) | exact .there (.there (.there (.there (.there (.there (.there (.there (.there (.there (.there (.there .here))))))))))) | exact .there (.there (.there (.there (.there (.there (.there (.there (.there (.there (.there (.there (.there .here))))))))))))) : T c fr H Φ := .mk fun a w s g' => by
  have s1 := s.pick hp
  have hr := (s1.on (.row g t 0 [] cs []) (by simp)).2
  have hlen := (hfl w).len
  refine h.h a w (s1.conv rfl ⟨by simp, .inr ⟨g, xs.length, cs, [], [], rfl, by simpa using hr, Nat.le_refl _, by unfold maxLen; omega, by simpa using hlen, hfl w, rfl⟩⟩ (by simp [Pc.F])) g'
end Go.Proofs.YtidephmobajikaaDoor
/- Sources: the check. -/
namespace Go.Proofs.YtidephmobajikaaDoor
open Go.RowKit
def heldB (w : SendWindow) (n : Int) : Bool := decide (gp w.trail n < (w.items.length : Int))
set_option maxRecDepth 100000 in
theorem isHeld_f (x : SendWindow) (n : Int) (v : Value) (F : List Nat) (h0 : 0 ≤ x.trail) (h1 : x.trail ≤ 65535) (h2 : 0 ≤ n) (h3 : n ≤ 65535) :
    Fn Tryd.prog 104 [v, .int .i64 n] [.isv ESendWindow v x F] [] (fun (_ : Unit) => True) (fun _ => .bool (heldB x n)) (fun _ => []) := by
  refine enter Tryd.func104 rfl Tryd.ntmps104 fun w0 => ?_
  refine openSendWindow ?_
  rintro a1 c1 F1 rfl l1
  repeat (first | apply c_seq | apply c_reg | (apply wO; apply oc; rfl; exact ydE) | apply w_nil | apply n_cd | (apply wg_t; rfl; rfl) | (apply wg_f; rfl; rfl; rfl; rfl) | (apply wg_u; rfl; rfl; rfl) | (apply c_t; rfl) | (apply c_f; rfl) | apply c_skip | apply c_block | apply n_blk | apply c_exit | apply e_hit | apply e_cd | apply e_lp | (apply e_miss; rfl) | apply c_ret | (apply wO; apply o_box; rfl; rfl; rfl; intro _) | (apply wO; apply o_alloc; rfl; intro _) | (apply wO; apply o_st; rfl; rfl; rfl; (first | exact AggC.s | exact OneC.s); rfl; exact rplE; exact putE; rfl) | (apply wO; apply o_bs0; rfl; intro _) | (apply wO; apply o_bs; rfl; rfl; rfl; rfl; exact rptE; exact filE; intro _) | (apply wO; apply o_call; rfl; kernel_rfl; exact evsE))
  refine d_start [0] [] ?_
  refine dt 0 ?_
  refine dt 1 ?_
  refine dt 2 ?_
  refine dt 4 ?_
  refine dt 5 ?_
  refine dt 6 ?_
  refine dO 3 (by kernel_rfl) (by rw [List.getElem?_toArray]; rfl) ?_
  apply o_call; rfl; kernel_rfl; exact evsE
  refine ce (fun w s => gap_c _ _ _ (by omega) (by omega) (by omega) (by omega)) ?_
  refine dk ?_
  refine dt 7 ?_
  refine dt 8 ?_
  refine dd ?_
  repeat (first | apply c_seq | apply c_reg | (apply wO; apply oc; rfl; exact ydE) | apply w_nil | apply n_cd | (apply wg_t; rfl; rfl) | (apply wg_f; rfl; rfl; rfl; rfl) | (apply wg_u; rfl; rfl; rfl) | (apply c_t; rfl) | (apply c_f; rfl) | apply c_skip | apply c_block | apply n_blk | apply c_exit | apply e_hit | apply e_cd | apply e_lp | (apply e_miss; rfl) | apply c_ret | (apply wO; apply o_box; rfl; rfl; rfl; intro _) | (apply wO; apply o_alloc; rfl; intro _) | (apply wO; apply o_st; rfl; rfl; rfl; (first | exact AggC.s | exact OneC.s); rfl; exact rplE; exact putE; rfl) | (apply wO; apply o_bs0; rfl; intro _) | (apply wO; apply o_bs; rfl; rfl; rfl; rfl; exact rptE; exact filE; intro _) | (apply wO; apply o_call; rfl; kernel_rfl; exact evsE))
  refine ret () trivial rfl
set_option maxRecDepth 100000 in
theorem l9Held_f (x : SendWindow) (n : Int) (v : Value) (F : List Nat) (h0 : 0 ≤ x.trail) (h1 : x.trail ≤ 65535) (h2 : 0 ≤ n) (h3 : n ≤ 65535) :
    Fn Tryd.prog 109 [v, .int .i64 n] [.isv ESendWindow v x F] [] (fun (_ : Unit) => True) (fun _ => .bool (heldB x n)) (fun _ => []) := by
  refine enter Tryd.func109 rfl Tryd.ntmps109 fun w0 => ?_
  refine openSendWindow ?_
  rintro a1 c1 F1 rfl l1
  repeat (first | apply c_seq | apply c_reg | (apply wO; apply oc; rfl; exact ydE) | apply w_nil | apply n_cd | (apply wg_t; rfl; rfl) | (apply wg_f; rfl; rfl; rfl; rfl) | (apply wg_u; rfl; rfl; rfl) | (apply c_t; rfl) | (apply c_f; rfl) | apply c_skip | apply c_block | apply n_blk | apply c_exit | apply e_hit | apply e_cd | apply e_lp | (apply e_miss; rfl) | apply c_ret | (apply wO; apply o_box; rfl; rfl; rfl; intro _) | (apply wO; apply o_alloc; rfl; intro _) | (apply wO; apply o_st; rfl; rfl; rfl; (first | exact AggC.s | exact OneC.s); rfl; exact rplE; exact putE; rfl) | (apply wO; apply o_bs0; rfl; intro _) | (apply wO; apply o_bs; rfl; rfl; rfl; rfl; exact rptE; exact filE; intro _) | (apply wO; apply o_call; rfl; kernel_rfl; exact evsE))
  refine d_start [0] [] ?_
  refine dt 0 ?_
  refine dt 1 ?_
  refine dt 2 ?_
  refine dt 4 ?_
  refine dt 5 ?_
  refine dt 6 ?_
  refine dO 3 (by kernel_rfl) (by rw [List.getElem?_toArray]; rfl) ?_
  apply o_call; rfl; kernel_rfl; exact evsE
  refine ce (fun w s => l2Gap_c _ _ _ (by omega) (by omega)) ?_
  refine dk ?_
  refine dt 7 ?_
  refine dt 8 ?_
  refine dd ?_
  repeat (first | apply c_seq | apply c_reg | (apply wO; apply oc; rfl; exact ydE) | apply w_nil | apply n_cd | (apply wg_t; rfl; rfl) | (apply wg_f; rfl; rfl; rfl; rfl) | (apply wg_u; rfl; rfl; rfl) | (apply c_t; rfl) | (apply c_f; rfl) | apply c_skip | apply c_block | apply n_blk | apply c_exit | apply e_hit | apply e_cd | apply e_lp | (apply e_miss; rfl) | apply c_ret | (apply wO; apply o_box; rfl; rfl; rfl; intro _) | (apply wO; apply o_alloc; rfl; intro _) | (apply wO; apply o_st; rfl; rfl; rfl; (first | exact AggC.s | exact OneC.s); rfl; exact rplE; exact putE; rfl) | (apply wO; apply o_bs0; rfl; intro _) | (apply wO; apply o_bs; rfl; rfl; rfl; rfl; exact rptE; exact filE; intro _) | (apply wO; apply o_call; rfl; kernel_rfl; exact evsE))
  refine ret () trivial rfl

end Go.Proofs.YtidephmobajikaaDoor
/- Sources: the check of the reference. -/
namespace Go.Proofs.YtidephmobajikaaDoor
open Go.RowKit
end Go.Proofs.YtidephmobajikaaDoor
/- Walks of Go's generic library functions on slices of impl.Hold. Written by wip/genlib.py. -/
namespace Go.Proofs.YtidephmobajikaaDoor
open Go.RowKit
end Go.Proofs.YtidephmobajikaaDoor
/- Sources: the copy, the holds that are kept. -/
namespace Go.Proofs.YtidephmobajikaaDoor
open Go.RowKit
end Go.Proofs.YtidephmobajikaaDoor
/- Sources: TrimSource of the program. -/
namespace Go.Proofs.YtidephmobajikaaDoor
open Go.RowKit
/-- out of a contract that makes a value -/
theorem fn_made {P : Program} {f : FuncId} {args : List Value} {A : List Pc} {σ : Type} {C : σ → Prop} {v : σ → Value} {N : σ → Pc}
    (h : ∀ w, Hol A w → Calls P f args.toArray w fun e w' => ∃ s, C s ∧ e = .returned (v s) ∧ (N s).P w' ∧ (∀ b ∈ (N s).F, w.heap.size ≤ b) ∧ Below w.heap.size w w') : Fn P f args A [] C v (fun s => [N s]) := fun w hA _ => by
  refine (h w (by simpa using hA)).mono ?_
  rintro e w' ⟨s, hC, he, hN, hF, hB⟩
  refine ⟨s, hC, he, hol1 hN, ⟨by simp, trivial⟩, Keep.ofBelow hB, fun p hp b hb => ?_⟩
  simp at hp
  subst hp
  exact .inl (hF b hb)
structure SrcS where
  a : Option Addr
  c : Nat
  a2 : Option Addr
  c2 : Nat
  F : List Nat
structure GoodS (x : Source) : Prop where
  w : goodWin x.window = true
  l : x.window.items.length ≤ 6
  t0 : 0 ≤ x.window.trail
  t1 : x.window.trail ≤ 65535
  k0 : 0 ≤ x.clock
  k1 : x.clock ≤ 9999
  m : x.holds.length ≤ 6
  n : ∀ h ∈ x.holds, isSer h.number = true
  u : ∀ h ∈ x.holds, x.clock + 1 ≤ h.untl
  b : ∀ h ∈ x.holds, h.untl ≤ x.clock + 3
theorem drop_no {x : SendWindow} {n : Int} (h : okDropItems x n = false) : resDropItems x n = (⟨0, 0, []⟩, 0, false) := by unfold resDropItems; rw [h]; rfl
theorem DropItems_f (x : SendWindow) (n : Int) (v : Value) (F : List Nat) : Fn Tryd.prog 31 [v, .int .i64 n] [.isv ESendWindow v x F] [] (fun (_ : Value × List Nat) => True)
    (fun s => .tuple #[s.1, .int .i64 (resDropItems x n).2.1, .bool (resDropItems x n).2.2]) (fun s => [.own OSendWindow s.1 (resDropItems x n).1 s.2]) :=
  fn_made fun w hA => (DropItems_c v x F n w (hA (.isv ESendWindow v x F) (by simp))).mono fun e w' ⟨u, G, he, h1, h2, h3, h4⟩ => ⟨(u, G), trivial, he, ⟨h2, h1⟩, h3, h4⟩
end Go.Proofs.YtidephmobajikaaDoor
/- Sources: what the reference drops, the holds that it keeps. -/
namespace Go.Proofs.YtidephmobajikaaDoor
open Go.RowKit
set_option maxRecDepth 100000 in
theorem specDrop_f (x : SendWindow) (n : Int) (v : Value) (F : List Nat) : Fn Tryd.prog 32 [v, .int .i64 n] [.isv ESendWindow v x F] [] (fun (_ : Value × List Nat) => True)
    (fun s => .tuple #[s.1, .int .i64 (resDropItems x n).2.1, .bool (resDropItems x n).2.2]) (fun s => [.own OSendWindow s.1 (resDropItems x n).1 s.2]) := by
  refine enter Tryd.func32 rfl Tryd.ntmps32 fun w0 => ?_
  refine t_nilow EStr 9 ?_
  refine closeOSendWindow ⟨0, 0, []⟩ ?_
  refine openSendWindow ?_
  rintro a1 c1 F1 rfl l1
  repeat (first | apply c_seq | apply c_reg | (apply wO; apply oc; rfl; exact ydE) | apply w_nil | apply n_cd | (apply wg_t; rfl; rfl) | (apply wg_f; rfl; rfl; rfl; rfl) | (apply wg_u; rfl; rfl; rfl) | (apply c_t; rfl) | (apply c_f; rfl) | apply c_skip | apply c_block | apply n_blk | apply c_exit | apply e_hit | apply e_cd | apply e_lp | (apply e_miss; rfl) | apply c_ret | (apply wO; apply o_box; rfl; rfl; rfl; intro _) | (apply wO; apply o_alloc; rfl; intro _) | (apply wO; apply o_st; rfl; rfl; rfl; (first | exact AggC.s | exact OneC.s); rfl; exact rplE; exact putE; rfl) | (apply wO; apply o_bs0; rfl; intro _) | (apply wO; apply o_bs; rfl; rfl; rfl; rfl; exact rptE; exact filE; intro _) | (apply wO; apply o_call; rfl; kernel_rfl; exact evsE))
  cases g1 : goodWin x
  · refine d_start [1] [] ?_
    refine dt 0 ?_
    refine dO 1 (by kernel_rfl) (by rw [List.getElem?_toArray]; rfl) ?_
    apply o_call; rfl; kernel_rfl; exact evsE
    refine cb (fun w st => l9Good_c _ x _ w (st.get (p := .isv ESendWindow (.agg #[.int .i64 x.trail, .int .i64 x.size, .slice a1 x.items.length c1]) x F) (by simp))) ?_
    rw [g1]
    refine dk ?_
    refine dt 2 ?_
    refine dt 3 ?_
    refine ds 4 ?_
    refine ds 5 ?_
    refine ds 6 ?_
    refine dt 7 ?_
    refine dt 8 ?_
    refine ds 9 ?_
    refine ds 10 ?_
    refine ds 11 ?_
    refine ds 12 ?_
    refine ds 13 ?_
    refine ds 14 ?_
    refine ds 15 ?_
    refine ds 16 ?_
    refine dt 17 ?_
    refine dd ?_
    repeat (first | apply c_seq | apply c_reg | (apply wO; apply oc; rfl; exact ydE) | apply w_nil | apply n_cd | (apply wg_t; rfl; rfl) | (apply wg_f; rfl; rfl; rfl; rfl) | (apply wg_u; rfl; rfl; rfl) | (apply c_t; rfl) | (apply c_f; rfl) | apply c_skip | apply c_block | apply n_blk | apply c_exit | apply e_hit | apply e_cd | apply e_lp | (apply e_miss; rfl) | apply c_ret | (apply wO; apply o_box; rfl; rfl; rfl; intro _) | (apply wO; apply o_alloc; rfl; intro _) | (apply wO; apply o_st; rfl; rfl; rfl; (first | exact AggC.s | exact OneC.s); rfl; exact rplE; exact putE; rfl) | (apply wO; apply o_bs0; rfl; intro _) | (apply wO; apply o_bs; rfl; rfl; rfl; rfl; exact rptE; exact filE; intro _) | (apply wO; apply o_call; rfl; kernel_rfl; exact evsE))
    rw [drop_no (by unfold okDropItems; rw [g1]; simp)]
    refine ret (_, _) trivial rfl
  obtain ⟨⟨t0, t1⟩, ⟨s0, s1⟩, s2, -⟩ := goodWin_iff.1 g1
  cases g2 : isSer n
  · refine d_start [1] [] ?_
    refine dt 0 ?_
    refine dO 1 (by kernel_rfl) (by rw [List.getElem?_toArray]; rfl) ?_
    apply o_call; rfl; kernel_rfl; exact evsE
    refine cb (fun w st => l9Good_c _ x _ w (st.get (p := .isv ESendWindow (.agg #[.int .i64 x.trail, .int .i64 x.size, .slice a1 x.items.length c1]) x F) (by simp))) ?_
    rw [g1]
    refine dk ?_
    refine dt 2 ?_
    refine dt 3 ?_
    refine dtg 4 ?_
    refine d1g 5 ?_
    apply On.h
    apply o_call; rfl; kernel_rfl; exact evsE
    refine ce (fun w s => l2Good_c _ _) ?_
    rw [g2]
    refine dk ?_
    refine dtg 6 ?_
    refine dt 7 ?_
    refine dt 8 ?_
    refine ds 9 ?_
    refine ds 10 ?_
    refine ds 11 ?_
    refine ds 12 ?_
    refine ds 13 ?_
    refine ds 14 ?_
    refine ds 15 ?_
    refine ds 16 ?_
    refine dt 17 ?_
    refine dd ?_
    repeat (first | apply c_seq | apply c_reg | (apply wO; apply oc; rfl; exact ydE) | apply w_nil | apply n_cd | (apply wg_t; rfl; rfl) | (apply wg_f; rfl; rfl; rfl; rfl) | (apply wg_u; rfl; rfl; rfl) | (apply c_t; rfl) | (apply c_f; rfl) | apply c_skip | apply c_block | apply n_blk | apply c_exit | apply e_hit | apply e_cd | apply e_lp | (apply e_miss; rfl) | apply c_ret | (apply wO; apply o_box; rfl; rfl; rfl; intro _) | (apply wO; apply o_alloc; rfl; intro _) | (apply wO; apply o_st; rfl; rfl; rfl; (first | exact AggC.s | exact OneC.s); rfl; exact rplE; exact putE; rfl) | (apply wO; apply o_bs0; rfl; intro _) | (apply wO; apply o_bs; rfl; rfl; rfl; rfl; exact rptE; exact filE; intro _) | (apply wO; apply o_call; rfl; kernel_rfl; exact evsE))
    rw [drop_no (by unfold okDropItems; rw [g1, g2]; simp)]
    refine ret (_, _) trivial rfl
  obtain ⟨n0, n1⟩ := isSer_iff.1 g2
  have hgp := gp_bd x.trail n
  refine d_start [1] [] ?_
  refine dt 0 ?_
  refine dO 1 (by kernel_rfl) (by rw [List.getElem?_toArray]; rfl) ?_
  apply o_call; rfl; kernel_rfl; exact evsE
  refine cb (fun w st => l9Good_c _ x _ w (st.get (p := .isv ESendWindow (.agg #[.int .i64 x.trail, .int .i64 x.size, .slice a1 x.items.length c1]) x F) (by simp))) ?_
  rw [g1]
  refine dk ?_
  refine dt 2 ?_
  refine dt 3 ?_
  refine dtg 4 ?_
  refine d1g 5 ?_
  apply On.h
  apply o_call; rfl; kernel_rfl; exact evsE
  refine ce (fun w s => l2Good_c _ _) ?_
  rw [g2]
  refine dk ?_
  refine dtg 6 ?_
  refine dt 7 ?_
  refine dt 8 ?_
  refine dtg 9 ?_
  refine dtg 10 ?_
  refine dtg 11 ?_
  refine dtg 13 ?_
  refine dtg 14 ?_
  refine dtg 15 ?_
  refine d1g 12 ?_
  apply On.h
  apply o_call; rfl; kernel_rfl; exact evsE
  refine ce (fun w s => l2Gap_c _ _ _ (by omega) (by omega)) ?_
  refine dk ?_
  refine dtg 16 ?_
  refine dt 17 ?_
  refine dd ?_
  repeat (first | apply c_seq | apply c_reg | (apply wO; apply oc; rfl; exact ydE) | apply w_nil | apply n_cd | (apply wg_t; rfl; rfl) | (apply wg_f; rfl; rfl; rfl; rfl) | (apply wg_u; rfl; rfl; rfl) | (apply c_t; rfl) | (apply c_f; rfl) | apply c_skip | apply c_block | apply n_blk | apply c_exit | apply e_hit | apply e_cd | apply e_lp | (apply e_miss; rfl) | apply c_ret | (apply wO; apply o_box; rfl; rfl; rfl; intro _) | (apply wO; apply o_alloc; rfl; intro _) | (apply wO; apply o_st; rfl; rfl; rfl; (first | exact AggC.s | exact OneC.s); rfl; exact rplE; exact putE; rfl) | (apply wO; apply o_bs0; rfl; intro _) | (apply wO; apply o_bs; rfl; rfl; rfl; rfl; exact rptE; exact filE; intro _) | (apply wO; apply o_call; rfl; kernel_rfl; exact evsE))
  refine c_if rfl (fun h3 => ?_) (fun h3 => ?_)
  · repeat (first | apply c_seq | apply c_reg | (apply wO; apply oc; rfl; exact ydE) | apply w_nil | apply n_cd | (apply wg_t; rfl; rfl) | (apply wg_f; rfl; rfl; rfl; rfl) | (apply wg_u; rfl; rfl; rfl) | (apply c_t; rfl) | (apply c_f; rfl) | apply c_skip | apply c_block | apply n_blk | apply c_exit | apply e_hit | apply e_cd | apply e_lp | (apply e_miss; rfl) | apply c_ret | (apply wO; apply o_box; rfl; rfl; rfl; intro _) | (apply wO; apply o_alloc; rfl; intro _) | (apply wO; apply o_st; rfl; rfl; rfl; (first | exact AggC.s | exact OneC.s); rfl; exact rplE; exact putE; rfl) | (apply wO; apply o_bs0; rfl; intro _) | (apply wO; apply o_bs; rfl; rfl; rfl; rfl; exact rptE; exact filE; intro _) | (apply wO; apply o_call; rfl; kernel_rfl; exact evsE))
    rw [drop_no (by unfold okDropItems; rw [g1, g2, decide_eq_false (by omega)]; simp)]
    refine ret (_, _) trivial rfl
  have hr : resDropItems x n = (⟨aft x.trail (gp x.trail n), x.size, x.items.drop (gp x.trail n).toNat⟩, gp x.trail n, true) := by
    unfold resDropItems; rw [if_pos]; unfold okDropItems; rw [g1, g2, decide_eq_true (by omega)]; rfl
  rw [hr]
  repeat (first | apply c_seq | apply c_reg | (apply wO; apply oc; rfl; exact ydE) | apply w_nil | apply n_cd | (apply wg_t; rfl; rfl) | (apply wg_f; rfl; rfl; rfl; rfl) | (apply wg_u; rfl; rfl; rfl) | (apply c_t; rfl) | (apply c_f; rfl) | apply c_skip | apply c_block | apply n_blk | apply c_exit | apply e_hit | apply e_cd | apply e_lp | (apply e_miss; rfl) | apply c_ret | (apply wO; apply o_box; rfl; rfl; rfl; intro _) | (apply wO; apply o_alloc; rfl; intro _) | (apply wO; apply o_st; rfl; rfl; rfl; (first | exact AggC.s | exact OneC.s); rfl; exact rplE; exact putE; rfl) | (apply wO; apply o_bs0; rfl; intro _) | (apply wO; apply o_bs; rfl; rfl; rfl; rfl; exact rptE; exact filE; intro _) | (apply wO; apply o_call; rfl; kernel_rfl; exact evsE))
  refine ce (fun w s => l2Gap_c _ _ _ (by omega) (by omega)) ?_
  obtain ⟨k, hk⟩ : ∃ k : Nat, gp x.trail n = k := ⟨(gp x.trail n).toNat, by omega⟩
  rw [hk]
  repeat (first | apply c_seq | apply c_reg | (apply wO; apply oc; rfl; exact ydE) | apply w_nil | apply n_cd | (apply wg_t; rfl; rfl) | (apply wg_f; rfl; rfl; rfl; rfl) | (apply wg_u; rfl; rfl; rfl) | (apply c_t; rfl) | (apply c_f; rfl) | apply c_skip | apply c_block | apply n_blk | apply c_exit | apply e_hit | apply e_cd | apply e_lp | (apply e_miss; rfl) | apply c_ret | (apply wO; apply o_box; rfl; rfl; rfl; intro _) | (apply wO; apply o_alloc; rfl; intro _) | (apply wO; apply o_st; rfl; rfl; rfl; (first | exact AggC.s | exact OneC.s); rfl; exact rplE; exact putE; rfl) | (apply wO; apply o_bs0; rfl; intro _) | (apply wO; apply o_bs; rfl; rfl; rfl; rfl; exact rptE; exact filE; intro _) | (apply wO; apply o_call; rfl; kernel_rfl; exact evsE))
  refine cv (fun w st => l9Drop_c _ x _ k w (st.get (p := .isv ESendWindow (.agg #[.int .i64 x.trail, .int .i64 x.size, .slice a1 x.items.length c1]) x F) (by simp)) (by omega) (by omega) (isSer_iff.2 ⟨t0, t1⟩)) fun v F5 => ?_
  refine openOSendWindow ?_
  rintro a5 c5 F6 e5 l5
  rw [e5]
  repeat (first | apply c_seq | apply c_reg | (apply wO; apply oc; rfl; exact ydE) | apply w_nil | apply n_cd | (apply wg_t; rfl; rfl) | (apply wg_f; rfl; rfl; rfl; rfl) | (apply wg_u; rfl; rfl; rfl) | (apply c_t; rfl) | (apply c_f; rfl) | apply c_skip | apply c_block | apply n_blk | apply c_exit | apply e_hit | apply e_cd | apply e_lp | (apply e_miss; rfl) | apply c_ret | (apply wO; apply o_box; rfl; rfl; rfl; intro _) | (apply wO; apply o_alloc; rfl; intro _) | (apply wO; apply o_st; rfl; rfl; rfl; (first | exact AggC.s | exact OneC.s); rfl; exact rplE; exact putE; rfl) | (apply wO; apply o_bs0; rfl; intro _) | (apply wO; apply o_bs; rfl; rfl; rfl; rfl; exact rptE; exact filE; intro _) | (apply wO; apply o_call; rfl; kernel_rfl; exact evsE))
  refine closeOSendWindow ⟨aft x.trail k, x.size, x.items.drop k⟩ ?_
  refine ret (_, _) trivial rfl

structure HoS where
  k : Nat
  a : Option Addr
  c : Nat
  F : List Nat
end Go.Proofs.YtidephmobajikaaDoor
/- Sources: TrimSource of the reference. -/
namespace Go.Proofs.YtidephmobajikaaDoor
open Go.RowKit
end Go.Proofs.YtidephmobajikaaDoor
/- The type Packet of the exact laws: how it reads, how it is owned; the walks of its size, copy, equality, mark and held. Written by wip/gentypes.py. -/
namespace Go.Proofs.YtidephmobajikaaDoor
open Go.RowKit
structure Packet where
  kind : Int
  number : Int
  trail : Int
  lead : Int
  data : ByteArray
end Go.Proofs.YtidephmobajikaaDoor
/- slices.Delete on a slice of strings that one owns. -/
namespace Go.Proofs.YtidephmobajikaaDoor
open Go.RowKit Go.Shelf
end Go.Proofs.YtidephmobajikaaDoor
/- A reading of a struct goes over a change that leaves its blocks. Plain: no program in sight. -/
namespace Go.Proofs.YtidephmobajikaaDoor
open Go.RowKit
theorem IsV.frame {α : Type} {E : Elem α} {w w' : World} {v x F} (h : IsV E w v x F) (hF : ∀ b ∈ F, w'.heap[b]? = w.heap[b]?) : IsV E w' v x F := by
  obtain ⟨cs, hv, h⟩ := h; exact ⟨cs, hv, E.frame h hF⟩
end Go.Proofs.YtidephmobajikaaDoor
/- Walks: the lead of a window; an item pushed. -/
namespace Go.Proofs.YtidephmobajikaaDoor
open Go.RowKit
theorem SendWindow_lead_c (t z : Int) (a : Option Addr) (n c : Nat) (w : World) (h0 : 0 ≤ t) (h1 : t ≤ 65535) (hn : n ≤ 4294967296) :
    Calls Tryd.prog 106 #[.agg #[.int .i64 t, .int .i64 z, .slice a n c]] w fun e w' => e = .returned (.int .i64 (aft t n)) ∧ Below w.heap.size w w' := by
  go_enter Tryd.func106, Tryd.ntmps106
  go_wp2_with fail
  refine (after_c _ _ _ (by omega) (by omega)).mono ?_
  rintro e w' ⟨rfl, rfl⟩
  go_wp2_with fail
  go_ret
  exact ⟨rfl, (Below.refl _ _).alloc (Nat.le_refl _) _⟩
theorem l9Lead_c (t z : Int) (a : Option Addr) (n c : Nat) (w : World) (h0 : 0 ≤ t) (h1 : t ≤ 65535) (hn : n ≤ 4294967296) :
    Calls Tryd.prog 113 #[.agg #[.int .i64 t, .int .i64 z, .slice a n c]] w fun e w' => e = .returned (.int .i64 (aft t n)) ∧ Below w.heap.size w w' := by
  go_enter Tryd.func113, Tryd.ntmps113
  go_wp2_with fail
  refine (l2After_c _ _ _ (by omega) (by omega)).mono ?_
  rintro e w' ⟨rfl, rfl⟩
  go_wp2_with fail
  go_ret
  exact ⟨rfl, (Below.refl _ _).alloc (Nat.le_refl _) _⟩
end Go.Proofs.YtidephmobajikaaDoor
/- Walks: PushItem, the program's. -/
namespace Go.Proofs.YtidephmobajikaaDoor
open Go.RowKit
end Go.Proofs.YtidephmobajikaaDoor
/- Walks: the reference's push of an item. -/
namespace Go.Proofs.YtidephmobajikaaDoor
open Go.RowKit
end Go.Proofs.YtidephmobajikaaDoor
/- Sources: SendFrom of the program. -/
namespace Go.Proofs.YtidephmobajikaaDoor
open Go.RowKit
structure PuS where
  a : Option Addr
  c : Nat
  F : List Nat
def zPk : Packet := ⟨0, 0, 0, 0, ⟨#[]⟩⟩
end Go.Proofs.YtidephmobajikaaDoor
/- Walks: ResizeWindow, the program's and the reference's. -/
namespace Go.Proofs.YtidephmobajikaaDoor
open Go.RowKit
theorem l1Most_c (a b : Int) (w : World) : Calls Tryd.prog 121 #[.int .i64 a, .int .i64 b] w fun e w' => e = .returned (.int .i64 (max a b)) ∧ w = w' := by
  by_cases h : b < a
  · go_enter Tryd.func121, Tryd.ntmps121
    go_wp2
    go_ret
    exact ⟨ret_int (by omega), rfl⟩
  · go_enter Tryd.func121, Tryd.ntmps121
    go_wp2
    go_ret
    exact ⟨ret_int (by omega), rfl⟩
def okResizeWindow (x : SendWindow) (n : Int) : Bool := goodWin x && btw 1 n 6
/-- how many items go -/
def tooMany (x : SendWindow) (n : Int) : Nat := (max 0 ((x.items.length : Int) - n)).toNat
def resResizeWindow (x : SendWindow) (n : Int) : SendWindow × Bool := if okResizeWindow x n then (⟨aft x.trail (tooMany x n), n, x.items.drop (tooMany x n)⟩, true) else (⟨0, 0, []⟩, false)
def PI_ResizeWindow : SendWindow × Bool → World → Ending → World → Prop := fun (r0, r1) w e w' => ∃ u0 G0, e = .returned (.tuple #[u0, .bool r1]) ∧ IsV OSendWindow w' u0 r0 G0 ∧ (G0).Nodup ∧ (∀ b ∈ G0, w.heap.size ≤ b) ∧ Below w.heap.size w w'
set_option maxHeartbeats 3200000 in
theorem ResizeWindow_c (v0 : Value) (x0 : SendWindow) (F0 : List Nat) (x1 : Int) (w : World) (h0 : IsV ESendWindow w v0 x0 F0) :
    Calls Tryd.prog 34 #[v0, .int .i64 x1] w (PI_ResizeWindow (resResizeWindow x0 x1) w) := by
  have A0 := h0
  have lA0 := h0.lt
  obtain ⟨_, rfl, v0_1, rfl, h0_1⟩ := h0
  obtain ⟨a0_1, c0_1, rfl⟩ := h0_1.slice
  clear h0_1
  go_enter Tryd.func34, Tryd.ntmps34
  go_wp2_with fail
  have al : Below w.heap.size w ((w.alloc (.cells #[.int .i64 x0.trail, .int .i64 x0.size, .slice a0_1 x0.items.length c0_1] 26)).alloc (.cells #[.int .i64 0, .int .i64 0, .slice none 0 0] 26)) := by
    repeat refine Below.alloc ?_ (by simp <;> omega) _
    exact Below.refl _ _
  have n_R0 : Row ((w.alloc (.cells #[.int .i64 x0.trail, .int .i64 x0.size, .slice a0_1 x0.items.length c0_1] 26)).alloc (.cells #[.int .i64 0, .int .i64 0, .slice none 0 0] 26)) (w.heap.size) 26 [.int .i64 x0.trail, .int .i64 x0.size, .slice a0_1 x0.items.length c0_1] := by simp [row_alloc] <;> omega
  have n_RZ : Row ((w.alloc (.cells #[.int .i64 x0.trail, .int .i64 x0.size, .slice a0_1 x0.items.length c0_1] 26)).alloc (.cells #[.int .i64 0, .int .i64 0, .slice none 0 0] 26)) (w.heap.size + 1) 26 [.int .i64 0, .int .i64 0, .slice none 0 0] := by simp [row_alloc] <;> omega
  have hs_w1 : w.heap.size + 1 < ((w.alloc (.cells #[.int .i64 x0.trail, .int .i64 x0.size, .slice a0_1 x0.items.length c0_1] 26)).alloc (.cells #[.int .i64 0, .int .i64 0, .slice none 0 0] 26)).heap.size := by simp <;> omega
  replace A0 := A0.below al
  have hB := al
  generalize ((w.alloc (.cells #[.int .i64 x0.trail, .int .i64 x0.size, .slice a0_1 x0.items.length c0_1] 26)).alloc (.cells #[.int .i64 0, .int .i64 0, .slice none 0 0] 26)) = w1 at *
  have R0 := n_R0; clear n_R0
  have RZ := n_RZ; clear n_RZ
  clear al
  refine (IsValidSendWindow_c _ x0 F0 _ A0).mono ?_
  rintro e w2 ⟨rfl, hb⟩
  have hs_w2 := hb.size
  replace R0 := R0.below hb
  replace RZ := RZ.below hb
  replace A0 := A0.below hb
  replace hB := tr hB hb (Nat.le_refl _)
  clear hb
  cases g1 : goodWin x0
  · have hr : resResizeWindow x0 x1 = (⟨0, 0, []⟩, false) := by unfold resResizeWindow okResizeWindow; rw [g1]; simp
    replace hr := Lib.hid hr
    have c_R0 := R0.cells; have f_R0 := R0.frozens
    have c_RZ := RZ.cells; have f_RZ := RZ.frozens
    go_wp2_with fail
    refine bodyPost_ret (v := .tuple #[.agg #[.int .i64 0, .int .i64 0, .slice none 0 0], .bool false]) ?_ rfl ?_
    · simp [results, Tryd.results34, go_sem, c_RZ, f_RZ]
    · rw [hr.out]
      refine ⟨_, [], rfl, ⟨_, rfl, _, rfl, .inl ⟨rfl, rfl, rfl⟩⟩, by simp, by simp, ?_⟩
      repeat refine Below.setCell ?_ (by simp <;> omega) _
      exact hB
  have gg := goodWin_iff.1 g1
  obtain ⟨⟨t0, t1⟩, ⟨z0, z1⟩, hlen, -⟩ := gg
  have c_R0 := R0.cells; have f_R0 := R0.frozens
  have c_RZ := RZ.cells; have f_RZ := RZ.frozens
  go_wp2_with fail
  clear c_R0 f_R0 c_RZ f_RZ
  refine (within_c _ _ _ _).mono ?_
  rintro e w' ⟨rfl, rfl⟩
  cases g2 : btw 1 x1 6
  · have hr : resResizeWindow x0 x1 = (⟨0, 0, []⟩, false) := by unfold resResizeWindow okResizeWindow; rw [g2]; simp
    replace hr := Lib.hid hr
    have c_R0 := R0.cells; have f_R0 := R0.frozens
    have c_RZ := RZ.cells; have f_RZ := RZ.frozens
    go_wp2_with fail
    refine bodyPost_ret (v := .tuple #[.agg #[.int .i64 0, .int .i64 0, .slice none 0 0], .bool false]) ?_ rfl ?_
    · simp [results, Tryd.results34, go_sem, c_RZ, f_RZ]
    · rw [hr.out]
      refine ⟨_, [], rfl, ⟨_, rfl, _, rfl, .inl ⟨rfl, rfl, rfl⟩⟩, by simp, by simp, ?_⟩
      repeat refine Below.setCell ?_ (by simp <;> omega) _
      exact hB
  have gn : 1 ≤ x1 ∧ x1 ≤ 6 := by unfold btw at g2; simpa using g2
  obtain ⟨k, hk⟩ : ∃ k : Nat, k = tooMany x0 x1 := ⟨_, rfl⟩
  have hr : resResizeWindow x0 x1 = (⟨aft x0.trail k, x1, x0.items.drop k⟩, true) := by
    unfold resResizeWindow okResizeWindow
    rw [g1, g2, hk]; rfl
  have hk1 : max 0 ((x0.items.length : Int) - x1) = (k : Int) := by rw [hk]; unfold tooMany; omega
  have hk2 : k ≤ x0.items.length := by omega
  have hk3 : max 0 (IntKind.i64.wrap ((x0.items.length : Int) - x1)) = (k : Int) := by rw [IntKind.wrap_i64, ← hk1]; omega
  replace hr := Lib.hid hr
  replace hk1 := Lib.hid hk1
  replace hk3 := Lib.hid hk3
  clear hk
  have c_R0 := R0.cells; have f_R0 := R0.frozens
  have c_RZ := RZ.cells; have f_RZ := RZ.frozens
  go_wp2_with fail
  clear c_R0 f_R0 c_RZ f_RZ
  refine (SendWindow_clone_c _ x0 F0 _ A0 (by omega)).mono ?_
  rintro e w3 ⟨_, F3, rfl, ⟨_, rfl, v3, rfl, o3⟩, n3, g3, hb⟩
  have hs_w3 := hb.size
  replace R0 := R0.below hb
  replace RZ := RZ.below hb
  replace A0 := A0.below hb
  replace hB := tr hB hb (Nat.le_refl _)
  clear hb
  obtain ⟨a3, c3, rfl⟩ := o3.slice
  have l3 := o3.lt
  have c_R0 := R0.cells; have f_R0 := R0.frozens; have d_R0 := fun o => (R0.alloc o).cells; have e_R0 := fun o => (R0.alloc o).frozens
  go_wp2_with fail
  clear c_R0 f_R0 d_R0 e_R0
  have al : Below w3.heap.size w3 (w3.alloc (.cells #[.int .i64 x0.trail, .int .i64 x1, .slice a3 x0.items.length c3] 26)) := by
    repeat refine Below.alloc ?_ (by simp <;> omega) _
    exact Below.refl _ _
  have n_RO := Row.made w3 26 [.int .i64 x0.trail, .int .i64 x1, .slice a3 x0.items.length c3]
  have hs_w4 : w3.heap.size < (w3.alloc (.cells #[.int .i64 x0.trail, .int .i64 x1, .slice a3 x0.items.length c3] 26)).heap.size := by simp
  replace R0 := R0.below al
  replace RZ := RZ.below al
  replace A0 := A0.below al
  replace o3 := o3.below al
  replace hB := tr hB al (Nat.le_refl _)
  generalize (w3.alloc (.cells #[.int .i64 x0.trail, .int .i64 x1, .slice a3 x0.items.length c3] 26)) = w4 at *
  have RO := n_RO; clear n_RO
  clear al
  rw [hk1.out]
  refine (SendWindow_drop_c ⟨x0.trail, x1, x0.items⟩ k 26 w3.heap.size 0 [] [] F3 _ ⟨_, by simpa using RO, rfl, ⟨_, rfl, o3⟩, n3, fun hm => by have := l3 _ hm; omega⟩ hk2 (by show x0.items.length ≤ _; omega) (isSer_iff.2 ⟨t0, t1⟩)).mono ?_
  rintro e w5 ⟨⟨u, rfl⟩, F5, ⟨_, hr5, -, ⟨v5, rfl, o5⟩, n5, -⟩, hF5, K⟩
  obtain ⟨a5, c5, rfl⟩ := o5.slice
  have hF5' : ∀ b ∈ F5, w.heap.size + 1 < b := fun b hb => by
    have := RZ.lt
    rcases hF5 b hb with h | h
    · have := g3 b h; omega
    · omega
  have hs5 := K.size
  clear o3
  clear R0
  replace RZ := RZ.keepK K (fun hm => by
    rcases List.mem_cons.1 hm with h | h
    · omega
    · have := g3 _ h; omega)
  clear RO
  clear A0
  replace hB := hB.trans (K.below (B := w.heap.size) (by omega) (fun b hm => by
    rcases List.mem_cons.1 hm with h | h
    · omega
    · have := g3 _ h; omega))
  have r5 : Row w5 w3.heap.size 26 [.int .i64 (aft x0.trail k), .int .i64 x1, .slice a5 (x0.items.drop k).length c5] := by simpa using hr5
  clear K hr5
  replace o5 := Lib.hid o5
  have c_RZ := RZ.cells; have f_RZ := RZ.frozens
  have c_r5 := r5.cells; have f_r5 := r5.frozens
  go_wp2_with fail
  refine bodyPost_ret (v := .tuple #[.agg #[.int .i64 (aft x0.trail k), .int .i64 x1, .slice a5 (x0.items.length - k) c5], .bool true]) ?_ rfl ?_
  · simp [results, Tryd.results34, go_sem, c_RZ, f_RZ, c_r5]
  · rw [hr.out]
    refine ⟨_, F5, rfl, ⟨_, rfl, _, rfl, ?_⟩, n5, fun b hb => by have := hF5' b hb; omega, ?_⟩
    · repeat refine Ow.setFar ?_ (fun hm => by have := hF5' _ hm; simp at this) _
      simpa using o5.out
    · repeat refine Below.setCell ?_ (by simp <;> omega) _
      exact hB
end Go.Proofs.YtidephmobajikaaDoor
/- Send windows: what is pushed, held, answered, dropped; plain laws. -/
namespace Go.Proofs.YtidephmobajikaaDoor
open Go.RowKit
def leadW (x : SendWindow) : Int := aft x.trail x.items.length
def itemAt (x : SendWindow) (n : Int) : ByteArray := x.items.getD (gp x.trail n).toNat ⟨#[]⟩
def resLead (x : SendWindow) : Int × Bool := if goodWin x then (leadW x, true) else (0, false)
def okHeld (x : SendWindow) (n : Int) : Bool := goodWin x && isSer n && heldB x n
def resHeld (x : SendWindow) (n : Int) : ByteArray × Bool := if okHeld x n then (itemAt x n, true) else (⟨#[]⟩, false)
def statP (x : SendWindow) : Packet := ⟨5, x.trail, x.trail, leadW x, ⟨#[]⟩⟩
def resStatus (x : SendWindow) : Packet × Bool := if goodWin x then (statP x, true) else (zPk, false)
def goodPk (p : Packet) : Bool := btw 1 p.kind 5 && isSer p.number && isSer p.trail && isSer p.lead && itm p.data && decide (gp p.trail p.lead ≤ 32767) && (decide (p.data = ⟨#[]⟩) || decide (p.kind = 1) || decide (p.kind = 2))
def okAnswer (x : SendWindow) (p : Packet) : Bool := goodWin x && goodPk p && decide (p.kind = 3) && heldB x p.number
def ansP (x : SendWindow) (n : Int) : Packet := ⟨2, n, x.trail, leadW x, itemAt x n⟩
def resAnswer (x : SendWindow) (p : Packet) : Packet × Bool := if okAnswer x p then (ansP x p.number, true) else (zPk, false)
theorem leadW_bd (x : SendWindow) : 0 ≤ leadW x ∧ leadW x ≤ 65535 := aft_bd _ _
theorem answer_law {x : SendWindow} {p : Packet} (h : okAnswer x p = true) : okHeld x p.number = true ∧ goodPk (ansP x p.number) = true := by
  unfold okAnswer goodPk at h
  simp only [Bool.and_eq_true, decide_eq_true_eq] at h
  obtain ⟨⟨⟨hg, ⟨⟨⟨⟨⟨⟨-, hn⟩, -⟩, -⟩, -⟩, -⟩, -⟩⟩, -⟩, hh⟩ := h
  obtain ⟨⟨t0, t1⟩, ⟨z0, z1⟩, hl, hi⟩ := goodWin_iff.1 hg
  refine ⟨by unfold okHeld; rw [hg, hn, hh]; rfl, ?_⟩
  have hh' : gp x.trail p.number < (x.items.length : Int) := by simpa [heldB] using hh
  have b := gp_bd x.trail p.number
  have hlt : (gp x.trail p.number).toNat < x.items.length := by omega
  have hit : itm (itemAt x p.number) = true := by
    unfold itemAt
    rw [List.getD_eq_getElem?_getD, List.getElem?_eq_getElem hlt]
    exact List.all_eq_true.1 hi _ (List.getElem_mem hlt)
  have hgp : gp x.trail (leadW x) = (x.items.length : Nat) := by unfold leadW gp aft; omega
  unfold goodPk ansP
  dsimp only
  rw [hn, isSer_iff.2 ⟨t0, t1⟩, isSer_iff.2 (leadW_bd x), hit, hgp, decide_eq_true (by omega)]
  simp [btw]
theorem drop_law {x : SendWindow} {n : Int} (h : okDropItems x n = true) : goodWin x = true ∧ goodWin (resDropItems x n).1 = true ∧ leadW (resDropItems x n).1 = leadW x ∧ (resDropItems x n).1.trail = n ∧ ((resDropItems x n).1.items.length : Int) + (resDropItems x n).2.1 = x.items.length := by
  have h' := h
  unfold okDropItems at h
  simp only [Bool.and_eq_true, decide_eq_true_eq] at h
  obtain ⟨⟨hg, hn⟩, hle⟩ := h
  obtain ⟨⟨t0, t1⟩, ⟨z0, z1⟩, hl, hi⟩ := goodWin_iff.1 hg
  obtain ⟨n0, n1⟩ := isSer_iff.1 hn
  have b := gp_bd x.trail n
  have e : aft x.trail (gp x.trail n) = n := by unfold aft gp; omega
  unfold resDropItems
  rw [h']
  simp only [if_true]
  refine ⟨hg, ?_, ?_, e, ?_⟩
  · refine goodWin_iff.2 ⟨by dsimp only; rw [e]; exact ⟨n0, n1⟩, ⟨z0, z1⟩, by simp only [List.length_drop]; omega, ?_⟩
    dsimp only
    rw [List.all_eq_true] at hi ⊢
    exact fun z hz => hi z (List.mem_of_mem_drop hz)
  · unfold leadW
    simp only [List.length_drop]
    rw [e]
    unfold aft gp at *
    omega
  · simp only [List.length_drop]; omega
theorem resize_law {x : SendWindow} {n : Int} (h : okResizeWindow x n = true) : goodWin x = true ∧ goodWin (resResizeWindow x n).1 = true ∧ leadW (resResizeWindow x n).1 = leadW x ∧ ((resResizeWindow x n).1.items.length : Int) ≤ n := by
  have h' := h
  unfold okResizeWindow at h
  simp only [Bool.and_eq_true] at h
  obtain ⟨hg, hn⟩ := h
  obtain ⟨⟨t0, t1⟩, ⟨z0, z1⟩, hl, hi⟩ := goodWin_iff.1 hg
  have hn2 : 1 ≤ n ∧ n ≤ 6 := by simpa [btw] using hn
  have ht : (tooMany x n : Int) = max 0 ((x.items.length : Int) - n) := by unfold tooMany; omega
  unfold resResizeWindow
  rw [h']
  simp only [if_true]
  refine ⟨hg, ?_, ?_, ?_⟩
  · refine goodWin_iff.2 ⟨aft_bd _ _, hn2, by simp only [List.length_drop]; omega, ?_⟩
    dsimp only
    rw [List.all_eq_true] at hi ⊢
    exact fun z hz => hi z (List.mem_of_mem_drop hz)
  · unfold leadW
    simp only [List.length_drop]
    unfold aft
    omega
  · simp only [List.length_drop]; omega
end Go.Proofs.YtidephmobajikaaDoor
/- Structs of type Packet in a walk's state: opened, closed. -/
namespace Go.Proofs.YtidephmobajikaaDoor
open Go.RowKit
section
variable {c : Cx} {fr : Fr} {H : List Pc} {Φ : Gl}
end
end Go.Proofs.YtidephmobajikaaDoor
/- Sources: TickSource of the program. -/
namespace Go.Proofs.YtidephmobajikaaDoor
open Go.RowKit
set_option maxRecDepth 100000 in
theorem status_f (t z : Int) (a : Option Addr) (n c : Nat) (h0 : 0 ≤ t) (h1 : t ≤ 65535) (hn : n ≤ 4294967296) : Fn Tryd.prog 123 [.agg #[.int .i64 t, .int .i64 z, .slice a n c]] [] [] (fun (_ : Unit) => True) (fun _ => .agg #[.int .i64 5, .int .i64 t, .int .i64 t, .int .i64 (aft t n), .string ⟨#[]⟩]) (fun _ => []) := by
  refine enter Tryd.func123 rfl Tryd.ntmps123 fun w0 => ?_
  repeat (first | apply c_seq | apply c_reg | (apply wO; apply oc; rfl; exact ydE) | apply w_nil | apply n_cd | (apply wg_t; rfl; rfl) | (apply wg_f; rfl; rfl; rfl; rfl) | (apply wg_u; rfl; rfl; rfl) | (apply c_t; rfl) | (apply c_f; rfl) | apply c_skip | apply c_block | apply n_blk | apply c_exit | apply e_hit | apply e_cd | apply e_lp | (apply e_miss; rfl) | apply c_ret | (apply wO; apply o_box; rfl; rfl; rfl; intro _) | (apply wO; apply o_alloc; rfl; intro _) | (apply wO; apply o_st; rfl; rfl; rfl; (first | exact AggC.s | exact OneC.s); rfl; exact rplE; exact putE; rfl) | (apply wO; apply o_bs0; rfl; intro _) | (apply wO; apply o_bs; rfl; rfl; rfl; rfl; exact rptE; exact filE; intro _) | (apply wO; apply o_call; rfl; kernel_rfl; exact evsE))
  refine d_start [1] [7] ?_
  refine dt 0 ?_
  refine dt 1 ?_
  refine dt 2 ?_
  refine dt 3 ?_
  refine dt 4 ?_
  refine dO 5 (by kernel_rfl) (by rw [List.getElem?_toArray]; rfl) ?_
  apply o_call; rfl; kernel_rfl; exact evsE
  refine cb (fun w _ => SendWindow_lead_c t z a n c w h0 h1 hn) ?_
  refine dk ?_
  refine dt 6 ?_
  refine dO 7 (by kernel_rfl) (by rw [List.getElem?_toArray]; rfl) ?_
  apply o_st; rfl; rfl; rfl; (first | exact AggC.s | exact OneC.s); rfl; exact rplE; exact putE; rfl
  refine dkx ?_
  refine dd ?_
  repeat (first | apply c_seq | apply c_reg | (apply wO; apply oc; rfl; exact ydE) | apply w_nil | apply n_cd | (apply wg_t; rfl; rfl) | (apply wg_f; rfl; rfl; rfl; rfl) | (apply wg_u; rfl; rfl; rfl) | (apply c_t; rfl) | (apply c_f; rfl) | apply c_skip | apply c_block | apply n_blk | apply c_exit | apply e_hit | apply e_cd | apply e_lp | (apply e_miss; rfl) | apply c_ret | (apply wO; apply o_box; rfl; rfl; rfl; intro _) | (apply wO; apply o_alloc; rfl; intro _) | (apply wO; apply o_st; rfl; rfl; rfl; (first | exact AggC.s | exact OneC.s); rfl; exact rplE; exact putE; rfl) | (apply wO; apply o_bs0; rfl; intro _) | (apply wO; apply o_bs; rfl; rfl; rfl; rfl; exact rptE; exact filE; intro _) | (apply wO; apply o_call; rfl; kernel_rfl; exact evsE))
  refine ret () trivial rfl
set_option maxRecDepth 100000 in
theorem l9Status_f (t z : Int) (a : Option Addr) (n c : Nat) (h0 : 0 ≤ t) (h1 : t ≤ 65535) (hn : n ≤ 4294967296) : Fn Tryd.prog 124 [.agg #[.int .i64 t, .int .i64 z, .slice a n c]] [] [] (fun (_ : Unit) => True) (fun _ => .agg #[.int .i64 5, .int .i64 t, .int .i64 t, .int .i64 (aft t n), .string ⟨#[]⟩]) (fun _ => []) := by
  refine enter Tryd.func124 rfl Tryd.ntmps124 fun w0 => ?_
  repeat (first | apply c_seq | apply c_reg | (apply wO; apply oc; rfl; exact ydE) | apply w_nil | apply n_cd | (apply wg_t; rfl; rfl) | (apply wg_f; rfl; rfl; rfl; rfl) | (apply wg_u; rfl; rfl; rfl) | (apply c_t; rfl) | (apply c_f; rfl) | apply c_skip | apply c_block | apply n_blk | apply c_exit | apply e_hit | apply e_cd | apply e_lp | (apply e_miss; rfl) | apply c_ret | (apply wO; apply o_box; rfl; rfl; rfl; intro _) | (apply wO; apply o_alloc; rfl; intro _) | (apply wO; apply o_st; rfl; rfl; rfl; (first | exact AggC.s | exact OneC.s); rfl; exact rplE; exact putE; rfl) | (apply wO; apply o_bs0; rfl; intro _) | (apply wO; apply o_bs; rfl; rfl; rfl; rfl; exact rptE; exact filE; intro _) | (apply wO; apply o_call; rfl; kernel_rfl; exact evsE))
  refine d_start [1] [7] ?_
  refine dt 0 ?_
  refine dt 1 ?_
  refine dt 2 ?_
  refine dt 3 ?_
  refine dt 4 ?_
  refine dO 5 (by kernel_rfl) (by rw [List.getElem?_toArray]; rfl) ?_
  apply o_call; rfl; kernel_rfl; exact evsE
  refine cb (fun w _ => l9Lead_c t z a n c w h0 h1 hn) ?_
  refine dk ?_
  refine dt 6 ?_
  refine dO 7 (by kernel_rfl) (by rw [List.getElem?_toArray]; rfl) ?_
  apply o_st; rfl; rfl; rfl; (first | exact AggC.s | exact OneC.s); rfl; exact rplE; exact putE; rfl
  refine dkx ?_
  refine dd ?_
  repeat (first | apply c_seq | apply c_reg | (apply wO; apply oc; rfl; exact ydE) | apply w_nil | apply n_cd | (apply wg_t; rfl; rfl) | (apply wg_f; rfl; rfl; rfl; rfl) | (apply wg_u; rfl; rfl; rfl) | (apply c_t; rfl) | (apply c_f; rfl) | apply c_skip | apply c_block | apply n_blk | apply c_exit | apply e_hit | apply e_cd | apply e_lp | (apply e_miss; rfl) | apply c_ret | (apply wO; apply o_box; rfl; rfl; rfl; intro _) | (apply wO; apply o_alloc; rfl; intro _) | (apply wO; apply o_st; rfl; rfl; rfl; (first | exact AggC.s | exact OneC.s); rfl; exact rplE; exact putE; rfl) | (apply wO; apply o_bs0; rfl; intro _) | (apply wO; apply o_bs; rfl; rfl; rfl; rfl; exact rptE; exact filE; intro _) | (apply wO; apply o_call; rfl; kernel_rfl; exact evsE))
  refine ret () trivial rfl

structure TiS where
  a : Option Addr
  c : Nat
  a2 : Option Addr
  c2 : Nat
  F : List Nat
  ae : Option Addr
  ce : Nat
  Fe : List Nat
end Go.Proofs.YtidephmobajikaaDoor
/- Sources: TickSource of the reference. -/
namespace Go.Proofs.YtidephmobajikaaDoor
open Go.RowKit
end Go.Proofs.YtidephmobajikaaDoor
/- '[]byte' of a string, a byte stored, and back. -/
namespace Go.Proofs.YtidephmobajikaaDoor
open Go.RowKit
/-- a byte aS data -/
def EByte : Elem Int where
  sz := 1
  rep _ cs z F := cs = [.int .u8 z] ∧ 0 ≤ z ∧ z ≤ 255 ∧ F = []
  len h := by simp [h.1]
  lt h := by simp [h.2.2.2]
  frame h _ := h
/-- the bytes of l lie in block g -/
def ByteRow (w : World) (g : Nat) (l : List UInt8) : Prop :=
  g < w.heap.size ∧ ∀ j (hj : j < l.length), w.cell? ⟨g, j, none⟩ = some (.int .u8 (l[j].toNat : Int)) ∧ w.frozen? ⟨g, j, none⟩ = false
theorem ByteRow.below {w w' g l} (h : ByteRow w g l) (hb : Below w.heap.size w w') : ByteRow w' g l :=
  ⟨Nat.lt_of_lt_of_le h.1 hb.size, fun j hj => ⟨(hb.cell (p := ⟨g, j, none⟩) h.1).trans (h.2 j hj).1, (hb.frozen (p := ⟨g, j, none⟩) h.1).trans (h.2 j hj).2⟩⟩
theorem ByteRow.set {w g l} (h : ByteRow w g l) (k : Nat) (b : UInt8) (hk : k < l.length) : ByteRow (w.setCell ⟨g, k, none⟩ (.int .u8 (b.toNat : Int))) g (l.set k b) := by
  refine ⟨by simp [h.1], fun j hj => ?_⟩
  rw [List.length_set] at hj
  refine ⟨?_, ?_⟩
  · by_cases e : k = j
    · subst e
      rw [World.cell?_setCell_same _ _ _ (h.2 k hk).1]
      simp
    · rw [World.cell?_setCell_other _ _ _ _ (by intro q; cases q; exact e rfl), (h.2 j hj).1]
      simp [List.getElem_set, e]
  · rw [World.frozen?_setCell]; exact (h.2 j hj).2
end Go.Proofs.YtidephmobajikaaDoor
/- Walks: the reference's draws: a cursor over bytes. -/
namespace Go.Proofs.YtidephmobajikaaDoor
open Go.RowKit
section
variable {P : Program} {ops : Array Oper} {Q : Exit → Act → World → Prop} {md : Region.Mode} {S : World → Prop} {X : Nat → Bool}
end
theorem Sl.byte {w v} {xs : List Int} {F} (h : Sl EByte w v xs F) : xs.length ≤ maxLen ∧ ∀ k (hk : k < xs.length), (0 ≤ xs[k] ∧ xs[k] ≤ 255) ∧ ∃ b off, v = .slice (some ⟨b, off, none⟩) xs.length (match v with | .slice _ _ c => c | _ => 0) ∧ b ∈ F ∧ w.cell? ⟨b, off + k, none⟩ = some (.int .u8 xs[k]) := by
  obtain ⟨a, cap, rfl, hl, ⟨rfl, rfl, _⟩ | ⟨b, off, F', rfl, hne, rfl, hc⟩⟩ := h
  · exact ⟨by simp, fun k hk => by simp at hk⟩
  · refine ⟨by omega, fun k hk => ?_⟩
    obtain ⟨cs, F1, ⟨rfl, h0, h1, rfl⟩, hcell, _⟩ := hc.get k hk
    refine ⟨⟨h0, h1⟩, b, off, rfl, by simp, ?_⟩
    simpa [EByte] using hcell 0 (by decide)
/-- the bytes that a cursor reads -/
structure CuF where
  code : List Int
  a : Option Addr
  c : Nat
  bs : List Nat
/-- the cursor lies in block g; its bytes in F, below it; it has moved at most B steps -/
def Cur (B : Nat) (w : World) (g : Nat) (F : CuF) : Prop :=
  ∃ (k : Nat) (seed : Int), Row w g 121 [.slice F.a F.code.length F.c, .int .i64 k, .int .u64 seed] ∧ Sl EByte w (.slice F.a F.code.length F.c) F.code F.bs ∧ g ∉ F.bs ∧ k ≤ B ∧ 0 ≤ seed ∧ seed < 18446744073709551616
theorem Cur.keep {B w w' g F K} (h : Cur B w g F) (hk : Keep K w w') (h1 : g ∉ K) (h2 : ∀ b ∈ F.bs, b ∉ K) : Cur B w' g F := by
  obtain ⟨k, seed, R, S, hF, h3⟩ := h
  exact ⟨k, seed, R.keepK hk h1, S.keep hk h2 (by decide), hF, h3⟩
theorem Cur.below {B w w' g F} (h : Cur B w g F) (hb : Below w.heap.size w w') : Cur B w' g F := by
  obtain ⟨k, seed, R, S, hF, h3⟩ := h
  exact ⟨k, seed, R.below hb, S.below (by decide) hb, hF, h3⟩
theorem Cur.mono {B B' w g F} (h : Cur B w g F) (hb : B ≤ B') : Cur B' w g F := by
  obtain ⟨k, seed, R, S, hF, h3, h4⟩ := h
  exact ⟨k, seed, R, S, hF, by omega, h4⟩
theorem Cur.lt {B w g F} (h : Cur B w g F) : g < w.heap.size := by
  obtain ⟨k, seed, R, _⟩ := h; exact R.lt
def PNext (B g : Nat) (F : CuF) (w : World) (e : Ending) (w' : World) : Prop := ∃ r : Nat, e = .returned (.int .i64 r) ∧ r ≤ 255 ∧ Cur (B + 1) w' g F ∧ Keep [g] w w'
set_option maxHeartbeats 3200000 in
set_option maxRecDepth 100000 in
theorem next_c (B g : Nat) (F : CuF) (w : World) (h : Cur B w g F) (hB0 : B ≤ 1099511627776) :
    Calls Tryd.prog 196 #[.pointer (some ⟨g, 0, none⟩)] w (PNext B g F w) := by
  obtain ⟨code, a, c, F⟩ := F
  obtain ⟨k, seed, R, S, hF, h2, h3, h4⟩ := h
  dsimp only at R S hF
  have hl := S.byte.1
  unfold maxLen at hl
  have hlt := S.lt (by decide)
  by_cases hk : k < code.length
  · obtain ⟨⟨hz0, hz1⟩, b, off, hv, hbF, hcell⟩ := S.byte.2 k hk
    simp only [Value.slice.injEq] at hv
    obtain ⟨rfl, -, -⟩ := hv
    generalize code[k] = z at *
    have hbg : b ≠ g := fun e => hF (e ▸ hbF)
    have hcl := fun w' (hb : Below w.heap.size w w') => kc hb hcell
    replace hcl := Lib.hid hcl
    clear hcell
    have hB := Below.refl w.heap.size w
    go_enter Tryd.func196, Tryd.ntmps196
    go_wp2_with fail
    refine AnyX.start (S := (fun w' => w'.cell? ⟨g, 0, none⟩ = some (.slice (some ⟨b, off, none⟩) code.length c) ∧ w'.cell? ⟨g, 1, none⟩ = some (.int .i64 k) ∧ w'.cell? ⟨g, 2, none⟩ = some (.int .u64 seed) ∧ w'.cell? ⟨b, off + k, none⟩ = some (.int .u8 z))) (X := (fun _ => false)) (by kernel_rfl) ?_
    have al : Below w.heap.size w w.drew := belowDrewN (Below.refl _ _) 1
    have hs_w1 := al.size
    replace R := R.below al
    replace S := S.below (by decide) al
    replace hB := tr hB al (Nat.le_refl _)
    generalize w.drew = w1 at *
    clear al
    have hS : (fun w' => w'.cell? ⟨g, 0, none⟩ = some (.slice (some ⟨b, off, none⟩) code.length c) ∧ w'.cell? ⟨g, 1, none⟩ = some (.int .i64 k) ∧ w'.cell? ⟨g, 2, none⟩ = some (.int .u64 seed) ∧ w'.cell? ⟨b, off + k, none⟩ = some (.int .u8 z)) w1 := ⟨R.cells 0, R.cells 1, R.cells 2, hcl.out _ hB⟩
    refine AnyX.take (i := 0) (oi := _) (v := ?_) (by rw [List.getElem?_toArray]; rfl) (by kernel_rfl) (by kernel_rfl) (by kernel_rfl) (by kernel_rfl) (by kernel_rfl) (by exact fun _ _ _ h => h) (Or.inl ⟨by rfl, ?_⟩) hS ?_
    rotate_left
    · (intro wS hSw; (try dsimp only at hSw); go_simp; try with_reducible rfl)
    try simp only [Act.put, List.setIfInBounds_toArray, List.set_cons_zero, List.set_cons_succ]
    refine AnyX.take (i := 1) (oi := _) (v := ?_) (by rw [List.getElem?_toArray]; rfl) (by kernel_rfl) (by kernel_rfl) (by kernel_rfl) (by kernel_rfl) (by kernel_rfl) (by exact fun _ _ _ h => h) (Or.inl ⟨by rfl, ?_⟩) hS ?_
    rotate_left
    · (intro wS hSw; (try dsimp only at hSw); go_simp; try with_reducible rfl)
    try simp only [Act.put, List.setIfInBounds_toArray, List.set_cons_zero, List.set_cons_succ]
    refine AnyX.take (i := 2) (oi := _) (v := ?_) (by rw [List.getElem?_toArray]; rfl) (by kernel_rfl) (by kernel_rfl) (by kernel_rfl) (by kernel_rfl) (by kernel_rfl) (by exact fun _ _ _ h => h) (Or.inl ⟨by rfl, ?_⟩) hS ?_
    rotate_left
    · (intro wS hSw; (try dsimp only at hSw); go_simp; try with_reducible rfl)
    try simp only [Act.put, List.setIfInBounds_toArray, List.set_cons_zero, List.set_cons_succ]
    refine AnyX.take (i := 3) (oi := _) (v := ?_) (by rw [List.getElem?_toArray]; rfl) (by kernel_rfl) (by kernel_rfl) (by kernel_rfl) (by kernel_rfl) (by kernel_rfl) (by exact fun _ _ _ h => h) (Or.inl ⟨by rfl, ?_⟩) hS ?_
    rotate_left
    · (intro wS hSw; (try dsimp only at hSw); go_simp; try with_reducible rfl)
    try simp only [Act.put, List.setIfInBounds_toArray, List.set_cons_zero, List.set_cons_succ]
    refine AnyX.take (i := 4) (oi := _) (v := ?_) (by rw [List.getElem?_toArray]; rfl) (by kernel_rfl) (by kernel_rfl) (by kernel_rfl) (by kernel_rfl) (by kernel_rfl) (by exact fun _ _ _ h => h) (Or.inl ⟨by rfl, ?_⟩) hS ?_
    rotate_left
    · (intro wS hSw; (try dsimp only at hSw); go_simp; try with_reducible rfl)
    try simp only [Act.put, List.setIfInBounds_toArray, List.set_cons_zero, List.set_cons_succ]
    refine AnyX.take (i := 5) (oi := _) (v := ?_) (by rw [List.getElem?_toArray]; rfl) (by kernel_rfl) (by kernel_rfl) (by kernel_rfl) (by kernel_rfl) (by kernel_rfl) (by exact fun _ _ _ h => h) (Or.inl ⟨by rfl, ?_⟩) hS ?_
    rotate_left
    · (intro wS hSw; (try dsimp only at hSw); go_simp; try with_reducible rfl)
    try simp only [Act.put, List.setIfInBounds_toArray, List.set_cons_zero, List.set_cons_succ]
    refine AnyX.take (i := 6) (oi := _) (v := ?_) (by rw [List.getElem?_toArray]; rfl) (by kernel_rfl) (by kernel_rfl) (by kernel_rfl) (by kernel_rfl) (by kernel_rfl) (by exact fun _ _ _ h => h) (Or.inl ⟨by rfl, ?_⟩) hS ?_
    rotate_left
    · (intro wS hSw; (try dsimp only at hSw); go_simp; try with_reducible rfl)
    try simp only [Act.put, List.setIfInBounds_toArray, List.set_cons_zero, List.set_cons_succ]
    refine AnyX.take (i := 7) (oi := _) (v := ?_) (by rw [List.getElem?_toArray]; rfl) (by kernel_rfl) (by kernel_rfl) (by kernel_rfl) (by kernel_rfl) (by kernel_rfl) (by exact fun _ _ _ h => h) (Or.inl ⟨by rfl, ?_⟩) hS ?_
    rotate_left
    · (intro wS hSw; (try dsimp only at hSw); go_simp; try with_reducible rfl)
    try simp only [Act.put, List.setIfInBounds_toArray, List.set_cons_zero, List.set_cons_succ]
    refine AnyX.take (i := 8) (oi := _) (v := ?_) (by rw [List.getElem?_toArray]; rfl) (by kernel_rfl) (by kernel_rfl) (by kernel_rfl) (by kernel_rfl) (by kernel_rfl) (by exact fun _ _ _ h => h) (Or.inl ⟨by rfl, ?_⟩) hS ?_
    rotate_left
    · (intro wS hSw; (try dsimp only at hSw); go_simp; try with_reducible rfl)
    try simp only [Act.put, List.setIfInBounds_toArray, List.set_cons_zero, List.set_cons_succ]
    refine AnyX.take (i := 9) (oi := _) (v := ?_) (by rw [List.getElem?_toArray]; rfl) (by kernel_rfl) (by kernel_rfl) (by kernel_rfl) (by kernel_rfl) (by kernel_rfl) (by exact fun _ _ _ h => h) (Or.inl ⟨by rfl, ?_⟩) hS ?_
    rotate_left
    · (intro wS hSw; (try dsimp only at hSw); go_simp; try with_reducible rfl)
    try simp only [Act.put, List.setIfInBounds_toArray, List.set_cons_zero, List.set_cons_succ]
    refine AnyX.done (by kernel_rfl) ?_ _
    (try clear hS)
    have c_R := R.cells; have f_R := R.frozens
    go_wp2_with fail
    clear c_R f_R
    rename_i K0 hK0
    refine AnyX.start (S := (fun w' => w'.cell? ⟨g, 0, none⟩ = some (.slice (some ⟨b, off, none⟩) code.length c) ∧ w'.cell? ⟨g, 1, none⟩ = some (.int .i64 k) ∧ w'.cell? ⟨g, 2, none⟩ = some (.int .u64 seed) ∧ w'.cell? ⟨b, off + k, none⟩ = some (.int .u8 z))) (X := (fun _ => false)) (by kernel_rfl) ?_
    have al : Below w1.heap.size w1 w1.drew := belowDrewN (Below.refl _ _) 1
    have hs_w2 := al.size
    replace R := R.below al
    replace S := S.below (by decide) al
    replace hB := tr hB al (Nat.le_refl _)
    generalize w1.drew = w2 at *
    clear al
    have hS : (fun w' => w'.cell? ⟨g, 0, none⟩ = some (.slice (some ⟨b, off, none⟩) code.length c) ∧ w'.cell? ⟨g, 1, none⟩ = some (.int .i64 k) ∧ w'.cell? ⟨g, 2, none⟩ = some (.int .u64 seed) ∧ w'.cell? ⟨b, off + k, none⟩ = some (.int .u8 z)) w2 := ⟨R.cells 0, R.cells 1, R.cells 2, hcl.out _ hB⟩
    refine AnyX.take (i := 0) (oi := _) (v := ?_) (by rw [List.getElem?_toArray]; rfl) (by kernel_rfl) (by kernel_rfl) (by kernel_rfl) (by kernel_rfl) (by kernel_rfl) (by exact fun _ _ _ h => h) (Or.inl ⟨by rfl, ?_⟩) hS ?_
    rotate_left
    · (intro wS hSw; (try dsimp only at hSw); go_simp; try with_reducible rfl)
    try simp only [Act.put, List.setIfInBounds_toArray, List.set_cons_zero, List.set_cons_succ]
    refine AnyX.take (i := 1) (oi := _) (v := ?_) (by rw [List.getElem?_toArray]; rfl) (by kernel_rfl) (by kernel_rfl) (by kernel_rfl) (by kernel_rfl) (by kernel_rfl) (by exact fun _ _ _ h => h) (Or.inl ⟨by rfl, ?_⟩) hS ?_
    rotate_left
    · (intro wS hSw; (try dsimp only at hSw); go_simp; try with_reducible rfl)
    try simp only [Act.put, List.setIfInBounds_toArray, List.set_cons_zero, List.set_cons_succ]
    refine AnyX.take (i := 2) (oi := _) (v := ?_) (by rw [List.getElem?_toArray]; rfl) (by kernel_rfl) (by kernel_rfl) (by kernel_rfl) (by kernel_rfl) (by kernel_rfl) (by exact fun _ _ _ h => h) (Or.inl ⟨by rfl, ?_⟩) hS ?_
    rotate_left
    · (intro wS hSw; (try dsimp only at hSw); go_simp; try with_reducible rfl)
    try simp only [Act.put, List.setIfInBounds_toArray, List.set_cons_zero, List.set_cons_succ]
    refine AnyX.take (i := 3) (oi := _) (v := ?_) (by rw [List.getElem?_toArray]; rfl) (by kernel_rfl) (by kernel_rfl) (by kernel_rfl) (by kernel_rfl) (by kernel_rfl) (by exact fun _ _ _ h => h) (Or.inl ⟨by rfl, ?_⟩) hS ?_
    rotate_left
    · (intro wS hSw; (try dsimp only at hSw); go_simp; try with_reducible rfl)
    try simp only [Act.put, List.setIfInBounds_toArray, List.set_cons_zero, List.set_cons_succ]
    refine AnyX.take (i := 4) (oi := _) (v := ?_) (by rw [List.getElem?_toArray]; rfl) (by kernel_rfl) (by kernel_rfl) (by kernel_rfl) (by kernel_rfl) (by kernel_rfl) (by exact fun _ _ _ h => h) (Or.inl ⟨by rfl, ?_⟩) hS ?_
    rotate_left
    · (intro wS hSw; (try dsimp only at hSw); go_simp; try with_reducible rfl)
    try simp only [Act.put, List.setIfInBounds_toArray, List.set_cons_zero, List.set_cons_succ]
    refine AnyX.take (i := 5) (oi := _) (v := ?_) (by rw [List.getElem?_toArray]; rfl) (by kernel_rfl) (by kernel_rfl) (by kernel_rfl) (by kernel_rfl) (by kernel_rfl) (by exact fun _ _ _ h => h) (Or.inl ⟨by rfl, ?_⟩) hS ?_
    rotate_left
    · (intro wS hSw; (try dsimp only at hSw); go_simp; try with_reducible rfl)
    try simp only [Act.put, List.setIfInBounds_toArray, List.set_cons_zero, List.set_cons_succ]
    refine AnyX.take (i := 6) (oi := _) (v := ?_) (by rw [List.getElem?_toArray]; rfl) (by kernel_rfl) (by kernel_rfl) (by kernel_rfl) (by kernel_rfl) (by kernel_rfl) (by exact fun _ _ _ h => h) (Or.inl ⟨by rfl, ?_⟩) hS ?_
    rotate_left
    · (intro wS hSw; (try dsimp only at hSw); go_simp; try with_reducible rfl)
    try simp only [Act.put, List.setIfInBounds_toArray, List.set_cons_zero, List.set_cons_succ]
    refine AnyX.take (i := 7) (oi := _) (v := ?_) (by rw [List.getElem?_toArray]; rfl) (by kernel_rfl) (by kernel_rfl) (by kernel_rfl) (by kernel_rfl) (by kernel_rfl) (by exact fun _ _ _ h => h) (Or.inl ⟨by rfl, ?_⟩) hS ?_
    rotate_left
    · (intro wS hSw; (try dsimp only at hSw); go_simp; try with_reducible rfl)
    try simp only [Act.put, List.setIfInBounds_toArray, List.set_cons_zero, List.set_cons_succ]
    refine AnyX.take (i := 8) (oi := _) (v := ?_) (by rw [List.getElem?_toArray]; rfl) (by kernel_rfl) (by kernel_rfl) (by kernel_rfl) (by kernel_rfl) (by kernel_rfl) (by exact fun _ _ _ h => h) (Or.inl ⟨by rfl, ?_⟩) hS ?_
    rotate_left
    · (intro wS hSw; (try dsimp only at hSw); go_simp; try with_reducible rfl)
    try simp only [Act.put, List.setIfInBounds_toArray, List.set_cons_zero, List.set_cons_succ]
    refine AnyX.take (i := 9) (oi := _) (v := ?_) (by rw [List.getElem?_toArray]; rfl) (by kernel_rfl) (by kernel_rfl) (by kernel_rfl) (by kernel_rfl) (by kernel_rfl) (by exact fun _ _ _ h => h) (Or.inl ⟨by rfl, ?_⟩) hS ?_
    rotate_left
    · (intro wS hSw; (try dsimp only at hSw); go_simp; try with_reducible rfl)
    try simp only [Act.put, List.setIfInBounds_toArray, List.set_cons_zero, List.set_cons_succ]
    refine AnyX.take (i := 10) (oi := _) (v := ?_) (by rw [List.getElem?_toArray]; rfl) (by kernel_rfl) (by kernel_rfl) (by kernel_rfl) (by kernel_rfl) (by kernel_rfl) (by exact fun _ _ _ h => h) (Or.inl ⟨by rfl, ?_⟩) hS ?_
    rotate_left
    · (intro wS hSw; (try dsimp only at hSw); go_simp; try with_reducible rfl)
    try simp only [Act.put, List.setIfInBounds_toArray, List.set_cons_zero, List.set_cons_succ]
    refine AnyX.only (i := 11) (o := _) (by kernel_rfl) (by rw [List.getElem?_toArray]; rfl) (fun K hK => ?_)
    try go_simp
    clear hS
    have hS : (fun w' => w'.cell? ⟨g, 0, none⟩ = some (.slice (some ⟨b, off, none⟩) code.length c) ∧ w'.cell? ⟨g, 1, none⟩ = some (.int .i64 k) ∧ w'.cell? ⟨g, 2, none⟩ = some (.int .u64 seed) ∧ w'.cell? ⟨b, off + k, none⟩ = some (.int .u8 z)) w2 := ⟨R.cells 0, R.cells 1, R.cells 2, hcl.out _ hB⟩
    refine hK.out _ _ (fun _ => hS) ?_
    clear hK K
    try simp only [Act.put, List.setIfInBounds_toArray, List.set_cons_zero, List.set_cons_succ]
    refine AnyX.done (by kernel_rfl) ?_ _
    (try clear hS)
    refine hK0 _ _ ?_
    clear hK0 K0
    have c_R := R.cells; have f_R := R.frozens
    go_wp2_with fail
    clear c_R f_R
    have n_K : Keep [g] w ((w2.setCell ⟨g, 1, none⟩ (.int .i64 ((k : Int) + 1))).setCell ⟨g, 2, none⟩ (.int .u64 (IntKind.u64.wrap (IntKind.u64.wrap (IntKind.u64.wrap (seed * 6364136223846793005) + z) + 840840)))) := ((Keep.ofBelow hB).setCell (p := ⟨g, 1, none⟩) (by simp) _).setCell (p := ⟨g, 2, none⟩) (by simp) _
    have n_R : Row ((w2.setCell ⟨g, 1, none⟩ (.int .i64 ((k : Int) + 1))).setCell ⟨g, 2, none⟩ (.int .u64 (IntKind.u64.wrap (IntKind.u64.wrap (IntKind.u64.wrap (seed * 6364136223846793005) + z) + 840840)))) g 121 [.slice (some ⟨b, off, none⟩) code.length c, .int .i64 ((k + 1 : Nat) : Int), .int .u64 (IntKind.u64.wrap (IntKind.u64.wrap (IntKind.u64.wrap (seed * 6364136223846793005) + z) + 840840))] := by simpa using ((R.set 1 (.int .i64 ((k : Int) + 1))).set 2 (.int .u64 (IntKind.u64.wrap (IntKind.u64.wrap (IntKind.u64.wrap (seed * 6364136223846793005) + z) + 840840))))
    have n_S : Sl EByte ((w2.setCell ⟨g, 1, none⟩ (.int .i64 ((k : Int) + 1))).setCell ⟨g, 2, none⟩ (.int .u64 (IntKind.u64.wrap (IntKind.u64.wrap (IntKind.u64.wrap (seed * 6364136223846793005) + z) + 840840)))) (Value.slice (some ⟨b, off, none⟩) code.length c) code F := S.frame (fun b hb => by have : b ≠ g := fun e => hF (e ▸ hb); repeat rw [Below.heap_setCell _ _ _ _ (by simp <;> omega)])
    have hs0 : 0 ≤ (IntKind.u64.wrap (IntKind.u64.wrap (IntKind.u64.wrap (seed * 6364136223846793005) + z) + 840840)) ∧ (IntKind.u64.wrap (IntKind.u64.wrap (IntKind.u64.wrap (seed * 6364136223846793005) + z) + 840840)) < 18446744073709551616 := by rw [IntKind.wrap_u64]; omega
    clear R S hB
    generalize (IntKind.u64.wrap (IntKind.u64.wrap (IntKind.u64.wrap (seed * 6364136223846793005) + z) + 840840)) = sd at *
    obtain ⟨hs0, hs1⟩ := hs0
    generalize ((w2.setCell ⟨g, 1, none⟩ (.int .i64 ((k : Int) + 1))).setCell ⟨g, 2, none⟩ (.int .u64 sd)) = w3 at *
    have R := n_R; clear n_R
    have S := n_S; clear n_S
    rename_i K0 hK0
    refine AnyX.start (S := (fun w' => w'.cell? ⟨g, 0, none⟩ = some (.slice (some ⟨b, off, none⟩) code.length c) ∧ w'.cell? ⟨g, 1, none⟩ = some (.int .i64 ((k + 1 : Nat) : Int)) ∧ w'.cell? ⟨g, 2, none⟩ = some (.int .u64 sd))) (X := (fun _ => false)) (by kernel_rfl) ?_
    have al : Below w3.heap.size w3 w3.drew := belowDrewN (Below.refl _ _) 1
    have hs_w4 := al.size
    replace R := R.below al
    replace S := S.below (by decide) al
    have hB := al
    generalize w3.drew = w4 at *
    clear al
    have hS : (fun w' => w'.cell? ⟨g, 0, none⟩ = some (.slice (some ⟨b, off, none⟩) code.length c) ∧ w'.cell? ⟨g, 1, none⟩ = some (.int .i64 ((k + 1 : Nat) : Int)) ∧ w'.cell? ⟨g, 2, none⟩ = some (.int .u64 sd)) w4 := ⟨R.cells 0, R.cells 1, R.cells 2⟩
    refine AnyX.take (i := 0) (oi := _) (v := ?_) (by rw [List.getElem?_toArray]; rfl) (by kernel_rfl) (by kernel_rfl) (by kernel_rfl) (by kernel_rfl) (by kernel_rfl) (by exact fun _ _ _ h => h) (Or.inl ⟨by rfl, ?_⟩) hS ?_
    rotate_left
    · (intro wS hSw; (try dsimp only at hSw); go_simp; try with_reducible rfl)
    try simp only [Act.put, List.setIfInBounds_toArray, List.set_cons_zero, List.set_cons_succ]
    refine AnyX.take (i := 1) (oi := _) (v := ?_) (by rw [List.getElem?_toArray]; rfl) (by kernel_rfl) (by kernel_rfl) (by kernel_rfl) (by kernel_rfl) (by kernel_rfl) (by exact fun _ _ _ h => h) (Or.inl ⟨by rfl, ?_⟩) hS ?_
    rotate_left
    · (intro wS hSw; (try dsimp only at hSw); go_simp; try with_reducible rfl)
    try simp only [Act.put, List.setIfInBounds_toArray, List.set_cons_zero, List.set_cons_succ]
    refine AnyX.take (i := 2) (oi := _) (v := ?_) (by rw [List.getElem?_toArray]; rfl) (by kernel_rfl) (by kernel_rfl) (by kernel_rfl) (by kernel_rfl) (by kernel_rfl) (by exact fun _ _ _ h => h) (Or.inl ⟨by rfl, ?_⟩) hS ?_
    rotate_left
    · (intro wS hSw; (try dsimp only at hSw); go_simp; try with_reducible rfl)
    try simp only [Act.put, List.setIfInBounds_toArray, List.set_cons_zero, List.set_cons_succ]
    refine AnyX.take (i := 3) (oi := _) (v := ?_) (by rw [List.getElem?_toArray]; rfl) (by kernel_rfl) (by kernel_rfl) (by kernel_rfl) (by kernel_rfl) (by kernel_rfl) (by exact fun _ _ _ h => h) (Or.inl ⟨by rfl, ?_⟩) hS ?_
    rotate_left
    · (intro wS hSw; (try dsimp only at hSw); go_simp; try with_reducible rfl)
    try simp only [Act.put, List.setIfInBounds_toArray, List.set_cons_zero, List.set_cons_succ]
    refine AnyX.take (i := 4) (oi := _) (v := ?_) (by rw [List.getElem?_toArray]; rfl) (by kernel_rfl) (by kernel_rfl) (by kernel_rfl) (by kernel_rfl) (by kernel_rfl) (by exact fun _ _ _ h => h) (Or.inl ⟨by rfl, ?_⟩) hS ?_
    rotate_left
    · (intro wS hSw; (try dsimp only at hSw); go_simp; try with_reducible rfl)
    try simp only [Act.put, List.setIfInBounds_toArray, List.set_cons_zero, List.set_cons_succ]
    refine AnyX.take (i := 5) (oi := _) (v := ?_) (by rw [List.getElem?_toArray]; rfl) (by kernel_rfl) (by kernel_rfl) (by kernel_rfl) (by kernel_rfl) (by kernel_rfl) (by exact fun _ _ _ h => h) (Or.inl ⟨by rfl, ?_⟩) hS ?_
    rotate_left
    · (intro wS hSw; (try dsimp only at hSw); go_simp; try with_reducible rfl)
    try simp only [Act.put, List.setIfInBounds_toArray, List.set_cons_zero, List.set_cons_succ]
    refine AnyX.take (i := 6) (oi := _) (v := ?_) (by rw [List.getElem?_toArray]; rfl) (by kernel_rfl) (by kernel_rfl) (by kernel_rfl) (by kernel_rfl) (by kernel_rfl) (by exact fun _ _ _ h => h) (Or.inl ⟨by rfl, ?_⟩) hS ?_
    rotate_left
    · (intro wS hSw; (try dsimp only at hSw); go_simp; try with_reducible rfl)
    try simp only [Act.put, List.setIfInBounds_toArray, List.set_cons_zero, List.set_cons_succ]
    refine AnyX.take (i := 7) (oi := _) (v := ?_) (by rw [List.getElem?_toArray]; rfl) (by kernel_rfl) (by kernel_rfl) (by kernel_rfl) (by kernel_rfl) (by kernel_rfl) (by exact fun _ _ _ h => h) (Or.inl ⟨by rfl, ?_⟩) hS ?_
    rotate_left
    · (intro wS hSw; (try dsimp only at hSw); go_simp; try with_reducible rfl)
    try simp only [Act.put, List.setIfInBounds_toArray, List.set_cons_zero, List.set_cons_succ]
    refine AnyX.take (i := 8) (oi := _) (v := ?_) (by rw [List.getElem?_toArray]; rfl) (by kernel_rfl) (by kernel_rfl) (by kernel_rfl) (by kernel_rfl) (by kernel_rfl) (by exact fun _ _ _ h => h) (Or.inl ⟨by rfl, ?_⟩) hS ?_
    rotate_left
    · (intro wS hSw; (try dsimp only at hSw); go_simp; try with_reducible rfl)
    try simp only [Act.put, List.setIfInBounds_toArray, List.set_cons_zero, List.set_cons_succ]
    refine AnyX.take (i := 9) (oi := _) (v := ?_) (by rw [List.getElem?_toArray]; rfl) (by kernel_rfl) (by kernel_rfl) (by kernel_rfl) (by kernel_rfl) (by kernel_rfl) (by exact fun _ _ _ h => h) (Or.inl ⟨by rfl, ?_⟩) hS ?_
    rotate_left
    · (intro wS hSw; (try dsimp only at hSw); go_simp; try with_reducible rfl)
    try simp only [Act.put, List.setIfInBounds_toArray, List.set_cons_zero, List.set_cons_succ]
    refine AnyX.done (by kernel_rfl) ?_ _
    (try clear hS)
    refine hK0 _ _ ?_
    clear hK0 K0
    have n_K2 := n_K.trans (Keep.ofBelow hB)
    have c_R := R.cells; have f_R := R.frozens
    go_wp2_with fail
    refine bodyPost_ret (v := .int .i64 (IntKind.i64.wrap z)) ?_ rfl ?_
    · simp [results, Tryd.results196, go_sem]
    · refine ⟨z.toNat, ?_, by omega, ⟨k + 1, sd, R, S, hF, by omega, hs0, hs1⟩, n_K2⟩
      rw [show IntKind.i64.wrap z = ((z.toNat : Nat) : Int) from by rw [IntKind.wrap_i64]; omega]
  · have hB := Below.refl w.heap.size w
    go_enter Tryd.func196, Tryd.ntmps196
    go_wp2_with fail
    refine AnyX.start (S := (fun w' => w'.cell? ⟨g, 0, none⟩ = some (.slice a code.length c) ∧ w'.cell? ⟨g, 1, none⟩ = some (.int .i64 k) ∧ w'.cell? ⟨g, 2, none⟩ = some (.int .u64 seed))) (X := (fun _ => false)) (by kernel_rfl) ?_
    have al : Below w.heap.size w w.drew := belowDrewN (Below.refl _ _) 1
    have hs_w5 := al.size
    replace R := R.below al
    replace S := S.below (by decide) al
    replace hB := tr hB al (Nat.le_refl _)
    generalize w.drew = w5 at *
    clear al
    have hS : (fun w' => w'.cell? ⟨g, 0, none⟩ = some (.slice a code.length c) ∧ w'.cell? ⟨g, 1, none⟩ = some (.int .i64 k) ∧ w'.cell? ⟨g, 2, none⟩ = some (.int .u64 seed)) w5 := ⟨R.cells 0, R.cells 1, R.cells 2⟩
    refine AnyX.take (i := 0) (oi := _) (v := ?_) (by rw [List.getElem?_toArray]; rfl) (by kernel_rfl) (by kernel_rfl) (by kernel_rfl) (by kernel_rfl) (by kernel_rfl) (by exact fun _ _ _ h => h) (Or.inl ⟨by rfl, ?_⟩) hS ?_
    rotate_left
    · (intro wS hSw; (try dsimp only at hSw); go_simp; try with_reducible rfl)
    try simp only [Act.put, List.setIfInBounds_toArray, List.set_cons_zero, List.set_cons_succ]
    refine AnyX.take (i := 1) (oi := _) (v := ?_) (by rw [List.getElem?_toArray]; rfl) (by kernel_rfl) (by kernel_rfl) (by kernel_rfl) (by kernel_rfl) (by kernel_rfl) (by exact fun _ _ _ h => h) (Or.inl ⟨by rfl, ?_⟩) hS ?_
    rotate_left
    · (intro wS hSw; (try dsimp only at hSw); go_simp; try with_reducible rfl)
    try simp only [Act.put, List.setIfInBounds_toArray, List.set_cons_zero, List.set_cons_succ]
    refine AnyX.take (i := 2) (oi := _) (v := ?_) (by rw [List.getElem?_toArray]; rfl) (by kernel_rfl) (by kernel_rfl) (by kernel_rfl) (by kernel_rfl) (by kernel_rfl) (by exact fun _ _ _ h => h) (Or.inl ⟨by rfl, ?_⟩) hS ?_
    rotate_left
    · (intro wS hSw; (try dsimp only at hSw); go_simp; try with_reducible rfl)
    try simp only [Act.put, List.setIfInBounds_toArray, List.set_cons_zero, List.set_cons_succ]
    refine AnyX.take (i := 3) (oi := _) (v := ?_) (by rw [List.getElem?_toArray]; rfl) (by kernel_rfl) (by kernel_rfl) (by kernel_rfl) (by kernel_rfl) (by kernel_rfl) (by exact fun _ _ _ h => h) (Or.inl ⟨by rfl, ?_⟩) hS ?_
    rotate_left
    · (intro wS hSw; (try dsimp only at hSw); go_simp; try with_reducible rfl)
    try simp only [Act.put, List.setIfInBounds_toArray, List.set_cons_zero, List.set_cons_succ]
    refine AnyX.take (i := 4) (oi := _) (v := ?_) (by rw [List.getElem?_toArray]; rfl) (by kernel_rfl) (by kernel_rfl) (by kernel_rfl) (by kernel_rfl) (by kernel_rfl) (by exact fun _ _ _ h => h) (Or.inl ⟨by rfl, ?_⟩) hS ?_
    rotate_left
    · (intro wS hSw; (try dsimp only at hSw); go_simp; try with_reducible rfl)
    try simp only [Act.put, List.setIfInBounds_toArray, List.set_cons_zero, List.set_cons_succ]
    refine AnyX.take (i := 5) (oi := _) (v := ?_) (by rw [List.getElem?_toArray]; rfl) (by kernel_rfl) (by kernel_rfl) (by kernel_rfl) (by kernel_rfl) (by kernel_rfl) (by exact fun _ _ _ h => h) (Or.inl ⟨by rfl, ?_⟩) hS ?_
    rotate_left
    · (intro wS hSw; (try dsimp only at hSw); go_simp; try with_reducible rfl)
    try simp only [Act.put, List.setIfInBounds_toArray, List.set_cons_zero, List.set_cons_succ]
    refine AnyX.take (i := 6) (oi := _) (v := ?_) (by rw [List.getElem?_toArray]; rfl) (by kernel_rfl) (by kernel_rfl) (by kernel_rfl) (by kernel_rfl) (by kernel_rfl) (by exact fun _ _ _ h => h) (Or.inl ⟨by rfl, ?_⟩) hS ?_
    rotate_left
    · (intro wS hSw; (try dsimp only at hSw); go_simp; try with_reducible rfl)
    try simp only [Act.put, List.setIfInBounds_toArray, List.set_cons_zero, List.set_cons_succ]
    refine AnyX.take (i := 7) (oi := _) (v := ?_) (by rw [List.getElem?_toArray]; rfl) (by kernel_rfl) (by kernel_rfl) (by kernel_rfl) (by kernel_rfl) (by kernel_rfl) (by exact fun _ _ _ h => h) (Or.inl ⟨by rfl, ?_⟩) hS ?_
    rotate_left
    · (intro wS hSw; (try dsimp only at hSw); go_simp; try with_reducible rfl)
    try simp only [Act.put, List.setIfInBounds_toArray, List.set_cons_zero, List.set_cons_succ]
    refine AnyX.take (i := 8) (oi := _) (v := ?_) (by rw [List.getElem?_toArray]; rfl) (by kernel_rfl) (by kernel_rfl) (by kernel_rfl) (by kernel_rfl) (by kernel_rfl) (by exact fun _ _ _ h => h) (Or.inl ⟨by rfl, ?_⟩) hS ?_
    rotate_left
    · (intro wS hSw; (try dsimp only at hSw); go_simp; try with_reducible rfl)
    try simp only [Act.put, List.setIfInBounds_toArray, List.set_cons_zero, List.set_cons_succ]
    refine AnyX.take (i := 9) (oi := _) (v := ?_) (by rw [List.getElem?_toArray]; rfl) (by kernel_rfl) (by kernel_rfl) (by kernel_rfl) (by kernel_rfl) (by kernel_rfl) (by exact fun _ _ _ h => h) (Or.inl ⟨by rfl, ?_⟩) hS ?_
    rotate_left
    · (intro wS hSw; (try dsimp only at hSw); go_simp; try with_reducible rfl)
    try simp only [Act.put, List.setIfInBounds_toArray, List.set_cons_zero, List.set_cons_succ]
    refine AnyX.done (by kernel_rfl) ?_ _
    (try clear hS)
    have c_R := R.cells; have f_R := R.frozens
    go_wp2_with fail
    clear c_R f_R
    have n_K : Keep [g] w ((w5.setCell ⟨g, 1, none⟩ (.int .i64 ((k : Int) + 1))).setCell ⟨g, 2, none⟩ (.int .u64 (IntKind.u64.wrap (IntKind.u64.wrap (IntKind.u64.wrap (seed * 6364136223846793005)) + 840840)))) := ((Keep.ofBelow hB).setCell (p := ⟨g, 1, none⟩) (by simp) _).setCell (p := ⟨g, 2, none⟩) (by simp) _
    have n_R : Row ((w5.setCell ⟨g, 1, none⟩ (.int .i64 ((k : Int) + 1))).setCell ⟨g, 2, none⟩ (.int .u64 (IntKind.u64.wrap (IntKind.u64.wrap (IntKind.u64.wrap (seed * 6364136223846793005)) + 840840)))) g 121 [.slice a code.length c, .int .i64 ((k + 1 : Nat) : Int), .int .u64 (IntKind.u64.wrap (IntKind.u64.wrap (IntKind.u64.wrap (seed * 6364136223846793005)) + 840840))] := by simpa using ((R.set 1 (.int .i64 ((k : Int) + 1))).set 2 (.int .u64 (IntKind.u64.wrap (IntKind.u64.wrap (IntKind.u64.wrap (seed * 6364136223846793005)) + 840840))))
    have n_S : Sl EByte ((w5.setCell ⟨g, 1, none⟩ (.int .i64 ((k : Int) + 1))).setCell ⟨g, 2, none⟩ (.int .u64 (IntKind.u64.wrap (IntKind.u64.wrap (IntKind.u64.wrap (seed * 6364136223846793005)) + 840840)))) (Value.slice a code.length c) code F := S.frame (fun b hb => by have : b ≠ g := fun e => hF (e ▸ hb); repeat rw [Below.heap_setCell _ _ _ _ (by simp <;> omega)])
    have hs0 : 0 ≤ (IntKind.u64.wrap (IntKind.u64.wrap (IntKind.u64.wrap (seed * 6364136223846793005)) + 840840)) ∧ (IntKind.u64.wrap (IntKind.u64.wrap (IntKind.u64.wrap (seed * 6364136223846793005)) + 840840)) < 18446744073709551616 := by rw [IntKind.wrap_u64]; omega
    clear R S hB
    generalize (IntKind.u64.wrap (IntKind.u64.wrap (IntKind.u64.wrap (seed * 6364136223846793005)) + 840840)) = sd at *
    obtain ⟨hs0, hs1⟩ := hs0
    generalize ((w5.setCell ⟨g, 1, none⟩ (.int .i64 ((k : Int) + 1))).setCell ⟨g, 2, none⟩ (.int .u64 sd)) = w6 at *
    have R := n_R; clear n_R
    have S := n_S; clear n_S
    rename_i K0 hK0
    refine AnyX.start (S := (fun w' => w'.cell? ⟨g, 0, none⟩ = some (.slice a code.length c) ∧ w'.cell? ⟨g, 1, none⟩ = some (.int .i64 ((k + 1 : Nat) : Int)) ∧ w'.cell? ⟨g, 2, none⟩ = some (.int .u64 sd))) (X := (fun _ => false)) (by kernel_rfl) ?_
    have al : Below w6.heap.size w6 w6.drew := belowDrewN (Below.refl _ _) 1
    have hs_w7 := al.size
    replace R := R.below al
    replace S := S.below (by decide) al
    have hB := al
    generalize w6.drew = w7 at *
    clear al
    have hS : (fun w' => w'.cell? ⟨g, 0, none⟩ = some (.slice a code.length c) ∧ w'.cell? ⟨g, 1, none⟩ = some (.int .i64 ((k + 1 : Nat) : Int)) ∧ w'.cell? ⟨g, 2, none⟩ = some (.int .u64 sd)) w7 := ⟨R.cells 0, R.cells 1, R.cells 2⟩
    refine AnyX.take (i := 0) (oi := _) (v := ?_) (by rw [List.getElem?_toArray]; rfl) (by kernel_rfl) (by kernel_rfl) (by kernel_rfl) (by kernel_rfl) (by kernel_rfl) (by exact fun _ _ _ h => h) (Or.inl ⟨by rfl, ?_⟩) hS ?_
    rotate_left
    · (intro wS hSw; (try dsimp only at hSw); go_simp; try with_reducible rfl)
    try simp only [Act.put, List.setIfInBounds_toArray, List.set_cons_zero, List.set_cons_succ]
    refine AnyX.take (i := 1) (oi := _) (v := ?_) (by rw [List.getElem?_toArray]; rfl) (by kernel_rfl) (by kernel_rfl) (by kernel_rfl) (by kernel_rfl) (by kernel_rfl) (by exact fun _ _ _ h => h) (Or.inl ⟨by rfl, ?_⟩) hS ?_
    rotate_left
    · (intro wS hSw; (try dsimp only at hSw); go_simp; try with_reducible rfl)
    try simp only [Act.put, List.setIfInBounds_toArray, List.set_cons_zero, List.set_cons_succ]
    refine AnyX.take (i := 2) (oi := _) (v := ?_) (by rw [List.getElem?_toArray]; rfl) (by kernel_rfl) (by kernel_rfl) (by kernel_rfl) (by kernel_rfl) (by kernel_rfl) (by exact fun _ _ _ h => h) (Or.inl ⟨by rfl, ?_⟩) hS ?_
    rotate_left
    · (intro wS hSw; (try dsimp only at hSw); go_simp; try with_reducible rfl)
    try simp only [Act.put, List.setIfInBounds_toArray, List.set_cons_zero, List.set_cons_succ]
    refine AnyX.take (i := 3) (oi := _) (v := ?_) (by rw [List.getElem?_toArray]; rfl) (by kernel_rfl) (by kernel_rfl) (by kernel_rfl) (by kernel_rfl) (by kernel_rfl) (by exact fun _ _ _ h => h) (Or.inl ⟨by rfl, ?_⟩) hS ?_
    rotate_left
    · (intro wS hSw; (try dsimp only at hSw); go_simp; try with_reducible rfl)
    try simp only [Act.put, List.setIfInBounds_toArray, List.set_cons_zero, List.set_cons_succ]
    refine AnyX.take (i := 4) (oi := _) (v := ?_) (by rw [List.getElem?_toArray]; rfl) (by kernel_rfl) (by kernel_rfl) (by kernel_rfl) (by kernel_rfl) (by kernel_rfl) (by exact fun _ _ _ h => h) (Or.inl ⟨by rfl, ?_⟩) hS ?_
    rotate_left
    · (intro wS hSw; (try dsimp only at hSw); go_simp; try with_reducible rfl)
    try simp only [Act.put, List.setIfInBounds_toArray, List.set_cons_zero, List.set_cons_succ]
    refine AnyX.take (i := 5) (oi := _) (v := ?_) (by rw [List.getElem?_toArray]; rfl) (by kernel_rfl) (by kernel_rfl) (by kernel_rfl) (by kernel_rfl) (by kernel_rfl) (by exact fun _ _ _ h => h) (Or.inl ⟨by rfl, ?_⟩) hS ?_
    rotate_left
    · (intro wS hSw; (try dsimp only at hSw); go_simp; try with_reducible rfl)
    try simp only [Act.put, List.setIfInBounds_toArray, List.set_cons_zero, List.set_cons_succ]
    refine AnyX.take (i := 6) (oi := _) (v := ?_) (by rw [List.getElem?_toArray]; rfl) (by kernel_rfl) (by kernel_rfl) (by kernel_rfl) (by kernel_rfl) (by kernel_rfl) (by exact fun _ _ _ h => h) (Or.inl ⟨by rfl, ?_⟩) hS ?_
    rotate_left
    · (intro wS hSw; (try dsimp only at hSw); go_simp; try with_reducible rfl)
    try simp only [Act.put, List.setIfInBounds_toArray, List.set_cons_zero, List.set_cons_succ]
    refine AnyX.take (i := 7) (oi := _) (v := ?_) (by rw [List.getElem?_toArray]; rfl) (by kernel_rfl) (by kernel_rfl) (by kernel_rfl) (by kernel_rfl) (by kernel_rfl) (by exact fun _ _ _ h => h) (Or.inl ⟨by rfl, ?_⟩) hS ?_
    rotate_left
    · (intro wS hSw; (try dsimp only at hSw); go_simp; try with_reducible rfl)
    try simp only [Act.put, List.setIfInBounds_toArray, List.set_cons_zero, List.set_cons_succ]
    refine AnyX.take (i := 8) (oi := _) (v := ?_) (by rw [List.getElem?_toArray]; rfl) (by kernel_rfl) (by kernel_rfl) (by kernel_rfl) (by kernel_rfl) (by kernel_rfl) (by exact fun _ _ _ h => h) (Or.inl ⟨by rfl, ?_⟩) hS ?_
    rotate_left
    · (intro wS hSw; (try dsimp only at hSw); go_simp; try with_reducible rfl)
    try simp only [Act.put, List.setIfInBounds_toArray, List.set_cons_zero, List.set_cons_succ]
    refine AnyX.take (i := 9) (oi := _) (v := ?_) (by rw [List.getElem?_toArray]; rfl) (by kernel_rfl) (by kernel_rfl) (by kernel_rfl) (by kernel_rfl) (by kernel_rfl) (by exact fun _ _ _ h => h) (Or.inl ⟨by rfl, ?_⟩) hS ?_
    rotate_left
    · (intro wS hSw; (try dsimp only at hSw); go_simp; try with_reducible rfl)
    try simp only [Act.put, List.setIfInBounds_toArray, List.set_cons_zero, List.set_cons_succ]
    refine AnyX.done (by kernel_rfl) ?_ _
    (try clear hS)
    refine hK0 _ _ ?_
    clear hK0 K0
    have n_K2 := n_K.trans (Keep.ofBelow hB)
    obtain ⟨q, hq, hq2⟩ : ∃ q : Nat, bits BinOp.and IntKind.u64 (sd / 1099511627776) 255 = (q : Int) ∧ q ≤ 255 := by
      refine ⟨(sd / 1099511627776).toNat &&& 255, ?_, Nat.and_le_right⟩
      rw [← bits_and_u64_nat _ _ (by omega) (by omega)]
      congr 1; omega
    have c_R := R.cells; have f_R := R.frozens
    go_wp2_with fail
    refine bodyPost_ret (v := .int .i64 (q : Int)) ?_ rfl ?_
    · simp [results, Tryd.results196, go_sem, hq]
    · exact ⟨q, rfl, hq2, ⟨k + 1, sd, R, S, hF, by omega, hs0, hs1⟩, n_K2⟩
def PPick (B g : Nat) (F : CuF) (n : Int) (w : World) (e : Ending) (w' : World) : Prop := ∃ r : Nat, e = .returned (.int .i64 r) ∧ (r = 0 ∨ (r : Int) < n) ∧ Cur (B + 2) w' g F ∧ Keep [g] w w'
set_option maxHeartbeats 1600000 in
set_option maxRecDepth 100000 in
theorem pick_c (B g : Nat) (F : CuF) (n : Int) (w : World) (h : Cur B w g F) (hB0 : B ≤ 1099511627774) (hn : n ≤ 1048576) :
    Calls Tryd.prog 152 #[.pointer (some ⟨g, 0, none⟩), .int .i64 n] w (PPick B g F n w) := by
  have hN1 := next_c B g F w h (by omega)
  have hN2 := fun w h => next_c (B + 1) g F w h (by omega)
  replace hN1 := Lib.hid hN1; replace hN2 := Lib.hid hN2
  by_cases h1 : n ≤ 1
  · go_enter Tryd.func152, Tryd.ntmps152
    go_wp2_with fail
    refine bodyPost_ret (v := .int .i64 0) ?_ rfl ⟨0, rfl, .inl rfl, h.mono (by omega), Keep.refl _ _⟩
    simp [results, Tryd.results152, go_sem]
  · by_cases h2 : n ≤ 200
    · go_enter Tryd.func152, Tryd.ntmps152
      go_wp2_with fail
      refine hN1.out.mono ?_
      rintro e w1 ⟨r, rfl, hr, hc, hk⟩
      have hm0 : 0 ≤ (r : Int) % n := Int.emod_nonneg _ (by omega)
      have hm1 : (r : Int) % n < n := Int.emod_lt_of_pos _ (by omega)
      go_wp2_with fail
      refine bodyPost_ret (v := .int .i64 ((r : Int) % n)) ?_ rfl ⟨((r : Int) % n).toNat, by rw [Int.toNat_of_nonneg hm0], .inr (by omega), hc.mono (by omega), hk⟩
      simp [results, Tryd.results152, go_sem]
    · go_enter Tryd.func152, Tryd.ntmps152
      go_wp2_with fail
      refine hN1.out.mono ?_
      rintro e w1 ⟨r, rfl, hr, hc, hk⟩
      go_wp2_with fail
      refine (hN2.out _ hc).mono ?_
      rintro e w2 ⟨r2, rfl, hr2, hc2, hk2⟩
      have hm0 : 0 ≤ ((r : Int) * 256 + r2) % n := Int.emod_nonneg _ (by omega)
      have hm1 : ((r : Int) * 256 + r2) % n < n := Int.emod_lt_of_pos _ (by omega)
      go_wp2_with fail
      refine bodyPost_ret (v := .int .i64 (((r : Int) * 256 + r2) % n)) ?_ rfl ⟨(((r : Int) * 256 + r2) % n).toNat, by rw [Int.toNat_of_nonneg hm0], .inr (by omega), hc2, hk.trans hk2⟩
      simp [results, Tryd.results152, go_sem]
def POne (B g : Nat) (F : CuF) (w : World) (e : Ending) (w' : World) : Prop := ∃ b : Bool, e = .returned (.bool b) ∧ Cur (B + 2) w' g F ∧ Keep [g] w w'
theorem one_c (B g : Nat) (F : CuF) (n : Int) (w : World) (h : Cur B w g F) (hB0 : B ≤ 1099511627774) (hn : n ≤ 1048576) :
    Calls Tryd.prog 115 #[.pointer (some ⟨g, 0, none⟩), .int .i64 n] w (POne B g F w) := by
  have hN1 := Lib.hid (pick_c B g F n w h hB0 hn)
  go_enter Tryd.func115, Tryd.ntmps115
  go_wp2_with fail
  refine hN1.out.mono ?_
  rintro e w1 ⟨r, rfl, hr, hc, hk⟩
  go_wp2_with fail
  refine bodyPost_ret (v := .bool ((r : Int) == 0)) ?_ rfl ⟨_, rfl, hc, hk⟩
  simp [results, Tryd.results115, go_sem]
def POf (B g : Nat) (F : CuF) (xs : List ByteArray) (w : World) (e : Ending) (w' : World) : Prop := ∃ s ∈ xs, e = .returned (.string s) ∧ Cur (B + 2) w' g F ∧ Keep [g] w w'
theorem of_c (B g : Nat) (F : CuF) (v : Value) (xs : List ByteArray) (K : List Nat) (w : World) (h : Cur B w g F) (hB0 : B ≤ 1099511627774) (hx : Sl EStr w v xs K) (h0 : 0 < xs.length) (h1 : xs.length ≤ 1048576) (hg : g ∉ K) :
    Calls Tryd.prog 94 #[.pointer (some ⟨g, 0, none⟩), v] w (POf B g F xs w) := by
  obtain ⟨a, c, rfl⟩ := hx.slice
  have hN1 := Lib.hid (pick_c B g F xs.length w h hB0 (by omega))
  go_enter Tryd.func94, Tryd.ntmps94
  go_wp2_with fail
  refine hN1.out.mono ?_
  rintro e w1 ⟨r, rfl, hr, hc, hk⟩
  have hr2 : r < xs.length := by omega
  obtain ⟨hsz, b, off, rfl, hcell⟩ := (hx.keep hk (fun b hb e => hg (by simp at e; rw [← e]; exact hb)) (by decide)).str.2.2 r hr2
  clear hr
  have hm := List.getElem_mem hr2
  generalize xs[r] = s at *
  go_wp2_with fail
  refine bodyPost_ret (v := .string s) ?_ rfl ⟨s, hm, rfl, hc, hk⟩
  simp [results, Tryd.results94, go_sem]
def PAmong (B g : Nat) (F : CuF) (xs : List Int) (w : World) (e : Ending) (w' : World) : Prop := ∃ s ∈ xs, e = .returned (.int .i64 s) ∧ Cur (B + 2) w' g F ∧ Keep [g] w w'
theorem among_c (B g : Nat) (F : CuF) (v : Value) (xs : List Int) (K : List Nat) (w : World) (h : Cur B w g F) (hB0 : B ≤ 1099511627774) (hx : Sl EInt w v xs K) (h0 : 0 < xs.length) (h1 : xs.length ≤ 1048576) (hg : g ∉ K) :
    Calls Tryd.prog 119 #[.pointer (some ⟨g, 0, none⟩), v] w (PAmong B g F xs w) := by
  obtain ⟨a, c, rfl⟩ := hx.slice
  have hN1 := Lib.hid (pick_c B g F xs.length w h hB0 (by omega))
  go_enter Tryd.func119, Tryd.ntmps119
  go_wp2_with fail
  refine hN1.out.mono ?_
  rintro e w1 ⟨r, rfl, hr, hc, hk⟩
  have hr2 : r < xs.length := by omega
  obtain ⟨b, off, rfl, hcell⟩ := (hx.keep hk (fun b hb e => hg (by simp at e; rw [← e]; exact hb)) (by decide)).int.2.2 r hr2
  clear hr
  have hm := List.getElem_mem hr2
  generalize xs[r] = s at *
  go_wp2_with fail
  refine bodyPost_ret (v := .int .i64 s) ?_ rfl ⟨s, hm, rfl, hc, hk⟩
  simp [results, Tryd.results119, go_sem]
end Go.Proofs.YtidephmobajikaaDoor
/- Draws, for the engine: the cursor. -/
namespace Go.Proofs.YtidephmobajikaaDoor
open Go.RowKit
structure CuS where
  k : Nat
  seed : Int
structure CuOk (B : Nat) (s : CuS) : Prop where
  k : s.k ≤ B
  s0 : 0 ≤ s.seed
  s1 : s.seed < 18446744073709551616
theorem CuOk.mono {B B' : Nat} {s : CuS} (h : CuOk B s) (hb : B ≤ B') : CuOk B' s := ⟨Nat.le_trans h.k hb, h.s0, h.s1⟩
theorem cu_fn {f : FuncId} {args : List Value} {σ : Type} {C : σ → Prop} {v : σ → Value} {B B' g : Nat} {F : CuF} {s : CuS} {X : List Pc} (hX : X.all (fun p => !p.mu) = true) (ok : CuOk B s)
    (h : ∀ w, Cur B w g F → Hol X w → (∀ p ∈ X, g ∉ p.F) → Calls Tryd.prog f args.toArray w fun e w' => ∃ r, C r ∧ e = .returned (v r) ∧ Cur B' w' g F ∧ Keep [g] w w') :
    Fn Tryd.prog f args (.sl EByte (.slice F.a F.code.length F.c) F.code F.bs :: X) [.row g 121 0 [] [.slice F.a F.code.length F.c, .int .i64 (s.k : Nat), .int .u64 s.seed] []] (fun (z : σ × CuS) => C z.1 ∧ CuOk B' z.2) (fun z => v z.1) (fun z => [.row g 121 0 [] [.slice F.a F.code.length F.c, .int .i64 (z.2.k : Nat), .int .u64 z.2.seed] []]) := fun w hH hS => by
  have h1 := hH (.row g 121 0 [] [.slice F.a F.code.length F.c, .int .i64 (s.k : Nat), .int .u64 s.seed] []) (by simp)
  have h2 := hH (.sl EByte (.slice F.a F.code.length F.c) F.code F.bs) (by simp)
  have ap := hS.1
  have hg : g ∉ F.bs := fun hm => ap (.sl EByte (.slice F.a F.code.length F.c) F.code F.bs) (by simp) (by simp [Pc.mu]) g (by simp [Pc.F]) hm
  refine (h w ⟨s.k, s.seed, by simpa using h1.2, h2.2, hg, ok.k, ok.s0, ok.s1⟩ (fun p hp => hH p (by simp [hp])) (fun p hp hm => ap p (by simp [hp]) (by simp [Pc.mu]) g (by simp [Pc.F]) hm)).mono ?_
  rintro e w' ⟨r, hC, he, ⟨k, seed, R, S, -, hk, h0, h3⟩, hK⟩
  refine ⟨(r, ⟨k, seed⟩), ⟨hC, hk, h0, h3⟩, he, hol1 ⟨rfl, by simpa using R⟩, ⟨by simp, trivial⟩, hK.mono (fun b hb _ => by simpa [fp, Pc.F] using hb), fun p hp b hb => ?_⟩
  simp at hp
  subst hp
  exact .inr (.inl ⟨_, List.mem_cons_self .., by simpa [Pc.F] using hb⟩)
theorem pick_f (B g : Nat) (F : CuF) (n : Int) (s : CuS) (ok : CuOk B s) (hB : B ≤ 1000000000000) (hn : n ≤ 1048576) :
    Fn Tryd.prog 152 [ptr g 0 0, .int .i64 n] [.sl EByte (.slice F.a F.code.length F.c) F.code F.bs] [.row g 121 0 [] [.slice F.a F.code.length F.c, .int .i64 (s.k : Nat), .int .u64 s.seed] []] (fun (z : Nat × CuS) => (z.1 = 0 ∨ (z.1 : Int) < n) ∧ CuOk (B + 2) z.2) (fun z => .int .i64 (z.1 : Nat)) (fun z => [.row g 121 0 [] [.slice F.a F.code.length F.c, .int .i64 (z.2.k : Nat), .int .u64 z.2.seed] []]) :=
  cu_fn (C := fun r : Nat => r = 0 ∨ (r : Int) < n) (v := fun r => .int .i64 (r : Nat)) (X := []) rfl ok fun w h _ _ => (pick_c B g F n w h (by omega) hn).mono fun _ _ ⟨r, he, h1, h2, h3⟩ => ⟨r, h1, he, h2, h3⟩
theorem one_f (B g : Nat) (F : CuF) (n : Int) (s : CuS) (ok : CuOk B s) (hB : B ≤ 1000000000000) (hn : n ≤ 1048576) :
    Fn Tryd.prog 115 [ptr g 0 0, .int .i64 n] [.sl EByte (.slice F.a F.code.length F.c) F.code F.bs] [.row g 121 0 [] [.slice F.a F.code.length F.c, .int .i64 (s.k : Nat), .int .u64 s.seed] []] (fun (z : Bool × CuS) => True ∧ CuOk (B + 2) z.2) (fun z => .bool z.1) (fun z => [.row g 121 0 [] [.slice F.a F.code.length F.c, .int .i64 (z.2.k : Nat), .int .u64 z.2.seed] []]) :=
  cu_fn (C := fun _ : Bool => True) (v := fun r => .bool r) (X := []) rfl ok fun w h _ _ => (one_c B g F n w h (by omega) hn).mono fun _ _ ⟨r, he, h2, h3⟩ => ⟨r, trivial, he, h2, h3⟩
theorem of_f (B g : Nat) (F : CuF) (v : Value) (xs : List ByteArray) (G : List Nat) (s : CuS) (ok : CuOk B s) (hB : B ≤ 1000000000000) (h0 : 0 < xs.length) (h1 : xs.length ≤ 1048576) :
    Fn Tryd.prog 94 [ptr g 0 0, v] [.sl EByte (.slice F.a F.code.length F.c) F.code F.bs, .sl EStr v xs G] [.row g 121 0 [] [.slice F.a F.code.length F.c, .int .i64 (s.k : Nat), .int .u64 s.seed] []] (fun (z : ByteArray × CuS) => z.1 ∈ xs ∧ CuOk (B + 2) z.2) (fun z => .string z.1) (fun z => [.row g 121 0 [] [.slice F.a F.code.length F.c, .int .i64 (z.2.k : Nat), .int .u64 z.2.seed] []]) :=
  cu_fn (C := fun r : ByteArray => r ∈ xs) (v := fun r => .string r) (X := [.sl EStr v xs G]) rfl ok fun w h hX hg => (of_c B g F v xs G w h (by omega) (hX (.sl EStr v xs G) (by simp)).2 h0 h1 (hg (.sl EStr v xs G) (by simp))).mono fun _ _ ⟨r, h1, he, h2, h3⟩ => ⟨r, h1, he, h2, h3⟩
theorem among_f (B g : Nat) (F : CuF) (v : Value) (xs : List Int) (G : List Nat) (s : CuS) (ok : CuOk B s) (hB : B ≤ 1000000000000) (h0 : 0 < xs.length) (h1 : xs.length ≤ 1048576) :
    Fn Tryd.prog 119 [ptr g 0 0, v] [.sl EByte (.slice F.a F.code.length F.c) F.code F.bs, .sl EInt v xs G] [.row g 121 0 [] [.slice F.a F.code.length F.c, .int .i64 (s.k : Nat), .int .u64 s.seed] []] (fun (z : Int × CuS) => z.1 ∈ xs ∧ CuOk (B + 2) z.2) (fun z => .int .i64 z.1) (fun z => [.row g 121 0 [] [.slice F.a F.code.length F.c, .int .i64 (z.2.k : Nat), .int .u64 z.2.seed] []]) :=
  cu_fn (C := fun r : Int => r ∈ xs) (v := fun r => .int .i64 r) (X := [.sl EInt v xs G]) rfl ok fun w h hX hg => (among_c B g F v xs G w h (by omega) (hX (.sl EInt v xs G) (by simp)).2 h0 h1 (hg (.sl EInt v xs G) (by simp))).mono fun _ _ ⟨r, h1, he, h2, h3⟩ => ⟨r, h1, he, h2, h3⟩
end Go.Proofs.YtidephmobajikaaDoor
/- The type Slot of the exact laws: how it reads, how it is owned; the walks of its size, copy, equality, mark and held. Written by wip/gentypes.py. -/
namespace Go.Proofs.YtidephmobajikaaDoor
open Go.RowKit
structure Slot where
  hav : Bool
  item : ByteArray
end Go.Proofs.YtidephmobajikaaDoor
/- The type ReceiveWindow of the exact laws: how it reads, how it is owned; the walks of its size, copy, equality, mark and held. Written by wip/gentypes.py. -/
namespace Go.Proofs.YtidephmobajikaaDoor
open Go.RowKit
structure ReceiveWindow where
  next : Int
  slots : List Slot
end Go.Proofs.YtidephmobajikaaDoor
/- Structs of type ReceiveWindow in a walk's state: opened, closed. -/
namespace Go.Proofs.YtidephmobajikaaDoor
open Go.RowKit
section
variable {c : Cx} {fr : Fr} {H : List Pc} {Φ : Gl}
end
end Go.Proofs.YtidephmobajikaaDoor
/- Structs of type Slot in a walk's state: opened, closed. -/
namespace Go.Proofs.YtidephmobajikaaDoor
open Go.RowKit
section
variable {c : Cx} {fr : Fr} {H : List Pc} {Φ : Gl}
end
end Go.Proofs.YtidephmobajikaaDoor
/- Walks of Go's generic library functions on slices of impl.Slot. Written by wip/genlib.py. -/
namespace Go.Proofs.YtidephmobajikaaDoor
open Go.RowKit
end Go.Proofs.YtidephmobajikaaDoor
/- Receive windows: the check, what is there. -/
namespace Go.Proofs.YtidephmobajikaaDoor
open Go.RowKit
end Go.Proofs.YtidephmobajikaaDoor
/- Receive windows: the reference's check. -/
namespace Go.Proofs.YtidephmobajikaaDoor
open Go.RowKit
end Go.Proofs.YtidephmobajikaaDoor
/- Receive windows: what is released, what is taken. Plain lists. -/
namespace Go.Proofs.YtidephmobajikaaDoor
open Go.RowKit
def plus (s : ByteArray) : ByteArray := ⟨#[43]⟩ ++ s
def minus : ByteArray := ⟨#[45]⟩
def shiftEv (l : List Slot) : ByteArray := match l with | [] => minus | s :: _ => if s.hav then plus s.item else minus
def rel : Int → List Slot → Int × List Slot × List ByteArray
  | n, [] => (n, [], [])
  | n, s :: r => if s.hav then ((rel (aft n 1) r).1, (rel (aft n 1) r).2.1, plus s.item :: (rel (aft n 1) r).2.2) else (n, s :: r, [])
end Go.Proofs.YtidephmobajikaaDoor
/- Receive windows: the copy, a step, what is released. -/
namespace Go.Proofs.YtidephmobajikaaDoor
open Go.RowKit
end Go.Proofs.YtidephmobajikaaDoor
/- Receive windows: what is released. -/
namespace Go.Proofs.YtidephmobajikaaDoor
open Go.RowKit
def relW (x : ReceiveWindow) : ReceiveWindow := ⟨(rel x.next x.slots).1, (rel x.next x.slots).2.1⟩
def relE (x : ReceiveWindow) : List ByteArray := (rel x.next x.slots).2.2
def shW (x : ReceiveWindow) : ReceiveWindow := ⟨aft x.next 1, x.slots.drop 1⟩
/-- events so far, the window, where both lie -/
structure RelS where
  es : List ByteArray
  y : ReceiveWindow
  a : Option Addr
  c : Nat
  F : List Nat
  ae : Option Addr
  ce : Nat
  Fe : List Nat
structure RelOk (x : ReceiveWindow) (s : RelS) : Prop where
  n0 : 0 ≤ s.y.next
  n1 : s.y.next ≤ 65535
  it : ∀ z ∈ s.y.slots, z.item.size ≤ 8
  ln : s.es.length + s.y.slots.length ≤ x.slots.length
  w : relW x = relW s.y
  e : relE x = s.es ++ relE s.y
end Go.Proofs.YtidephmobajikaaDoor
/- Receive windows: what is taken, what is given up: in place. -/
namespace Go.Proofs.YtidephmobajikaaDoor
open Go.RowKit
def stepsN (a b : Int) : Nat := if bef a b then (gp a b).toNat else 0
def giveW : Nat → ReceiveWindow → ReceiveWindow
  | 0, y => y
  | k + 1, y => giveW k (shW y)
def giveE : Nat → ReceiveWindow → List ByteArray
  | 0, _ => []
  | k + 1, y => shiftEv y.slots :: giveE k (shW y)
structure PadS where
  j : Nat
  a : Option Addr
  c : Nat
  F : List Nat
structure GiveOk (x : ReceiveWindow) (n : Int) (s : RelS) : Prop where
  n0 : 0 ≤ s.y.next
  n1 : s.y.next ≤ 65535
  it : ∀ z ∈ s.y.slots, z.item.size ≤ 8
  ln : s.y.slots.length ≤ x.slots.length
  le : s.es.length + stepsN s.y.next n ≤ stepsN x.next n
  w : giveW (stepsN x.next n) x = giveW (stepsN s.y.next n) s.y
  e : giveE (stepsN x.next n) x = s.es ++ giveE (stepsN s.y.next n) s.y
end Go.Proofs.YtidephmobajikaaDoor
/- Receive windows: TakeItem and GiveUpTo of the program. -/
namespace Go.Proofs.YtidephmobajikaaDoor
open Go.RowKit
structure GoodRW (x : ReceiveWindow) : Prop where
  n0 : 0 ≤ x.next
  n1 : x.next ≤ 65535
  l : x.slots.length ≤ 8
  it : ∀ s ∈ x.slots, s.item.size ≤ 8
end Go.Proofs.YtidephmobajikaaDoor
/- Receive windows: the reference's. -/
namespace Go.Proofs.YtidephmobajikaaDoor
open Go.RowKit
structure CpS where
  g : Nat
  a : Option Addr
  c : Nat
  F : List Nat
end Go.Proofs.YtidephmobajikaaDoor
/- Receive windows: the reference's taking and giving up. -/
namespace Go.Proofs.YtidephmobajikaaDoor
open Go.RowKit
end Go.Proofs.YtidephmobajikaaDoor
/- Receive windows: the reference's GiveUpTo and TakeItem; the contracts that the laws ask. -/
namespace Go.Proofs.YtidephmobajikaaDoor
open Go.RowKit
end Go.Proofs.YtidephmobajikaaDoor
/- Receive windows: GiveUpTo and TakeItem of the reference; the contracts that the laws ask. -/
namespace Go.Proofs.YtidephmobajikaaDoor
open Go.RowKit
end Go.Proofs.YtidephmobajikaaDoor
/- Receive windows: what is counted, what is there, what is seen; serials. -/
namespace Go.Proofs.YtidephmobajikaaDoor
open Go.RowKit
end Go.Proofs.YtidephmobajikaaDoor
/- Draws, for the engine: serials, letters. -/
namespace Go.Proofs.YtidephmobajikaaDoor
open Go.RowKit
theorem flat_int (w : World) : ∀ xs : List Int, Flat EInt w (xs.map (Value.int .i64)) xs []
  | [] => ⟨rfl, rfl⟩
  | x :: r => ⟨[.int .i64 x], r.map (Value.int .i64), [], [], rfl, rfl, ⟨rfl, rfl⟩, flat_int w r⟩
theorem flat_s (w : World) : ∀ xs : List ByteArray, (∀ x ∈ xs, x.size ≤ maxLen) → Flat EStr w (xs.map Value.string) xs []
  | [], _ => ⟨rfl, rfl⟩
  | x :: r, h => ⟨[.string x], r.map Value.string, [], [], rfl, rfl, ⟨rfl, h x (by simp), rfl⟩, flat_s w r fun y hy => h y (by simp [hy])⟩
set_option maxRecDepth 100000 in
theorem serial_f (B g : Nat) (F : CuF) (s : CuS) (ok : CuOk B s) (hB : B ≤ 900000000000) :
    Fn Tryd.prog 173 [ptr g 0 0] [.sl EByte (.slice F.a F.code.length F.c) F.code F.bs] [.row g 121 0 [] [.slice F.a F.code.length F.c, .int .i64 (s.k : Nat), .int .u64 s.seed] []] (fun (z : Int × CuS) => (0 ≤ z.1 ∧ z.1 ≤ 65535) ∧ CuOk (B + 4) z.2) (fun z => .int .i64 z.1) (fun z => [.row g 121 0 [] [.slice F.a F.code.length F.c, .int .i64 (z.2.k : Nat), .int .u64 z.2.seed] []]) := by
  refine enter Tryd.func173 rfl Tryd.ntmps173 fun w0 => ?_
  repeat (first | apply c_seq | apply c_reg | (apply wO; apply oc; rfl; exact ydE) | apply w_nil | apply n_cd | (apply wg_t; rfl; rfl) | (apply wg_f; rfl; rfl; rfl; rfl) | (apply wg_u; rfl; rfl; rfl) | (apply c_t; rfl) | (apply c_f; rfl) | apply c_skip | apply c_block | apply n_blk | apply c_exit | apply e_hit | apply e_cd | apply e_lp | (apply e_miss; rfl) | apply c_ret | (apply wO; apply o_box; rfl; rfl; rfl; intro _) | (apply wO; apply o_alloc; rfl; intro _) | (apply wO; apply o_st; rfl; rfl; rfl; (first | exact AggC.s | exact OneC.s); rfl; exact rplE; exact putE; rfl) | (apply wO; apply o_bs0; rfl; intro _) | (apply wO; apply o_bs; rfl; rfl; rfl; rfl; exact rptE; exact filE; intro _))
  refine t_row (xs := [0, 1, 100, 32767, 32768, 65535, 65530, 4660]) (fun w => flat_int w _) ?_ (by decide)
  refine t_read (E := EInt) fun G => ?_
  repeat (first | apply c_seq | apply c_reg | (apply wO; apply oc; rfl; exact ydE) | apply w_nil | apply n_cd | (apply wg_t; rfl; rfl) | (apply wg_f; rfl; rfl; rfl; rfl) | (apply wg_u; rfl; rfl; rfl) | (apply c_t; rfl) | (apply c_f; rfl) | apply c_skip | apply c_block | apply n_blk | apply c_exit | apply e_hit | apply e_cd | apply e_lp | (apply e_miss; rfl) | apply c_ret | (apply wO; apply o_box; rfl; rfl; rfl; intro _) | (apply wO; apply o_alloc; rfl; intro _) | (apply wO; apply o_st; rfl; rfl; rfl; (first | exact AggC.s | exact OneC.s); rfl; exact rplE; exact putE; rfl) | (apply wO; apply o_bs0; rfl; intro _) | (apply wO; apply o_bs; rfl; rfl; rfl; rfl; exact rptE; exact filE; intro _) | (apply wO; apply o_call; rfl; kernel_rfl; exact evsE))
  refine cf (among_f B g F _ [0, 1, 100, 32767, 32768, 65535, 65530, 4660] G s ok (by omega) (by decide) (by decide)) fun z hz => ?_
  refine t_app ?_
  obtain ⟨hz1, hz2⟩ := hz
  have hz3 : 0 ≤ z.1 ∧ z.1 ≤ 65535 := by simp only [List.mem_cons, List.not_mem_nil, or_false] at hz1; omega
  repeat (first | apply c_seq | apply c_reg | (apply wO; apply oc; rfl; exact ydE) | apply w_nil | apply n_cd | (apply wg_t; rfl; rfl) | (apply wg_f; rfl; rfl; rfl; rfl) | (apply wg_u; rfl; rfl; rfl) | (apply c_t; rfl) | (apply c_f; rfl) | apply c_skip | apply c_block | apply n_blk | apply c_exit | apply e_hit | apply e_cd | apply e_lp | (apply e_miss; rfl) | apply c_ret | (apply wO; apply o_box; rfl; rfl; rfl; intro _) | (apply wO; apply o_alloc; rfl; intro _) | (apply wO; apply o_st; rfl; rfl; rfl; (first | exact AggC.s | exact OneC.s); rfl; exact rplE; exact putE; rfl) | (apply wO; apply o_bs0; rfl; intro _) | (apply wO; apply o_bs; rfl; rfl; rfl; rfl; exact rptE; exact filE; intro _) | (apply wO; apply o_call; rfl; kernel_rfl; exact evsE))
  refine cf (pick_f (B + 2) g F 12 z.2 hz2 (by omega) (by omega)) fun y hy => ?_
  refine t_app ?_
  obtain ⟨hy1, hy2⟩ := hy
  repeat (first | apply c_seq | apply c_reg | (apply wO; apply oc; rfl; exact ydE) | apply w_nil | apply n_cd | (apply wg_t; rfl; rfl) | (apply wg_f; rfl; rfl; rfl; rfl) | (apply wg_u; rfl; rfl; rfl) | (apply c_t; rfl) | (apply c_f; rfl) | apply c_skip | apply c_block | apply n_blk | apply c_exit | apply e_hit | apply e_cd | apply e_lp | (apply e_miss; rfl) | apply c_ret | (apply wO; apply o_box; rfl; rfl; rfl; intro _) | (apply wO; apply o_alloc; rfl; intro _) | (apply wO; apply o_st; rfl; rfl; rfl; (first | exact AggC.s | exact OneC.s); rfl; exact rplE; exact putE; rfl) | (apply wO; apply o_bs0; rfl; intro _) | (apply wO; apply o_bs; rfl; rfl; rfl; rfl; exact rptE; exact filE; intro _) | (apply wO; apply o_call; rfl; kernel_rfl; exact evsE))
  refine ce (fun w s => l2After_c _ _ _ (by omega) (by omega)) ?_
  repeat (first | apply c_seq | apply c_reg | (apply wO; apply oc; rfl; exact ydE) | apply w_nil | apply n_cd | (apply wg_t; rfl; rfl) | (apply wg_f; rfl; rfl; rfl; rfl) | (apply wg_u; rfl; rfl; rfl) | (apply c_t; rfl) | (apply c_f; rfl) | apply c_skip | apply c_block | apply n_blk | apply c_exit | apply e_hit | apply e_cd | apply e_lp | (apply e_miss; rfl) | apply c_ret | (apply wO; apply o_box; rfl; rfl; rfl; intro _) | (apply wO; apply o_alloc; rfl; intro _) | (apply wO; apply o_st; rfl; rfl; rfl; (first | exact AggC.s | exact OneC.s); rfl; exact rplE; exact putE; rfl) | (apply wO; apply o_bs0; rfl; intro _) | (apply wO; apply o_bs; rfl; rfl; rfl; rfl; exact rptE; exact filE; intro _) | (apply wO; apply o_call; rfl; kernel_rfl; exact evsE))
  refine ret (_, y.2) ⟨aft_bd _ _, hy2⟩ rfl
set_option maxRecDepth 100000 in
theorem anySerial_f (B g : Nat) (F : CuF) (s : CuS) (ok : CuOk B s) (hB : B ≤ 890000000000) :
    Fn Tryd.prog 175 [ptr g 0 0] [.sl EByte (.slice F.a F.code.length F.c) F.code F.bs] [.row g 121 0 [] [.slice F.a F.code.length F.c, .int .i64 (s.k : Nat), .int .u64 s.seed] []] (fun (z : Int × CuS) => CuOk (B + 6) z.2) (fun z => .int .i64 z.1) (fun z => [.row g 121 0 [] [.slice F.a F.code.length F.c, .int .i64 (z.2.k : Nat), .int .u64 z.2.seed] []]) := by
  refine enter Tryd.func175 rfl Tryd.ntmps175 fun w0 => ?_
  repeat (first | apply c_seq | apply c_reg | (apply wO; apply oc; rfl; exact ydE) | apply w_nil | apply n_cd | (apply wg_t; rfl; rfl) | (apply wg_f; rfl; rfl; rfl; rfl) | (apply wg_u; rfl; rfl; rfl) | (apply c_t; rfl) | (apply c_f; rfl) | apply c_skip | apply c_block | apply n_blk | apply c_exit | apply e_hit | apply e_cd | apply e_lp | (apply e_miss; rfl) | apply c_ret | (apply wO; apply o_box; rfl; rfl; rfl; intro _) | (apply wO; apply o_alloc; rfl; intro _) | (apply wO; apply o_st; rfl; rfl; rfl; (first | exact AggC.s | exact OneC.s); rfl; exact rplE; exact putE; rfl) | (apply wO; apply o_bs0; rfl; intro _) | (apply wO; apply o_bs; rfl; rfl; rfl; rfl; exact rptE; exact filE; intro _) | (apply wO; apply o_call; rfl; kernel_rfl; exact evsE))
  refine cf (one_f B g F 20 s ok (by omega) (by omega)) fun q hq => ?_
  refine t_app ?_
  obtain ⟨b, s1⟩ := q
  obtain ⟨-, hq⟩ := hq
  cases b
  · repeat (first | apply c_seq | apply c_reg | (apply wO; apply oc; rfl; exact ydE) | apply w_nil | apply n_cd | (apply wg_t; rfl; rfl) | (apply wg_f; rfl; rfl; rfl; rfl) | (apply wg_u; rfl; rfl; rfl) | (apply c_t; rfl) | (apply c_f; rfl) | apply c_skip | apply c_block | apply n_blk | apply c_exit | apply e_hit | apply e_cd | apply e_lp | (apply e_miss; rfl) | apply c_ret | (apply wO; apply o_box; rfl; rfl; rfl; intro _) | (apply wO; apply o_alloc; rfl; intro _) | (apply wO; apply o_st; rfl; rfl; rfl; (first | exact AggC.s | exact OneC.s); rfl; exact rplE; exact putE; rfl) | (apply wO; apply o_bs0; rfl; intro _) | (apply wO; apply o_bs; rfl; rfl; rfl; rfl; exact rptE; exact filE; intro _) | (apply wO; apply o_call; rfl; kernel_rfl; exact evsE))
    refine cf (serial_f (B + 2) g F s1 hq (by omega)) fun z hz => ?_
    refine t_app ?_
    repeat (first | apply c_seq | apply c_reg | (apply wO; apply oc; rfl; exact ydE) | apply w_nil | apply n_cd | (apply wg_t; rfl; rfl) | (apply wg_f; rfl; rfl; rfl; rfl) | (apply wg_u; rfl; rfl; rfl) | (apply c_t; rfl) | (apply c_f; rfl) | apply c_skip | apply c_block | apply n_blk | apply c_exit | apply e_hit | apply e_cd | apply e_lp | (apply e_miss; rfl) | apply c_ret | (apply wO; apply o_box; rfl; rfl; rfl; intro _) | (apply wO; apply o_alloc; rfl; intro _) | (apply wO; apply o_st; rfl; rfl; rfl; (first | exact AggC.s | exact OneC.s); rfl; exact rplE; exact putE; rfl) | (apply wO; apply o_bs0; rfl; intro _) | (apply wO; apply o_bs; rfl; rfl; rfl; rfl; exact rptE; exact filE; intro _) | (apply wO; apply o_call; rfl; kernel_rfl; exact evsE))
    refine ret z hz.2 rfl
  · repeat (first | apply c_seq | apply c_reg | (apply wO; apply oc; rfl; exact ydE) | apply w_nil | apply n_cd | (apply wg_t; rfl; rfl) | (apply wg_f; rfl; rfl; rfl; rfl) | (apply wg_u; rfl; rfl; rfl) | (apply c_t; rfl) | (apply c_f; rfl) | apply c_skip | apply c_block | apply n_blk | apply c_exit | apply e_hit | apply e_cd | apply e_lp | (apply e_miss; rfl) | apply c_ret | (apply wO; apply o_box; rfl; rfl; rfl; intro _) | (apply wO; apply o_alloc; rfl; intro _) | (apply wO; apply o_st; rfl; rfl; rfl; (first | exact AggC.s | exact OneC.s); rfl; exact rplE; exact putE; rfl) | (apply wO; apply o_bs0; rfl; intro _) | (apply wO; apply o_bs; rfl; rfl; rfl; rfl; exact rptE; exact filE; intro _))
    refine t_row (xs := [-1, 65536, 65535]) (fun w => flat_int w _) ?_ (by decide)
    refine t_read (E := EInt) fun G => ?_
    repeat (first | apply c_seq | apply c_reg | (apply wO; apply oc; rfl; exact ydE) | apply w_nil | apply n_cd | (apply wg_t; rfl; rfl) | (apply wg_f; rfl; rfl; rfl; rfl) | (apply wg_u; rfl; rfl; rfl) | (apply c_t; rfl) | (apply c_f; rfl) | apply c_skip | apply c_block | apply n_blk | apply c_exit | apply e_hit | apply e_cd | apply e_lp | (apply e_miss; rfl) | apply c_ret | (apply wO; apply o_box; rfl; rfl; rfl; intro _) | (apply wO; apply o_alloc; rfl; intro _) | (apply wO; apply o_st; rfl; rfl; rfl; (first | exact AggC.s | exact OneC.s); rfl; exact rplE; exact putE; rfl) | (apply wO; apply o_bs0; rfl; intro _) | (apply wO; apply o_bs; rfl; rfl; rfl; rfl; exact rptE; exact filE; intro _) | (apply wO; apply o_call; rfl; kernel_rfl; exact evsE))
    refine cf (among_f (B + 2) g F _ [-1, 65536, 65535] G s1 hq (by omega) (by decide) (by decide)) fun z hz => ?_
    refine t_app ?_
    repeat (first | apply c_seq | apply c_reg | (apply wO; apply oc; rfl; exact ydE) | apply w_nil | apply n_cd | (apply wg_t; rfl; rfl) | (apply wg_f; rfl; rfl; rfl; rfl) | (apply wg_u; rfl; rfl; rfl) | (apply c_t; rfl) | (apply c_f; rfl) | apply c_skip | apply c_block | apply n_blk | apply c_exit | apply e_hit | apply e_cd | apply e_lp | (apply e_miss; rfl) | apply c_ret | (apply wO; apply o_box; rfl; rfl; rfl; intro _) | (apply wO; apply o_alloc; rfl; intro _) | (apply wO; apply o_st; rfl; rfl; rfl; (first | exact AggC.s | exact OneC.s); rfl; exact rplE; exact putE; rfl) | (apply wO; apply o_bs0; rfl; intro _) | (apply wO; apply o_bs; rfl; rfl; rfl; rfl; exact rptE; exact filE; intro _) | (apply wO; apply o_call; rfl; kernel_rfl; exact evsE))
    refine ret z (hz.2.mono (by omega)) rfl
structure LeS where
  r : Nat
  t : ByteArray
  s : CuS
structure LeOk (B r0 : Nat) (z : LeS) : Prop where
  r : z.r ≤ r0
  s : CuOk (B + 2 + 2 * (r0 - z.r)) z.s
  t : z.t.size ≤ r0 - z.r
set_option maxRecDepth 100000 in
theorem letters_f (B g : Nat) (F : CuF) (s : CuS) (n : Int) (ok : CuOk B s) (hB : B ≤ 900000000000) (h0 : 0 ≤ n) (h8 : n ≤ 20) :
    Fn Tryd.prog 174 [ptr g 0 0, .int .i64 n] [.sl EByte (.slice F.a F.code.length F.c) F.code F.bs] [.row g 121 0 [] [.slice F.a F.code.length F.c, .int .i64 (s.k : Nat), .int .u64 s.seed] []] (fun (z : ByteArray × CuS) => z.1.size ≤ 20 ∧ CuOk (B + 42) z.2) (fun z => .string z.1) (fun z => [.row g 121 0 [] [.slice F.a F.code.length F.c, .int .i64 (z.2.k : Nat), .int .u64 z.2.seed] []]) := by
  refine enter Tryd.func174 rfl Tryd.ntmps174 fun w0 => ?_
  repeat (first | apply c_seq | apply c_reg | (apply wO; apply oc; rfl; exact ydE) | apply w_nil | apply n_cd | (apply wg_t; rfl; rfl) | (apply wg_f; rfl; rfl; rfl; rfl) | (apply wg_u; rfl; rfl; rfl) | (apply c_t; rfl) | (apply c_f; rfl) | apply c_skip | apply c_block | apply n_blk | apply c_exit | apply e_hit | apply e_cd | apply e_lp | (apply e_miss; rfl) | apply c_ret | (apply wO; apply o_box; rfl; rfl; rfl; intro _) | (apply wO; apply o_alloc; rfl; intro _) | (apply wO; apply o_st; rfl; rfl; rfl; (first | exact AggC.s | exact OneC.s); rfl; exact rplE; exact putE; rfl) | (apply wO; apply o_bs0; rfl; intro _) | (apply wO; apply o_bs; rfl; rfl; rfl; rfl; exact rptE; exact filE; intro _) | (apply wO; apply o_call; rfl; kernel_rfl; exact evsE))
  refine cf (pick_f B g F (n + 1) s ok (by omega) (by omega)) fun y hy => ?_
  refine t_app ?_
  obtain ⟨r0, s1⟩ := y
  obtain ⟨hy1, hy2⟩ := hy
  dsimp only at hy1 hy2 ⊢
  have hr0 : r0 ≤ 20 := by omega
  repeat (first | apply c_seq | apply c_reg | (apply wO; apply oc; rfl; exact ydE) | apply w_nil | apply n_cd | (apply wg_t; rfl; rfl) | (apply wg_f; rfl; rfl; rfl; rfl) | (apply wg_u; rfl; rfl; rfl) | (apply c_t; rfl) | (apply c_f; rfl) | apply c_skip | apply c_block | apply n_blk | apply c_exit | apply e_hit | apply e_cd | apply e_lp | (apply e_miss; rfl) | apply c_ret | (apply wO; apply o_box; rfl; rfl; rfl; intro _) | (apply wO; apply o_alloc; rfl; intro _) | (apply wO; apply o_st; rfl; rfl; rfl; (first | exact AggC.s | exact OneC.s); rfl; exact rplE; exact putE; rfl) | (apply wO; apply o_bs0; rfl; intro _) | (apply wO; apply o_bs; rfl; rfl; rfl; rfl; exact rptE; exact filE; intro _) | (apply wO; apply o_call; rfl; kernel_rfl; exact evsE))
  refine c_loopS [0, 4] (fun z : LeS => [(5, .string z.t), (6, .int .i64 (z.r : Nat))]) (fun z => [.row g 121 0 [] [.slice F.a F.code.length F.c, .int .i64 (z.s.k : Nat), .int .u64 z.s.seed] []]) (LeOk B r0) (fun z => z.r) ⟨r0, ⟨#[]⟩, s1⟩ ⟨Nat.le_refl _, by simpa using hy2, Nat.zero_le _⟩ fun z hz => ?_
  obtain ⟨z1, z2, z3⟩ := hz
  repeat (first | apply c_seq | apply c_reg | (apply wO; apply oc; rfl; exact ydE) | apply w_nil | apply n_cd | (apply wg_t; rfl; rfl) | (apply wg_f; rfl; rfl; rfl; rfl) | (apply wg_u; rfl; rfl; rfl) | (apply c_t; rfl) | (apply c_f; rfl) | apply c_skip | apply c_block | apply n_blk | apply c_exit | apply e_hit | apply e_cd | apply e_lp | (apply e_miss; rfl) | apply c_ret | (apply wO; apply o_box; rfl; rfl; rfl; intro _) | (apply wO; apply o_alloc; rfl; intro _) | (apply wO; apply o_st; rfl; rfl; rfl; (first | exact AggC.s | exact OneC.s); rfl; exact rplE; exact putE; rfl) | (apply wO; apply o_bs0; rfl; intro _) | (apply wO; apply o_bs; rfl; rfl; rfl; rfl; exact rptE; exact filE; intro _) | (apply wO; apply o_call; rfl; kernel_rfl; exact evsE))
  refine c_if rfl (fun h3 => ?_) (fun h3 => ?_)
  · repeat (first | apply c_seq | apply c_reg | (apply wO; apply oc; rfl; exact ydE) | apply w_nil | apply n_cd | (apply wg_t; rfl; rfl) | (apply wg_f; rfl; rfl; rfl; rfl) | (apply wg_u; rfl; rfl; rfl) | (apply c_t; rfl) | (apply c_f; rfl) | apply c_skip | apply c_block | apply n_blk | apply c_exit | apply e_hit | apply e_cd | apply e_lp | (apply e_miss; rfl) | apply c_ret | (apply wO; apply o_box; rfl; rfl; rfl; intro _) | (apply wO; apply o_alloc; rfl; intro _) | (apply wO; apply o_st; rfl; rfl; rfl; (first | exact AggC.s | exact OneC.s); rfl; exact rplE; exact putE; rfl) | (apply wO; apply o_bs0; rfl; intro _) | (apply wO; apply o_bs; rfl; rfl; rfl; rfl; exact rptE; exact filE; intro _))
    refine t_row (xs := [⟨#[97]⟩, ⟨#[98]⟩, ⟨#[99]⟩, ⟨#[120]⟩, ⟨#[122]⟩]) (fun w => flat_s w _ (by decide)) ?_ (by decide)
    refine t_read (E := EStr) fun G => ?_
    repeat (first | apply c_seq | apply c_reg | (apply wO; apply oc; rfl; exact ydE) | apply w_nil | apply n_cd | (apply wg_t; rfl; rfl) | (apply wg_f; rfl; rfl; rfl; rfl) | (apply wg_u; rfl; rfl; rfl) | (apply c_t; rfl) | (apply c_f; rfl) | apply c_skip | apply c_block | apply n_blk | apply c_exit | apply e_hit | apply e_cd | apply e_lp | (apply e_miss; rfl) | apply c_ret | (apply wO; apply o_box; rfl; rfl; rfl; intro _) | (apply wO; apply o_alloc; rfl; intro _) | (apply wO; apply o_st; rfl; rfl; rfl; (first | exact AggC.s | exact OneC.s); rfl; exact rplE; exact putE; rfl) | (apply wO; apply o_bs0; rfl; intro _) | (apply wO; apply o_bs; rfl; rfl; rfl; rfl; exact rptE; exact filE; intro _) | (apply wO; apply o_call; rfl; kernel_rfl; exact evsE))
    refine cf (of_f _ g F _ [⟨#[97]⟩, ⟨#[98]⟩, ⟨#[99]⟩, ⟨#[120]⟩, ⟨#[122]⟩] G z.s z2 (by omega) (by decide) (by decide)) fun q hq => ?_
    refine t_app ?_
    have hq1 : q.1.size = 1 := by
      have := hq.1
      simp only [List.mem_cons, List.not_mem_nil, or_false] at this
      rcases this with e | e | e | e | e <;> rw [e] <;> rfl
    repeat (first | apply c_seq | apply c_reg | (apply wO; apply oc; rfl; exact ydE) | apply w_nil | apply n_cd | (apply wg_t; rfl; rfl) | (apply wg_f; rfl; rfl; rfl; rfl) | (apply wg_u; rfl; rfl; rfl) | (apply c_t; rfl) | (apply c_f; rfl) | apply c_skip | apply c_block | apply n_blk | apply c_exit | apply e_hit | apply e_cd | apply e_lp | (apply e_miss; rfl) | apply c_ret | (apply wO; apply o_box; rfl; rfl; rfl; intro _) | (apply wO; apply o_alloc; rfl; intro _) | (apply wO; apply o_st; rfl; rfl; rfl; (first | exact AggC.s | exact OneC.s); rfl; exact rplE; exact putE; rfl) | (apply wO; apply o_bs0; rfl; intro _) | (apply wO; apply o_bs; rfl; rfl; rfl; rfl; exact rptE; exact filE; intro _) | (apply wO; apply o_call; rfl; kernel_rfl; exact evsE))
    rw [show ((z.r : Nat) : Int) - 1 = ((z.r - 1 : Nat) : Int) by omega]
    refine n_lp ⟨z.r - 1, z.t ++ q.1, q.2⟩ ⟨by show z.r - 1 ≤ r0; omega, hq.2.mono (by show _ ≤ B + 2 + 2 * (r0 - (z.r - 1)); omega), by show (z.t ++ q.1).size ≤ r0 - (z.r - 1); rw [ByteArray.size_append]; omega⟩ (by show z.r - 1 < _; omega)
  · repeat (first | apply c_seq | apply c_reg | (apply wO; apply oc; rfl; exact ydE) | apply w_nil | apply n_cd | (apply wg_t; rfl; rfl) | (apply wg_f; rfl; rfl; rfl; rfl) | (apply wg_u; rfl; rfl; rfl) | (apply c_t; rfl) | (apply c_f; rfl) | apply c_skip | apply c_block | apply n_blk | apply c_exit | apply e_hit | apply e_cd | apply e_lp | (apply e_miss; rfl) | apply c_ret | (apply wO; apply o_box; rfl; rfl; rfl; intro _) | (apply wO; apply o_alloc; rfl; intro _) | (apply wO; apply o_st; rfl; rfl; rfl; (first | exact AggC.s | exact OneC.s); rfl; exact rplE; exact putE; rfl) | (apply wO; apply o_bs0; rfl; intro _) | (apply wO; apply o_bs; rfl; rfl; rfl; rfl; exact rptE; exact filE; intro _) | (apply wO; apply o_call; rfl; kernel_rfl; exact evsE))
    refine ret (z.t, z.s) ⟨by show z.t.size ≤ 20; omega, z2.mono (by omega)⟩ rfl
end Go.Proofs.YtidephmobajikaaDoor
/- Draws, for the engine: packets. -/
namespace Go.Proofs.YtidephmobajikaaDoor
open Go.RowKit
set_option maxRecDepth 100000 in
theorem packet_f (B g : Nat) (F : CuF) (s : CuS) (ok : CuOk B s) (hB : B ≤ 800000000000) :
    Fn Tryd.prog 177 [ptr g 0 0] [.sl EByte (.slice F.a F.code.length F.c) F.code F.bs] [.row g 121 0 [] [.slice F.a F.code.length F.c, .int .i64 (s.k : Nat), .int .u64 s.seed] []] (fun (z : Packet × CuS) => (0 ≤ z.1.trail ∧ z.1.trail ≤ 65535 ∧ z.1.data.size ≤ maxLen) ∧ CuOk (B + 60) z.2) (fun s => .agg #[.int .i64 s.1.kind, .int .i64 s.1.number, .int .i64 s.1.trail, .int .i64 s.1.lead, .string s.1.data]) (fun s => [.row g 121 0 [] [.slice F.a F.code.length F.c, .int .i64 (s.2.k : Nat), .int .u64 s.2.seed] []]) := by
  refine enter Tryd.func177 rfl Tryd.ntmps177 fun w0 => ?_
  repeat (first | apply c_seq | apply c_reg | (apply wO; apply oc; rfl; exact ydE) | apply w_nil | apply n_cd | (apply wg_t; rfl; rfl) | (apply wg_f; rfl; rfl; rfl; rfl) | (apply wg_u; rfl; rfl; rfl) | (apply c_t; rfl) | (apply c_f; rfl) | apply c_skip | apply c_block | apply n_blk | apply c_exit | apply e_hit | apply e_cd | apply e_lp | (apply e_miss; rfl) | apply c_ret | (apply wO; apply o_box; rfl; rfl; rfl; intro _) | (apply wO; apply o_alloc; rfl; intro _) | (apply wO; apply o_st; rfl; rfl; rfl; (first | exact AggC.s | exact OneC.s); rfl; exact rplE; exact putE; rfl) | (apply wO; apply o_bs0; rfl; intro _) | (apply wO; apply o_bs; rfl; rfl; rfl; rfl; exact rptE; exact filE; intro _) | (apply wO; apply o_call; rfl; kernel_rfl; exact evsE))
  refine cf (serial_f B g F s ok (by omega)) fun n hn => ?_
  refine t_app ?_
  obtain ⟨hn1, hn2⟩ := hn
  repeat (first | apply c_seq | apply c_reg | (apply wO; apply oc; rfl; exact ydE) | apply w_nil | apply n_cd | (apply wg_t; rfl; rfl) | (apply wg_f; rfl; rfl; rfl; rfl) | (apply wg_u; rfl; rfl; rfl) | (apply c_t; rfl) | (apply c_f; rfl) | apply c_skip | apply c_block | apply n_blk | apply c_exit | apply e_hit | apply e_cd | apply e_lp | (apply e_miss; rfl) | apply c_ret | (apply wO; apply o_box; rfl; rfl; rfl; intro _) | (apply wO; apply o_alloc; rfl; intro _) | (apply wO; apply o_st; rfl; rfl; rfl; (first | exact AggC.s | exact OneC.s); rfl; exact rplE; exact putE; rfl) | (apply wO; apply o_bs0; rfl; intro _) | (apply wO; apply o_bs; rfl; rfl; rfl; rfl; exact rptE; exact filE; intro _) | (apply wO; apply o_call; rfl; kernel_rfl; exact evsE))
  refine cf (pick_f (B + 4) g F 5 n.2 hn2 (by omega) (by omega)) fun y1 hy1 => ?_
  refine t_app ?_
  obtain ⟨hy1, hy2⟩ := hy1
  have hr1 : y1.1 ≤ 4 := by omega
  repeat (first | apply c_seq | apply c_reg | (apply wO; apply oc; rfl; exact ydE) | apply w_nil | apply n_cd | (apply wg_t; rfl; rfl) | (apply wg_f; rfl; rfl; rfl; rfl) | (apply wg_u; rfl; rfl; rfl) | (apply c_t; rfl) | (apply c_f; rfl) | apply c_skip | apply c_block | apply n_blk | apply c_exit | apply e_hit | apply e_cd | apply e_lp | (apply e_miss; rfl) | apply c_ret | (apply wO; apply o_box; rfl; rfl; rfl; intro _) | (apply wO; apply o_alloc; rfl; intro _) | (apply wO; apply o_st; rfl; rfl; rfl; (first | exact AggC.s | exact OneC.s); rfl; exact rplE; exact putE; rfl) | (apply wO; apply o_bs0; rfl; intro _) | (apply wO; apply o_bs; rfl; rfl; rfl; rfl; exact rptE; exact filE; intro _) | (apply wO; apply o_call; rfl; kernel_rfl; exact evsE))
  refine cf (pick_f _ g F 9 y1.2 hy2 (by omega) (by omega)) fun y3 hy3 => ?_
  refine t_app ?_
  obtain ⟨hy3, hy4⟩ := hy3
  repeat (first | apply c_seq | apply c_reg | (apply wO; apply oc; rfl; exact ydE) | apply w_nil | apply n_cd | (apply wg_t; rfl; rfl) | (apply wg_f; rfl; rfl; rfl; rfl) | (apply wg_u; rfl; rfl; rfl) | (apply c_t; rfl) | (apply c_f; rfl) | apply c_skip | apply c_block | apply n_blk | apply c_exit | apply e_hit | apply e_cd | apply e_lp | (apply e_miss; rfl) | apply c_ret | (apply wO; apply o_box; rfl; rfl; rfl; intro _) | (apply wO; apply o_alloc; rfl; intro _) | (apply wO; apply o_st; rfl; rfl; rfl; (first | exact AggC.s | exact OneC.s); rfl; exact rplE; exact putE; rfl) | (apply wO; apply o_bs0; rfl; intro _) | (apply wO; apply o_bs; rfl; rfl; rfl; rfl; exact rptE; exact filE; intro _) | (apply wO; apply o_call; rfl; kernel_rfl; exact evsE))
  refine ce (fun w s => l2After_c _ _ _ (by omega) (by omega)) ?_
  repeat (first | apply c_seq | apply c_reg | (apply wO; apply oc; rfl; exact ydE) | apply w_nil | apply n_cd | (apply wg_t; rfl; rfl) | (apply wg_f; rfl; rfl; rfl; rfl) | (apply wg_u; rfl; rfl; rfl) | (apply c_t; rfl) | (apply c_f; rfl) | apply c_skip | apply c_block | apply n_blk | apply c_exit | apply e_hit | apply e_cd | apply e_lp | (apply e_miss; rfl) | apply c_ret | (apply wO; apply o_box; rfl; rfl; rfl; intro _) | (apply wO; apply o_alloc; rfl; intro _) | (apply wO; apply o_st; rfl; rfl; rfl; (first | exact AggC.s | exact OneC.s); rfl; exact rplE; exact putE; rfl) | (apply wO; apply o_bs0; rfl; intro _) | (apply wO; apply o_bs; rfl; rfl; rfl; rfl; exact rptE; exact filE; intro _) | (apply wO; apply o_call; rfl; kernel_rfl; exact evsE))
  refine cf (pick_f _ g F 10 y3.2 hy4 (by omega) (by omega)) fun y5 hy5 => ?_
  refine t_app ?_
  obtain ⟨hy5, hy6⟩ := hy5
  repeat (first | apply c_seq | apply c_reg | (apply wO; apply oc; rfl; exact ydE) | apply w_nil | apply n_cd | (apply wg_t; rfl; rfl) | (apply wg_f; rfl; rfl; rfl; rfl) | (apply wg_u; rfl; rfl; rfl) | (apply c_t; rfl) | (apply c_f; rfl) | apply c_skip | apply c_block | apply n_blk | apply c_exit | apply e_hit | apply e_cd | apply e_lp | (apply e_miss; rfl) | apply c_ret | (apply wO; apply o_box; rfl; rfl; rfl; intro _) | (apply wO; apply o_alloc; rfl; intro _) | (apply wO; apply o_st; rfl; rfl; rfl; (first | exact AggC.s | exact OneC.s); rfl; exact rplE; exact putE; rfl) | (apply wO; apply o_bs0; rfl; intro _) | (apply wO; apply o_bs; rfl; rfl; rfl; rfl; exact rptE; exact filE; intro _) | (apply wO; apply o_call; rfl; kernel_rfl; exact evsE))
  refine ce (fun w s => l2After_c _ _ _ (by omega) (by omega)) ?_
  repeat (first | apply c_seq | apply c_reg | (apply wO; apply oc; rfl; exact ydE) | apply w_nil | apply n_cd | (apply wg_t; rfl; rfl) | (apply wg_f; rfl; rfl; rfl; rfl) | (apply wg_u; rfl; rfl; rfl) | (apply c_t; rfl) | (apply c_f; rfl) | apply c_skip | apply c_block | apply n_blk | apply c_exit | apply e_hit | apply e_cd | apply e_lp | (apply e_miss; rfl) | apply c_ret | (apply wO; apply o_box; rfl; rfl; rfl; intro _) | (apply wO; apply o_alloc; rfl; intro _) | (apply wO; apply o_st; rfl; rfl; rfl; (first | exact AggC.s | exact OneC.s); rfl; exact rplE; exact putE; rfl) | (apply wO; apply o_bs0; rfl; intro _) | (apply wO; apply o_bs; rfl; rfl; rfl; rfl; exact rptE; exact filE; intro _) | (apply wO; apply o_call; rfl; kernel_rfl; exact evsE))
  refine c_if rfl (fun h1 => ?_) (fun h1 => ?_)
  · repeat (first | apply c_seq | apply c_reg | (apply wO; apply oc; rfl; exact ydE) | apply w_nil | apply n_cd | (apply wg_t; rfl; rfl) | (apply wg_f; rfl; rfl; rfl; rfl) | (apply wg_u; rfl; rfl; rfl) | (apply c_t; rfl) | (apply c_f; rfl) | apply c_skip | apply c_block | apply n_blk | apply c_exit | apply e_hit | apply e_cd | apply e_lp | (apply e_miss; rfl) | apply c_ret | (apply wO; apply o_box; rfl; rfl; rfl; intro _) | (apply wO; apply o_alloc; rfl; intro _) | (apply wO; apply o_st; rfl; rfl; rfl; (first | exact AggC.s | exact OneC.s); rfl; exact rplE; exact putE; rfl) | (apply wO; apply o_bs0; rfl; intro _) | (apply wO; apply o_bs; rfl; rfl; rfl; rfl; exact rptE; exact filE; intro _) | (apply wO; apply o_call; rfl; kernel_rfl; exact evsE))
    refine cf (letters_f _ g F y5.2 8 hy6 (by omega) (by omega) (by omega)) fun l hl => ?_
    refine t_app ?_
    obtain ⟨hl1, hl2⟩ := hl
    repeat (first | apply c_seq | apply c_reg | (apply wO; apply oc; rfl; exact ydE) | apply w_nil | apply n_cd | (apply wg_t; rfl; rfl) | (apply wg_f; rfl; rfl; rfl; rfl) | (apply wg_u; rfl; rfl; rfl) | (apply c_t; rfl) | (apply c_f; rfl) | apply c_skip | apply c_block | apply n_blk | apply c_exit | apply e_hit | apply e_cd | apply e_lp | (apply e_miss; rfl) | apply c_ret | (apply wO; apply o_box; rfl; rfl; rfl; intro _) | (apply wO; apply o_alloc; rfl; intro _) | (apply wO; apply o_st; rfl; rfl; rfl; (first | exact AggC.s | exact OneC.s); rfl; exact rplE; exact putE; rfl) | (apply wO; apply o_bs0; rfl; intro _) | (apply wO; apply o_bs; rfl; rfl; rfl; rfl; exact rptE; exact filE; intro _) | (apply wO; apply o_call; rfl; kernel_rfl; exact evsE))
    refine ret (⟨1 + (y1.1 : Nat), aft n.1 ((y5.1 : Nat) - 1), n.1, aft n.1 (y3.1 : Nat), l.1⟩, l.2) ⟨⟨hn1.1, hn1.2, by show l.1.size ≤ maxLen; unfold maxLen; omega⟩, hl2.mono (by omega)⟩ rfl
  · repeat (first | apply c_seq | apply c_reg | (apply wO; apply oc; rfl; exact ydE) | apply w_nil | apply n_cd | (apply wg_t; rfl; rfl) | (apply wg_f; rfl; rfl; rfl; rfl) | (apply wg_u; rfl; rfl; rfl) | (apply c_t; rfl) | (apply c_f; rfl) | apply c_skip | apply c_block | apply n_blk | apply c_exit | apply e_hit | apply e_cd | apply e_lp | (apply e_miss; rfl) | apply c_ret | (apply wO; apply o_box; rfl; rfl; rfl; intro _) | (apply wO; apply o_alloc; rfl; intro _) | (apply wO; apply o_st; rfl; rfl; rfl; (first | exact AggC.s | exact OneC.s); rfl; exact rplE; exact putE; rfl) | (apply wO; apply o_bs0; rfl; intro _) | (apply wO; apply o_bs; rfl; rfl; rfl; rfl; exact rptE; exact filE; intro _) | (apply wO; apply o_call; rfl; kernel_rfl; exact evsE))
    refine ret (⟨1 + (y1.1 : Nat), aft n.1 ((y5.1 : Nat) - 1), n.1, aft n.1 (y3.1 : Nat), ⟨#[]⟩⟩, y5.2) ⟨⟨hn1.1, hn1.2, by show (⟨#[]⟩ : ByteArray).size ≤ maxLen; decide⟩, hy6.mono (by omega)⟩ rfl
set_option maxRecDepth 100000 in
theorem anyPacket_f (B g : Nat) (F : CuF) (s : CuS) (ok : CuOk B s) (hB : B ≤ 700000000000) :
    Fn Tryd.prog 114 [ptr g 0 0] [.sl EByte (.slice F.a F.code.length F.c) F.code F.bs] [.row g 121 0 [] [.slice F.a F.code.length F.c, .int .i64 (s.k : Nat), .int .u64 s.seed] []] (fun (z : Packet × CuS) => z.1.data.size ≤ maxLen ∧ CuOk (B + 100) z.2) (fun s => .agg #[.int .i64 s.1.kind, .int .i64 s.1.number, .int .i64 s.1.trail, .int .i64 s.1.lead, .string s.1.data]) (fun s => [.row g 121 0 [] [.slice F.a F.code.length F.c, .int .i64 (s.2.k : Nat), .int .u64 s.2.seed] []]) := by
  refine enter Tryd.func114 rfl Tryd.ntmps114 fun w0 => ?_
  repeat (first | apply c_seq | apply c_reg | (apply wO; apply oc; rfl; exact ydE) | apply w_nil | apply n_cd | (apply wg_t; rfl; rfl) | (apply wg_f; rfl; rfl; rfl; rfl) | (apply wg_u; rfl; rfl; rfl) | (apply c_t; rfl) | (apply c_f; rfl) | apply c_skip | apply c_block | apply n_blk | apply c_exit | apply e_hit | apply e_cd | apply e_lp | (apply e_miss; rfl) | apply c_ret | (apply wO; apply o_box; rfl; rfl; rfl; intro _) | (apply wO; apply o_alloc; rfl; intro _) | (apply wO; apply o_st; rfl; rfl; rfl; (first | exact AggC.s | exact OneC.s); rfl; exact rplE; exact putE; rfl) | (apply wO; apply o_bs0; rfl; intro _) | (apply wO; apply o_bs; rfl; rfl; rfl; rfl; exact rptE; exact filE; intro _) | (apply wO; apply o_call; rfl; kernel_rfl; exact evsE))
  refine cf (packet_f B g F s ok (by omega)) fun z hz => ?_
  refine t_app ?_
  obtain ⟨⟨t0, t1, hz1⟩, hz2⟩ := hz
  repeat (first | apply c_seq | apply c_reg | (apply wO; apply oc; rfl; exact ydE) | apply w_nil | apply n_cd | (apply wg_t; rfl; rfl) | (apply wg_f; rfl; rfl; rfl; rfl) | (apply wg_u; rfl; rfl; rfl) | (apply c_t; rfl) | (apply c_f; rfl) | apply c_skip | apply c_block | apply n_blk | apply c_exit | apply e_hit | apply e_cd | apply e_lp | (apply e_miss; rfl) | apply c_ret | (apply wO; apply o_box; rfl; rfl; rfl; intro _) | (apply wO; apply o_alloc; rfl; intro _) | (apply wO; apply o_st; rfl; rfl; rfl; (first | exact AggC.s | exact OneC.s); rfl; exact rplE; exact putE; rfl) | (apply wO; apply o_bs0; rfl; intro _) | (apply wO; apply o_bs; rfl; rfl; rfl; rfl; exact rptE; exact filE; intro _) | (apply wO; apply o_call; rfl; kernel_rfl; exact evsE))
  refine cf (pick_f _ g F 24 z.2 hz2 (by omega) (by omega)) fun p hp => ?_
  refine t_app ?_
  obtain ⟨r, s3⟩ := p
  obtain ⟨-, hp⟩ := hp
  dsimp only at hp ⊢
  repeat (first | apply c_seq | apply c_reg | (apply wO; apply oc; rfl; exact ydE) | apply w_nil | apply n_cd | (apply wg_t; rfl; rfl) | (apply wg_f; rfl; rfl; rfl; rfl) | (apply wg_u; rfl; rfl; rfl) | (apply c_t; rfl) | (apply c_f; rfl) | apply c_skip | apply c_block | apply n_blk | apply c_exit | apply e_hit | apply e_cd | apply e_lp | (apply e_miss; rfl) | apply c_ret | (apply wO; apply o_box; rfl; rfl; rfl; intro _) | (apply wO; apply o_alloc; rfl; intro _) | (apply wO; apply o_st; rfl; rfl; rfl; (first | exact AggC.s | exact OneC.s); rfl; exact rplE; exact putE; rfl) | (apply wO; apply o_bs0; rfl; intro _) | (apply wO; apply o_bs; rfl; rfl; rfl; rfl; exact rptE; exact filE; intro _) | (apply wO; apply o_call; rfl; kernel_rfl; exact evsE))
  refine c_if rfl (fun e0 => ?_) (fun e0 => ?_)
  · repeat (first | apply c_seq | apply c_reg | (apply wO; apply oc; rfl; exact ydE) | apply w_nil | apply n_cd | (apply wg_t; rfl; rfl) | (apply wg_f; rfl; rfl; rfl; rfl) | (apply wg_u; rfl; rfl; rfl) | (apply c_t; rfl) | (apply c_f; rfl) | apply c_skip | apply c_block | apply n_blk | apply c_exit | apply e_hit | apply e_cd | apply e_lp | (apply e_miss; rfl) | apply c_ret | (apply wO; apply o_box; rfl; rfl; rfl; intro _) | (apply wO; apply o_alloc; rfl; intro _) | (apply wO; apply o_st; rfl; rfl; rfl; (first | exact AggC.s | exact OneC.s); rfl; exact rplE; exact putE; rfl) | (apply wO; apply o_bs0; rfl; intro _) | (apply wO; apply o_bs; rfl; rfl; rfl; rfl; exact rptE; exact filE; intro _))
    refine t_row (xs := [0, 6, 5]) (fun w => flat_int w _) ?_ (by decide)
    refine t_read (E := EInt) fun G => ?_
    repeat (first | apply c_seq | apply c_reg | (apply wO; apply oc; rfl; exact ydE) | apply w_nil | apply n_cd | (apply wg_t; rfl; rfl) | (apply wg_f; rfl; rfl; rfl; rfl) | (apply wg_u; rfl; rfl; rfl) | (apply c_t; rfl) | (apply c_f; rfl) | apply c_skip | apply c_block | apply n_blk | apply c_exit | apply e_hit | apply e_cd | apply e_lp | (apply e_miss; rfl) | apply c_ret | (apply wO; apply o_box; rfl; rfl; rfl; intro _) | (apply wO; apply o_alloc; rfl; intro _) | (apply wO; apply o_st; rfl; rfl; rfl; (first | exact AggC.s | exact OneC.s); rfl; exact rplE; exact putE; rfl) | (apply wO; apply o_bs0; rfl; intro _) | (apply wO; apply o_bs; rfl; rfl; rfl; rfl; exact rptE; exact filE; intro _) | (apply wO; apply o_call; rfl; kernel_rfl; exact evsE))
    refine cf (among_f _ g F _ [0, 6, 5] G s3 hp (by omega) (by decide) (by decide)) fun q hq => ?_
    refine t_app ?_
    repeat (first | apply c_seq | apply c_reg | (apply wO; apply oc; rfl; exact ydE) | apply w_nil | apply n_cd | (apply wg_t; rfl; rfl) | (apply wg_f; rfl; rfl; rfl; rfl) | (apply wg_u; rfl; rfl; rfl) | (apply c_t; rfl) | (apply c_f; rfl) | apply c_skip | apply c_block | apply n_blk | apply c_exit | apply e_hit | apply e_cd | apply e_lp | (apply e_miss; rfl) | apply c_ret | (apply wO; apply o_box; rfl; rfl; rfl; intro _) | (apply wO; apply o_alloc; rfl; intro _) | (apply wO; apply o_st; rfl; rfl; rfl; (first | exact AggC.s | exact OneC.s); rfl; exact rplE; exact putE; rfl) | (apply wO; apply o_bs0; rfl; intro _) | (apply wO; apply o_bs; rfl; rfl; rfl; rfl; exact rptE; exact filE; intro _) | (apply wO; apply o_call; rfl; kernel_rfl; exact evsE))
    refine ret (⟨q.1, z.1.number, z.1.trail, z.1.lead, z.1.data⟩, q.2) ⟨hz1, hq.2.mono (by omega)⟩ rfl
  · repeat (first | apply c_seq | apply c_reg | (apply wO; apply oc; rfl; exact ydE) | apply w_nil | apply n_cd | (apply wg_t; rfl; rfl) | (apply wg_f; rfl; rfl; rfl; rfl) | (apply wg_u; rfl; rfl; rfl) | (apply c_t; rfl) | (apply c_f; rfl) | apply c_skip | apply c_block | apply n_blk | apply c_exit | apply e_hit | apply e_cd | apply e_lp | (apply e_miss; rfl) | apply c_ret | (apply wO; apply o_box; rfl; rfl; rfl; intro _) | (apply wO; apply o_alloc; rfl; intro _) | (apply wO; apply o_st; rfl; rfl; rfl; (first | exact AggC.s | exact OneC.s); rfl; exact rplE; exact putE; rfl) | (apply wO; apply o_bs0; rfl; intro _) | (apply wO; apply o_bs; rfl; rfl; rfl; rfl; exact rptE; exact filE; intro _) | (apply wO; apply o_call; rfl; kernel_rfl; exact evsE))
    refine c_if rfl (fun e1 => ?_) (fun e1 => ?_)
    · repeat (first | apply c_seq | apply c_reg | (apply wO; apply oc; rfl; exact ydE) | apply w_nil | apply n_cd | (apply wg_t; rfl; rfl) | (apply wg_f; rfl; rfl; rfl; rfl) | (apply wg_u; rfl; rfl; rfl) | (apply c_t; rfl) | (apply c_f; rfl) | apply c_skip | apply c_block | apply n_blk | apply c_exit | apply e_hit | apply e_cd | apply e_lp | (apply e_miss; rfl) | apply c_ret | (apply wO; apply o_box; rfl; rfl; rfl; intro _) | (apply wO; apply o_alloc; rfl; intro _) | (apply wO; apply o_st; rfl; rfl; rfl; (first | exact AggC.s | exact OneC.s); rfl; exact rplE; exact putE; rfl) | (apply wO; apply o_bs0; rfl; intro _) | (apply wO; apply o_bs; rfl; rfl; rfl; rfl; exact rptE; exact filE; intro _))
      refine t_row (xs := [-1, 65536, 65535]) (fun w => flat_int w _) ?_ (by decide)
      refine t_read (E := EInt) fun G => ?_
      repeat (first | apply c_seq | apply c_reg | (apply wO; apply oc; rfl; exact ydE) | apply w_nil | apply n_cd | (apply wg_t; rfl; rfl) | (apply wg_f; rfl; rfl; rfl; rfl) | (apply wg_u; rfl; rfl; rfl) | (apply c_t; rfl) | (apply c_f; rfl) | apply c_skip | apply c_block | apply n_blk | apply c_exit | apply e_hit | apply e_cd | apply e_lp | (apply e_miss; rfl) | apply c_ret | (apply wO; apply o_box; rfl; rfl; rfl; intro _) | (apply wO; apply o_alloc; rfl; intro _) | (apply wO; apply o_st; rfl; rfl; rfl; (first | exact AggC.s | exact OneC.s); rfl; exact rplE; exact putE; rfl) | (apply wO; apply o_bs0; rfl; intro _) | (apply wO; apply o_bs; rfl; rfl; rfl; rfl; exact rptE; exact filE; intro _) | (apply wO; apply o_call; rfl; kernel_rfl; exact evsE))
      refine cf (among_f _ g F _ [-1, 65536, 65535] G s3 hp (by omega) (by decide) (by decide)) fun q hq => ?_
      refine t_app ?_
      repeat (first | apply c_seq | apply c_reg | (apply wO; apply oc; rfl; exact ydE) | apply w_nil | apply n_cd | (apply wg_t; rfl; rfl) | (apply wg_f; rfl; rfl; rfl; rfl) | (apply wg_u; rfl; rfl; rfl) | (apply c_t; rfl) | (apply c_f; rfl) | apply c_skip | apply c_block | apply n_blk | apply c_exit | apply e_hit | apply e_cd | apply e_lp | (apply e_miss; rfl) | apply c_ret | (apply wO; apply o_box; rfl; rfl; rfl; intro _) | (apply wO; apply o_alloc; rfl; intro _) | (apply wO; apply o_st; rfl; rfl; rfl; (first | exact AggC.s | exact OneC.s); rfl; exact rplE; exact putE; rfl) | (apply wO; apply o_bs0; rfl; intro _) | (apply wO; apply o_bs; rfl; rfl; rfl; rfl; exact rptE; exact filE; intro _) | (apply wO; apply o_call; rfl; kernel_rfl; exact evsE))
      refine ret (⟨z.1.kind, q.1, z.1.trail, z.1.lead, z.1.data⟩, q.2) ⟨hz1, hq.2.mono (by omega)⟩ rfl
    · repeat (first | apply c_seq | apply c_reg | (apply wO; apply oc; rfl; exact ydE) | apply w_nil | apply n_cd | (apply wg_t; rfl; rfl) | (apply wg_f; rfl; rfl; rfl; rfl) | (apply wg_u; rfl; rfl; rfl) | (apply c_t; rfl) | (apply c_f; rfl) | apply c_skip | apply c_block | apply n_blk | apply c_exit | apply e_hit | apply e_cd | apply e_lp | (apply e_miss; rfl) | apply c_ret | (apply wO; apply o_box; rfl; rfl; rfl; intro _) | (apply wO; apply o_alloc; rfl; intro _) | (apply wO; apply o_st; rfl; rfl; rfl; (first | exact AggC.s | exact OneC.s); rfl; exact rplE; exact putE; rfl) | (apply wO; apply o_bs0; rfl; intro _) | (apply wO; apply o_bs; rfl; rfl; rfl; rfl; exact rptE; exact filE; intro _) | (apply wO; apply o_call; rfl; kernel_rfl; exact evsE))
      refine c_if rfl (fun e2 => ?_) (fun e2 => ?_)
      · repeat (first | apply c_seq | apply c_reg | (apply wO; apply oc; rfl; exact ydE) | apply w_nil | apply n_cd | (apply wg_t; rfl; rfl) | (apply wg_f; rfl; rfl; rfl; rfl) | (apply wg_u; rfl; rfl; rfl) | (apply c_t; rfl) | (apply c_f; rfl) | apply c_skip | apply c_block | apply n_blk | apply c_exit | apply e_hit | apply e_cd | apply e_lp | (apply e_miss; rfl) | apply c_ret | (apply wO; apply o_box; rfl; rfl; rfl; intro _) | (apply wO; apply o_alloc; rfl; intro _) | (apply wO; apply o_st; rfl; rfl; rfl; (first | exact AggC.s | exact OneC.s); rfl; exact rplE; exact putE; rfl) | (apply wO; apply o_bs0; rfl; intro _) | (apply wO; apply o_bs; rfl; rfl; rfl; rfl; exact rptE; exact filE; intro _))
        refine d_start [1] [7] ?_
        refine dt 0 ?_
        refine dt 1 ?_
        refine dt 2 ?_
        refine dO 3 (by kernel_rfl) (by rw [List.getElem?_toArray]; rfl) ?_
        apply o_bs; rfl; rfl; rfl; rfl; exact rptE; exact filE; intro _
        refine t_row (xs := [32767, 32768]) (fun w => flat_int w _) ?_ (by decide)
        refine t_read (E := EInt) fun G => ?_
        refine dk ?_
        refine dO 4 (by kernel_rfl) (by rw [List.getElem?_toArray]; rfl) ?_
        apply o_call; rfl; kernel_rfl; exact evsE
        refine cf (among_f _ g F _ [32767, 32768] G s3 hp (by omega) (by decide) (by decide)) fun q hq => ?_
        refine t_app ?_
        have hq3 : 0 ≤ q.1 ∧ q.1 ≤ 32768 := by have := hq.1; simp only [List.mem_cons, List.not_mem_nil, or_false] at this; omega
        refine dk ?_
        refine dO 5 (by kernel_rfl) (by rw [List.getElem?_toArray]; rfl) ?_
        apply o_call; rfl; kernel_rfl; exact evsE
        refine ce (fun w s => l2After_c _ _ _ (by omega) (by omega)) ?_
        refine dk ?_
        refine dt 6 ?_
        refine dO 7 (by kernel_rfl) (by rw [List.getElem?_toArray]; rfl) ?_
        apply o_st; rfl; rfl; rfl; (first | exact AggC.s | exact OneC.s); rfl; exact rplE; exact putE; rfl
        refine dkx ?_
        refine dd ?_
        repeat (first | apply c_seq | apply c_reg | (apply wO; apply oc; rfl; exact ydE) | apply w_nil | apply n_cd | (apply wg_t; rfl; rfl) | (apply wg_f; rfl; rfl; rfl; rfl) | (apply wg_u; rfl; rfl; rfl) | (apply c_t; rfl) | (apply c_f; rfl) | apply c_skip | apply c_block | apply n_blk | apply c_exit | apply e_hit | apply e_cd | apply e_lp | (apply e_miss; rfl) | apply c_ret | (apply wO; apply o_box; rfl; rfl; rfl; intro _) | (apply wO; apply o_alloc; rfl; intro _) | (apply wO; apply o_st; rfl; rfl; rfl; (first | exact AggC.s | exact OneC.s); rfl; exact rplE; exact putE; rfl) | (apply wO; apply o_bs0; rfl; intro _) | (apply wO; apply o_bs; rfl; rfl; rfl; rfl; exact rptE; exact filE; intro _) | (apply wO; apply o_call; rfl; kernel_rfl; exact evsE))
        refine ret (⟨z.1.kind, z.1.number, z.1.trail, aft z.1.trail q.1, z.1.data⟩, q.2) ⟨hz1, hq.2.mono (by omega)⟩ rfl
      · repeat (first | apply c_seq | apply c_reg | (apply wO; apply oc; rfl; exact ydE) | apply w_nil | apply n_cd | (apply wg_t; rfl; rfl) | (apply wg_f; rfl; rfl; rfl; rfl) | (apply wg_u; rfl; rfl; rfl) | (apply c_t; rfl) | (apply c_f; rfl) | apply c_skip | apply c_block | apply n_blk | apply c_exit | apply e_hit | apply e_cd | apply e_lp | (apply e_miss; rfl) | apply c_ret | (apply wO; apply o_box; rfl; rfl; rfl; intro _) | (apply wO; apply o_alloc; rfl; intro _) | (apply wO; apply o_st; rfl; rfl; rfl; (first | exact AggC.s | exact OneC.s); rfl; exact rplE; exact putE; rfl) | (apply wO; apply o_bs0; rfl; intro _) | (apply wO; apply o_bs; rfl; rfl; rfl; rfl; exact rptE; exact filE; intro _) | (apply wO; apply o_call; rfl; kernel_rfl; exact evsE))
        refine c_if rfl (fun e3 => ?_) (fun e3 => ?_)
        · repeat (first | apply c_seq | apply c_reg | (apply wO; apply oc; rfl; exact ydE) | apply w_nil | apply n_cd | (apply wg_t; rfl; rfl) | (apply wg_f; rfl; rfl; rfl; rfl) | (apply wg_u; rfl; rfl; rfl) | (apply c_t; rfl) | (apply c_f; rfl) | apply c_skip | apply c_block | apply n_blk | apply c_exit | apply e_hit | apply e_cd | apply e_lp | (apply e_miss; rfl) | apply c_ret | (apply wO; apply o_box; rfl; rfl; rfl; intro _) | (apply wO; apply o_alloc; rfl; intro _) | (apply wO; apply o_st; rfl; rfl; rfl; (first | exact AggC.s | exact OneC.s); rfl; exact rplE; exact putE; rfl) | (apply wO; apply o_bs0; rfl; intro _) | (apply wO; apply o_bs; rfl; rfl; rfl; rfl; exact rptE; exact filE; intro _))
          refine t_row (xs := [⟨#[97, 98, 99, 100, 101, 102, 103, 104]⟩, ⟨#[97, 98, 99, 100, 101, 102, 103, 104, 105]⟩, ⟨#[65]⟩, ⟨#[97, 32, 98]⟩, ⟨#[97]⟩]) (fun w => flat_s w _ (by decide)) ?_ (by decide)
          refine t_read (E := EStr) fun G => ?_
          repeat (first | apply c_seq | apply c_reg | (apply wO; apply oc; rfl; exact ydE) | apply w_nil | apply n_cd | (apply wg_t; rfl; rfl) | (apply wg_f; rfl; rfl; rfl; rfl) | (apply wg_u; rfl; rfl; rfl) | (apply c_t; rfl) | (apply c_f; rfl) | apply c_skip | apply c_block | apply n_blk | apply c_exit | apply e_hit | apply e_cd | apply e_lp | (apply e_miss; rfl) | apply c_ret | (apply wO; apply o_box; rfl; rfl; rfl; intro _) | (apply wO; apply o_alloc; rfl; intro _) | (apply wO; apply o_st; rfl; rfl; rfl; (first | exact AggC.s | exact OneC.s); rfl; exact rplE; exact putE; rfl) | (apply wO; apply o_bs0; rfl; intro _) | (apply wO; apply o_bs; rfl; rfl; rfl; rfl; exact rptE; exact filE; intro _) | (apply wO; apply o_call; rfl; kernel_rfl; exact evsE))
          refine cf (of_f _ g F _ [⟨#[97, 98, 99, 100, 101, 102, 103, 104]⟩, ⟨#[97, 98, 99, 100, 101, 102, 103, 104, 105]⟩, ⟨#[65]⟩, ⟨#[97, 32, 98]⟩, ⟨#[97]⟩] G s3 hp (by omega) (by decide) (by decide)) fun q hq => ?_
          refine t_app ?_
          have hq3 : q.1.size ≤ maxLen := by have := hq.1; simp only [List.mem_cons, List.not_mem_nil, or_false] at this; rcases this with e | e | e | e | e <;> rw [e] <;> decide
          repeat (first | apply c_seq | apply c_reg | (apply wO; apply oc; rfl; exact ydE) | apply w_nil | apply n_cd | (apply wg_t; rfl; rfl) | (apply wg_f; rfl; rfl; rfl; rfl) | (apply wg_u; rfl; rfl; rfl) | (apply c_t; rfl) | (apply c_f; rfl) | apply c_skip | apply c_block | apply n_blk | apply c_exit | apply e_hit | apply e_cd | apply e_lp | (apply e_miss; rfl) | apply c_ret | (apply wO; apply o_box; rfl; rfl; rfl; intro _) | (apply wO; apply o_alloc; rfl; intro _) | (apply wO; apply o_st; rfl; rfl; rfl; (first | exact AggC.s | exact OneC.s); rfl; exact rplE; exact putE; rfl) | (apply wO; apply o_bs0; rfl; intro _) | (apply wO; apply o_bs; rfl; rfl; rfl; rfl; exact rptE; exact filE; intro _) | (apply wO; apply o_call; rfl; kernel_rfl; exact evsE))
          refine ret (⟨z.1.kind, z.1.number, z.1.trail, z.1.lead, q.1⟩, q.2) ⟨hq3, hq.2.mono (by omega)⟩ rfl
        · repeat (first | apply c_seq | apply c_reg | (apply wO; apply oc; rfl; exact ydE) | apply w_nil | apply n_cd | (apply wg_t; rfl; rfl) | (apply wg_f; rfl; rfl; rfl; rfl) | (apply wg_u; rfl; rfl; rfl) | (apply c_t; rfl) | (apply c_f; rfl) | apply c_skip | apply c_block | apply n_blk | apply c_exit | apply e_hit | apply e_cd | apply e_lp | (apply e_miss; rfl) | apply c_ret | (apply wO; apply o_box; rfl; rfl; rfl; intro _) | (apply wO; apply o_alloc; rfl; intro _) | (apply wO; apply o_st; rfl; rfl; rfl; (first | exact AggC.s | exact OneC.s); rfl; exact rplE; exact putE; rfl) | (apply wO; apply o_bs0; rfl; intro _) | (apply wO; apply o_bs; rfl; rfl; rfl; rfl; exact rptE; exact filE; intro _) | (apply wO; apply o_call; rfl; kernel_rfl; exact evsE))
          refine ret (z.1, s3) ⟨hz1, hp.mono (by omega)⟩ rfl
end Go.Proofs.YtidephmobajikaaDoor
