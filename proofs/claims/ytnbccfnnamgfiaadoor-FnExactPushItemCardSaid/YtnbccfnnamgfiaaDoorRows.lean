/-
  NARROWER THAN 'FOR EVERY INPUT', by the rows' own cells (each row's printed sentence says how): FnExactDropFrom: laid · FnExactTakeFrom: laid · FnExactPushItem: laid · FnExactGiveUpTo: laid · FnExactTakeItem: laid · FnExactSendOn: laid · FnExactSendAll: laid · FnExactTrimSource: laid · FnExactSendFrom: laid · FnExactTickSource: laid.
  DERIVED. THE GIVEN ROWS OF THIS SEAT. 10 by the template 'for every input the law returns true; each argument reads behind the call as it read before'; 0 by the template 'total and deterministic' (their statements: YtnbccfnnamgfiaaDoorTotals.lean).
  GIVEN WITH THE SEED: the statements are not yours to turn. If you find one false, say at which input.
  Laid BY PROGRAM, IN A SANDBOX (cutbox-rows.mjs): the forced cells as the released guide's own fill.sh prints them over the translation 1dc278f3eb600089… (all of the seat's roots in one cut). By AI agents, Wed Nov 11 2026. No macro, syntax, notation, axiom, sorry.
-/
import Derived.Test.YtnbccfnnamgfiaaDoorChecked
import GoSem.PinnedTables
import GoSem.Claim
import GoSem.ClaimJoined
import GoSem.ClaimMapViews
import Derived.JoinedTies
import Derived.KernelRfl
namespace Go.Proofs.YtnbccfnnamgfiaaDoor
/- THE CELL 'sum', in the pinned program and in every row, IS THE sha256 OF THE DUMP (.gsa) THAT YtnbccfnnamgfiaaDoorProg.lean LOADS. Nothing in Lean hashes anything: it is a label: what it is worth is what the hold of that sum in a sandbox is worth. -/
noncomputable def Tryd.pinned : Pinned := { name := "ytnbccfnnamgfiaadoor", sum := "1dc278f3eb600089b24bb3aa2e1effcfe00ea9c7deb1d4cc4a18c20ec2c7945a", checked := Tryd.checked }
namespace Rows
def none {H : Type} : Left H := { results := [], args := [] }

/- WHAT THE LISTED PACKAGE-LEVEL VARIABLES READ AS WHEN THE CALL BEGINS. Each datum BY PROGRAM (the guide's laid-datum.mjs) off the statement by which the dump's own 'gosem.cut.vars' lays the variable. In a bare row this is a premise. The card (YtnbccfnnamgfiaaDoorCards.lean) ties it to the program's text. -/
def laid_unicode_utf8_acceptRanges {H : Type} : DataW H := .agg [.agg [.lit (.int .u8 128), .lit (.int .u8 191)], .agg [.lit (.int .u8 160), .lit (.int .u8 191)], .agg [.lit (.int .u8 128), .lit (.int .u8 159)], .agg [.lit (.int .u8 144), .lit (.int .u8 191)], .agg [.lit (.int .u8 128), .lit (.int .u8 143)], .agg [.lit (.int .u8 0), .lit (.int .u8 0)], .agg [.lit (.int .u8 0), .lit (.int .u8 0)], .agg [.lit (.int .u8 0), .lit (.int .u8 0)], .agg [.lit (.int .u8 0), .lit (.int .u8 0)], .agg [.lit (.int .u8 0), .lit (.int .u8 0)], .agg [.lit (.int .u8 0), .lit (.int .u8 0)], .agg [.lit (.int .u8 0), .lit (.int .u8 0)], .agg [.lit (.int .u8 0), .lit (.int .u8 0)], .agg [.lit (.int .u8 0), .lit (.int .u8 0)], .agg [.lit (.int .u8 0), .lit (.int .u8 0)], .agg [.lit (.int .u8 0), .lit (.int .u8 0)]]
/-- One of Go's own tables, pinned by name: the form's constant. -/
def laid_unicode_utf8_first : DataW Unit := Go.Pinned.utf8First

/-- 'laws.FnExactDropFrom': WHATEVER THE INPUT: true; the input reads as it did. -/
def fnExactDropFromSpec : ChangeSpec := { name := "fnExactDropFrom", fn := fun _ => fun
  | [d1, d2] => { results := [.lit (.bool true)], args := [d1, d2] }
  | _ => none }
def fnExactDropFromRow : OpenClaim := { program := "ytnbccfnnamgfiaadoor", sum := "1dc278f3eb600089b24bb3aa2e1effcfe00ea9c7deb1d4cc4a18c20ec2c7945a", func := "loop.example/g00840/laws.FnExactDropFrom", spec := "fnExactDropFrom", inPlace := ["internal/bytealg.IndexByteString", "internal/bytealg.IndexString"], unfollowed := true, recurses := true, named := ["unicode/utf8.first", "unicode/utf8.acceptRanges", "internal/bytealg.MaxLen"], apart := false, laid := [("unicode/utf8.acceptRanges", laid_unicode_utf8_acceptRanges), ("unicode/utf8.first", laid_unicode_utf8_first)] }
def FnExactDropFromSaid : Prop := fnExactDropFromRow.holds Tryd.pinned (OpenSpec.ofChange fnExactDropFromSpec)

/-- ITS FALSE NEIGHBOUR: 'it returns false'. Refute it at one input. -/
def fnExactDropFromWrong : ChangeSpec := { name := "fnExactDropFrom", fn := fun _ => fun
  | [d1, d2] => { results := [.lit (.bool false)], args := [d1, d2] }
  | _ => none }
def FnExactDropFromWrongFalsely : Prop := fnExactDropFromRow.holds Tryd.pinned (OpenSpec.ofChange fnExactDropFromWrong)

/-- 'laws.FnExactTakeFrom': WHATEVER THE INPUT: true; the input reads as it did. -/
def fnExactTakeFromSpec : ChangeSpec := { name := "fnExactTakeFrom", fn := fun _ => fun
  | [d] => { results := [.lit (.bool true)], args := [d] }
  | _ => none }
def fnExactTakeFromRow : OpenClaim := { program := "ytnbccfnnamgfiaadoor", sum := "1dc278f3eb600089b24bb3aa2e1effcfe00ea9c7deb1d4cc4a18c20ec2c7945a", func := "loop.example/g00840/laws.FnExactTakeFrom", spec := "fnExactTakeFrom", inPlace := ["internal/bytealg.IndexByteString", "internal/bytealg.IndexString"], unfollowed := true, recurses := true, named := ["unicode/utf8.first", "unicode/utf8.acceptRanges", "internal/bytealg.MaxLen"], apart := false, laid := [("unicode/utf8.acceptRanges", laid_unicode_utf8_acceptRanges), ("unicode/utf8.first", laid_unicode_utf8_first)] }
def FnExactTakeFromSaid : Prop := fnExactTakeFromRow.holds Tryd.pinned (OpenSpec.ofChange fnExactTakeFromSpec)

/-- ITS FALSE NEIGHBOUR: 'it returns false'. Refute it at one input. -/
def fnExactTakeFromWrong : ChangeSpec := { name := "fnExactTakeFrom", fn := fun _ => fun
  | [d] => { results := [.lit (.bool false)], args := [d] }
  | _ => none }
def FnExactTakeFromWrongFalsely : Prop := fnExactTakeFromRow.holds Tryd.pinned (OpenSpec.ofChange fnExactTakeFromWrong)

/-- 'laws.FnExactPushItem': WHATEVER THE INPUT: true; the input reads as it did. -/
def fnExactPushItemSpec : ChangeSpec := { name := "fnExactPushItem", fn := fun _ => fun
  | [d1, d2] => { results := [.lit (.bool true)], args := [d1, d2] }
  | _ => none }
def fnExactPushItemRow : OpenClaim := { program := "ytnbccfnnamgfiaadoor", sum := "1dc278f3eb600089b24bb3aa2e1effcfe00ea9c7deb1d4cc4a18c20ec2c7945a", func := "loop.example/g00840/laws.FnExactPushItem", spec := "fnExactPushItem", inPlace := ["internal/bytealg.IndexByteString", "internal/bytealg.IndexString"], unfollowed := true, recurses := true, named := ["unicode/utf8.first", "unicode/utf8.acceptRanges", "internal/bytealg.MaxLen"], apart := false, laid := [("unicode/utf8.acceptRanges", laid_unicode_utf8_acceptRanges), ("unicode/utf8.first", laid_unicode_utf8_first)] }
def FnExactPushItemSaid : Prop := fnExactPushItemRow.holds Tryd.pinned (OpenSpec.ofChange fnExactPushItemSpec)

/-- ITS FALSE NEIGHBOUR: 'it returns false'. Refute it at one input. -/
def fnExactPushItemWrong : ChangeSpec := { name := "fnExactPushItem", fn := fun _ => fun
  | [d1, d2] => { results := [.lit (.bool false)], args := [d1, d2] }
  | _ => none }
def FnExactPushItemWrongFalsely : Prop := fnExactPushItemRow.holds Tryd.pinned (OpenSpec.ofChange fnExactPushItemWrong)

/-- 'laws.FnExactGiveUpTo': WHATEVER THE INPUT: true; the input reads as it did. -/
def fnExactGiveUpToSpec : ChangeSpec := { name := "fnExactGiveUpTo", fn := fun _ => fun
  | [d1, d2] => { results := [.lit (.bool true)], args := [d1, d2] }
  | _ => none }
def fnExactGiveUpToRow : OpenClaim := { program := "ytnbccfnnamgfiaadoor", sum := "1dc278f3eb600089b24bb3aa2e1effcfe00ea9c7deb1d4cc4a18c20ec2c7945a", func := "loop.example/g00840/laws.FnExactGiveUpTo", spec := "fnExactGiveUpTo", inPlace := ["internal/bytealg.IndexByteString", "internal/bytealg.IndexString"], unfollowed := true, recurses := true, named := ["unicode/utf8.first", "unicode/utf8.acceptRanges", "internal/bytealg.MaxLen"], apart := false, laid := [("unicode/utf8.acceptRanges", laid_unicode_utf8_acceptRanges), ("unicode/utf8.first", laid_unicode_utf8_first)] }
def FnExactGiveUpToSaid : Prop := fnExactGiveUpToRow.holds Tryd.pinned (OpenSpec.ofChange fnExactGiveUpToSpec)

/-- ITS FALSE NEIGHBOUR: 'it returns false'. Refute it at one input. -/
def fnExactGiveUpToWrong : ChangeSpec := { name := "fnExactGiveUpTo", fn := fun _ => fun
  | [d1, d2] => { results := [.lit (.bool false)], args := [d1, d2] }
  | _ => none }
def FnExactGiveUpToWrongFalsely : Prop := fnExactGiveUpToRow.holds Tryd.pinned (OpenSpec.ofChange fnExactGiveUpToWrong)

/-- 'laws.FnExactTakeItem': WHATEVER THE INPUT: true; the input reads as it did. -/
def fnExactTakeItemSpec : ChangeSpec := { name := "fnExactTakeItem", fn := fun _ => fun
  | [d1, d2, d3] => { results := [.lit (.bool true)], args := [d1, d2, d3] }
  | _ => none }
def fnExactTakeItemRow : OpenClaim := { program := "ytnbccfnnamgfiaadoor", sum := "1dc278f3eb600089b24bb3aa2e1effcfe00ea9c7deb1d4cc4a18c20ec2c7945a", func := "loop.example/g00840/laws.FnExactTakeItem", spec := "fnExactTakeItem", inPlace := ["internal/bytealg.IndexByteString", "internal/bytealg.IndexString"], unfollowed := true, recurses := true, named := ["unicode/utf8.first", "unicode/utf8.acceptRanges", "internal/bytealg.MaxLen"], apart := false, laid := [("unicode/utf8.acceptRanges", laid_unicode_utf8_acceptRanges), ("unicode/utf8.first", laid_unicode_utf8_first)] }
def FnExactTakeItemSaid : Prop := fnExactTakeItemRow.holds Tryd.pinned (OpenSpec.ofChange fnExactTakeItemSpec)

/-- ITS FALSE NEIGHBOUR: 'it returns false'. Refute it at one input. -/
def fnExactTakeItemWrong : ChangeSpec := { name := "fnExactTakeItem", fn := fun _ => fun
  | [d1, d2, d3] => { results := [.lit (.bool false)], args := [d1, d2, d3] }
  | _ => none }
def FnExactTakeItemWrongFalsely : Prop := fnExactTakeItemRow.holds Tryd.pinned (OpenSpec.ofChange fnExactTakeItemWrong)

/-- 'laws.FnExactSendOn': WHATEVER THE INPUT: true; the input reads as it did. -/
def fnExactSendOnSpec : ChangeSpec := { name := "fnExactSendOn", fn := fun _ => fun
  | [d1, d2] => { results := [.lit (.bool true)], args := [d1, d2] }
  | _ => none }
def fnExactSendOnRow : OpenClaim := { program := "ytnbccfnnamgfiaadoor", sum := "1dc278f3eb600089b24bb3aa2e1effcfe00ea9c7deb1d4cc4a18c20ec2c7945a", func := "loop.example/g00840/laws.FnExactSendOn", spec := "fnExactSendOn", inPlace := ["internal/bytealg.IndexByteString", "internal/bytealg.IndexString", "slices.overlaps[string]"], unfollowed := true, recurses := true, named := ["unicode/utf8.first", "unicode/utf8.acceptRanges", "internal/bytealg.MaxLen"], apart := false, laid := [("unicode/utf8.acceptRanges", laid_unicode_utf8_acceptRanges), ("unicode/utf8.first", laid_unicode_utf8_first)] }
def FnExactSendOnSaid : Prop := fnExactSendOnRow.holds Tryd.pinned (OpenSpec.ofChange fnExactSendOnSpec)

/-- ITS FALSE NEIGHBOUR: 'it returns false'. Refute it at one input. -/
def fnExactSendOnWrong : ChangeSpec := { name := "fnExactSendOn", fn := fun _ => fun
  | [d1, d2] => { results := [.lit (.bool false)], args := [d1, d2] }
  | _ => none }
def FnExactSendOnWrongFalsely : Prop := fnExactSendOnRow.holds Tryd.pinned (OpenSpec.ofChange fnExactSendOnWrong)

/-- 'laws.FnExactSendAll': WHATEVER THE INPUT: true; the input reads as it did. -/
def fnExactSendAllSpec : ChangeSpec := { name := "fnExactSendAll", fn := fun _ => fun
  | [d1, d2] => { results := [.lit (.bool true)], args := [d1, d2] }
  | _ => none }
def fnExactSendAllRow : OpenClaim := { program := "ytnbccfnnamgfiaadoor", sum := "1dc278f3eb600089b24bb3aa2e1effcfe00ea9c7deb1d4cc4a18c20ec2c7945a", func := "loop.example/g00840/laws.FnExactSendAll", spec := "fnExactSendAll", inPlace := ["internal/bytealg.IndexByteString", "internal/bytealg.IndexString", "slices.overlaps[string]"], unfollowed := true, recurses := true, named := ["unicode/utf8.first", "unicode/utf8.acceptRanges", "internal/bytealg.MaxLen"], apart := false, laid := [("unicode/utf8.acceptRanges", laid_unicode_utf8_acceptRanges), ("unicode/utf8.first", laid_unicode_utf8_first)] }
def FnExactSendAllSaid : Prop := fnExactSendAllRow.holds Tryd.pinned (OpenSpec.ofChange fnExactSendAllSpec)

/-- ITS FALSE NEIGHBOUR: 'it returns false'. Refute it at one input. -/
def fnExactSendAllWrong : ChangeSpec := { name := "fnExactSendAll", fn := fun _ => fun
  | [d1, d2] => { results := [.lit (.bool false)], args := [d1, d2] }
  | _ => none }
def FnExactSendAllWrongFalsely : Prop := fnExactSendAllRow.holds Tryd.pinned (OpenSpec.ofChange fnExactSendAllWrong)

/-- 'laws.FnExactTrimSource': WHATEVER THE INPUT: true; the input reads as it did. -/
def fnExactTrimSourceSpec : ChangeSpec := { name := "fnExactTrimSource", fn := fun _ => fun
  | [d1, d2] => { results := [.lit (.bool true)], args := [d1, d2] }
  | _ => none }
def fnExactTrimSourceRow : OpenClaim := { program := "ytnbccfnnamgfiaadoor", sum := "1dc278f3eb600089b24bb3aa2e1effcfe00ea9c7deb1d4cc4a18c20ec2c7945a", func := "loop.example/g00840/laws.FnExactTrimSource", spec := "fnExactTrimSource", inPlace := ["internal/bytealg.IndexByteString", "internal/bytealg.IndexString"], unfollowed := true, recurses := true, named := ["unicode/utf8.first", "unicode/utf8.acceptRanges", "internal/bytealg.MaxLen"], apart := false, laid := [("unicode/utf8.acceptRanges", laid_unicode_utf8_acceptRanges), ("unicode/utf8.first", laid_unicode_utf8_first)] }
def FnExactTrimSourceSaid : Prop := fnExactTrimSourceRow.holds Tryd.pinned (OpenSpec.ofChange fnExactTrimSourceSpec)

/-- ITS FALSE NEIGHBOUR: 'it returns false'. Refute it at one input. -/
def fnExactTrimSourceWrong : ChangeSpec := { name := "fnExactTrimSource", fn := fun _ => fun
  | [d1, d2] => { results := [.lit (.bool false)], args := [d1, d2] }
  | _ => none }
def FnExactTrimSourceWrongFalsely : Prop := fnExactTrimSourceRow.holds Tryd.pinned (OpenSpec.ofChange fnExactTrimSourceWrong)

/-- 'laws.FnExactSendFrom': WHATEVER THE INPUT: true; the input reads as it did. -/
def fnExactSendFromSpec : ChangeSpec := { name := "fnExactSendFrom", fn := fun _ => fun
  | [d1, d2] => { results := [.lit (.bool true)], args := [d1, d2] }
  | _ => none }
def fnExactSendFromRow : OpenClaim := { program := "ytnbccfnnamgfiaadoor", sum := "1dc278f3eb600089b24bb3aa2e1effcfe00ea9c7deb1d4cc4a18c20ec2c7945a", func := "loop.example/g00840/laws.FnExactSendFrom", spec := "fnExactSendFrom", inPlace := ["internal/bytealg.IndexByteString", "internal/bytealg.IndexString"], unfollowed := true, recurses := true, named := ["unicode/utf8.first", "unicode/utf8.acceptRanges", "internal/bytealg.MaxLen"], apart := false, laid := [("unicode/utf8.acceptRanges", laid_unicode_utf8_acceptRanges), ("unicode/utf8.first", laid_unicode_utf8_first)] }
def FnExactSendFromSaid : Prop := fnExactSendFromRow.holds Tryd.pinned (OpenSpec.ofChange fnExactSendFromSpec)

/-- ITS FALSE NEIGHBOUR: 'it returns false'. Refute it at one input. -/
def fnExactSendFromWrong : ChangeSpec := { name := "fnExactSendFrom", fn := fun _ => fun
  | [d1, d2] => { results := [.lit (.bool false)], args := [d1, d2] }
  | _ => none }
def FnExactSendFromWrongFalsely : Prop := fnExactSendFromRow.holds Tryd.pinned (OpenSpec.ofChange fnExactSendFromWrong)

/-- 'laws.FnExactTickSource': WHATEVER THE INPUT: true; the input reads as it did. -/
def fnExactTickSourceSpec : ChangeSpec := { name := "fnExactTickSource", fn := fun _ => fun
  | [d] => { results := [.lit (.bool true)], args := [d] }
  | _ => none }
def fnExactTickSourceRow : OpenClaim := { program := "ytnbccfnnamgfiaadoor", sum := "1dc278f3eb600089b24bb3aa2e1effcfe00ea9c7deb1d4cc4a18c20ec2c7945a", func := "loop.example/g00840/laws.FnExactTickSource", spec := "fnExactTickSource", inPlace := ["internal/bytealg.IndexByteString", "internal/bytealg.IndexString"], unfollowed := true, recurses := true, named := ["unicode/utf8.first", "unicode/utf8.acceptRanges", "internal/bytealg.MaxLen"], apart := false, laid := [("unicode/utf8.acceptRanges", laid_unicode_utf8_acceptRanges), ("unicode/utf8.first", laid_unicode_utf8_first)] }
def FnExactTickSourceSaid : Prop := fnExactTickSourceRow.holds Tryd.pinned (OpenSpec.ofChange fnExactTickSourceSpec)

/-- ITS FALSE NEIGHBOUR: 'it returns false'. Refute it at one input. -/
def fnExactTickSourceWrong : ChangeSpec := { name := "fnExactTickSource", fn := fun _ => fun
  | [d] => { results := [.lit (.bool false)], args := [d] }
  | _ => none }
def FnExactTickSourceWrongFalsely : Prop := fnExactTickSourceRow.holds Tryd.pinned (OpenSpec.ofChange fnExactTickSourceWrong)

/- THE SECOND FORM. 'bulk': how many values and letters a reading holds, each counted each time it is reached (what is shared counts as often as it is met; a slice's spare places count too). A statement '..UptoSaid' is the law's where the arguments, and the package variables that the reading takes, are together of bulk at most 1048576: NARROWER than '..Said'. Prove '..Said' where nothing that the law and all that it calls make is longer than what came in: it says more and counts as full. Else prove '..UptoSaid'. A law counts once. -/
mutual
def uptoBulk {H : Type} : DataW H → Nat
  | .lit (.string bytes) => bytes.length + 1
  | .lit _ => 1
  | .nil => 1
  | .ptr d => uptoBulk d + 1
  | .slice elems spare => uptoBulkAll elems + uptoBulkAll spare + 1
  | .agg parts => uptoBulkAll parts + 1
  | .iface _ d => uptoBulk d + 1
  | .map entries => uptoBulkEntries entries + 1
  | .held _ => 1
def uptoBulkAll {H : Type} : List (DataW H) → Nat
  | [] => 0
  | d :: r => uptoBulk d + uptoBulkAll r
def uptoBulkEntries {H : Type} : List (Lit × DataW H) → Nat
  | [] => 0
  | x :: r => uptoBulkEntry x + uptoBulkEntries r
def uptoBulkEntry {H : Type} : Lit × DataW H → Nat
  | (.string bytes, d) => bytes.length + uptoBulk d + 1
  | (_, d) => uptoBulk d + 1
 end
def uptoSmall : (H : Type) → List (DataW H) → Bool := fun _ ds => decide (uptoBulkAll ds ≤ 1048576)
def OpenSpec.upto (s : _root_.Go.ChangeSpec) : _root_.Go.OpenSpec := { _root_.Go.OpenSpec.ofChange s with cond := some uptoSmall }

/-- 'laws.FnExactDropFrom', WHERE WHAT IT READS IS OF BULK AT MOST 1048576: true; the input reads as it did. -/
def fnExactDropFromUptoRow : OpenClaim := { program := "ytnbccfnnamgfiaadoor", sum := "1dc278f3eb600089b24bb3aa2e1effcfe00ea9c7deb1d4cc4a18c20ec2c7945a", func := "loop.example/g00840/laws.FnExactDropFrom", spec := "fnExactDropFrom", inPlace := ["internal/bytealg.IndexByteString", "internal/bytealg.IndexString"], unfollowed := true, recurses := true, named := ["unicode/utf8.first", "unicode/utf8.acceptRanges", "internal/bytealg.MaxLen"], apart := false, laid := [("unicode/utf8.acceptRanges", laid_unicode_utf8_acceptRanges), ("unicode/utf8.first", laid_unicode_utf8_first)], narrowed := true }
def FnExactDropFromUptoSaid : Prop := fnExactDropFromUptoRow.holds Tryd.pinned (OpenSpec.upto fnExactDropFromSpec)

/-- 'laws.FnExactTakeFrom', WHERE WHAT IT READS IS OF BULK AT MOST 1048576: true; the input reads as it did. -/
def fnExactTakeFromUptoRow : OpenClaim := { program := "ytnbccfnnamgfiaadoor", sum := "1dc278f3eb600089b24bb3aa2e1effcfe00ea9c7deb1d4cc4a18c20ec2c7945a", func := "loop.example/g00840/laws.FnExactTakeFrom", spec := "fnExactTakeFrom", inPlace := ["internal/bytealg.IndexByteString", "internal/bytealg.IndexString"], unfollowed := true, recurses := true, named := ["unicode/utf8.first", "unicode/utf8.acceptRanges", "internal/bytealg.MaxLen"], apart := false, laid := [("unicode/utf8.acceptRanges", laid_unicode_utf8_acceptRanges), ("unicode/utf8.first", laid_unicode_utf8_first)], narrowed := true }
def FnExactTakeFromUptoSaid : Prop := fnExactTakeFromUptoRow.holds Tryd.pinned (OpenSpec.upto fnExactTakeFromSpec)

/-- 'laws.FnExactPushItem', WHERE WHAT IT READS IS OF BULK AT MOST 1048576: true; the input reads as it did. -/
def fnExactPushItemUptoRow : OpenClaim := { program := "ytnbccfnnamgfiaadoor", sum := "1dc278f3eb600089b24bb3aa2e1effcfe00ea9c7deb1d4cc4a18c20ec2c7945a", func := "loop.example/g00840/laws.FnExactPushItem", spec := "fnExactPushItem", inPlace := ["internal/bytealg.IndexByteString", "internal/bytealg.IndexString"], unfollowed := true, recurses := true, named := ["unicode/utf8.first", "unicode/utf8.acceptRanges", "internal/bytealg.MaxLen"], apart := false, laid := [("unicode/utf8.acceptRanges", laid_unicode_utf8_acceptRanges), ("unicode/utf8.first", laid_unicode_utf8_first)], narrowed := true }
def FnExactPushItemUptoSaid : Prop := fnExactPushItemUptoRow.holds Tryd.pinned (OpenSpec.upto fnExactPushItemSpec)

/-- 'laws.FnExactGiveUpTo', WHERE WHAT IT READS IS OF BULK AT MOST 1048576: true; the input reads as it did. -/
def fnExactGiveUpToUptoRow : OpenClaim := { program := "ytnbccfnnamgfiaadoor", sum := "1dc278f3eb600089b24bb3aa2e1effcfe00ea9c7deb1d4cc4a18c20ec2c7945a", func := "loop.example/g00840/laws.FnExactGiveUpTo", spec := "fnExactGiveUpTo", inPlace := ["internal/bytealg.IndexByteString", "internal/bytealg.IndexString"], unfollowed := true, recurses := true, named := ["unicode/utf8.first", "unicode/utf8.acceptRanges", "internal/bytealg.MaxLen"], apart := false, laid := [("unicode/utf8.acceptRanges", laid_unicode_utf8_acceptRanges), ("unicode/utf8.first", laid_unicode_utf8_first)], narrowed := true }
def FnExactGiveUpToUptoSaid : Prop := fnExactGiveUpToUptoRow.holds Tryd.pinned (OpenSpec.upto fnExactGiveUpToSpec)

/-- 'laws.FnExactTakeItem', WHERE WHAT IT READS IS OF BULK AT MOST 1048576: true; the input reads as it did. -/
def fnExactTakeItemUptoRow : OpenClaim := { program := "ytnbccfnnamgfiaadoor", sum := "1dc278f3eb600089b24bb3aa2e1effcfe00ea9c7deb1d4cc4a18c20ec2c7945a", func := "loop.example/g00840/laws.FnExactTakeItem", spec := "fnExactTakeItem", inPlace := ["internal/bytealg.IndexByteString", "internal/bytealg.IndexString"], unfollowed := true, recurses := true, named := ["unicode/utf8.first", "unicode/utf8.acceptRanges", "internal/bytealg.MaxLen"], apart := false, laid := [("unicode/utf8.acceptRanges", laid_unicode_utf8_acceptRanges), ("unicode/utf8.first", laid_unicode_utf8_first)], narrowed := true }
def FnExactTakeItemUptoSaid : Prop := fnExactTakeItemUptoRow.holds Tryd.pinned (OpenSpec.upto fnExactTakeItemSpec)

/-- 'laws.FnExactSendOn', WHERE WHAT IT READS IS OF BULK AT MOST 1048576: true; the input reads as it did. -/
def fnExactSendOnUptoRow : OpenClaim := { program := "ytnbccfnnamgfiaadoor", sum := "1dc278f3eb600089b24bb3aa2e1effcfe00ea9c7deb1d4cc4a18c20ec2c7945a", func := "loop.example/g00840/laws.FnExactSendOn", spec := "fnExactSendOn", inPlace := ["internal/bytealg.IndexByteString", "internal/bytealg.IndexString", "slices.overlaps[string]"], unfollowed := true, recurses := true, named := ["unicode/utf8.first", "unicode/utf8.acceptRanges", "internal/bytealg.MaxLen"], apart := false, laid := [("unicode/utf8.acceptRanges", laid_unicode_utf8_acceptRanges), ("unicode/utf8.first", laid_unicode_utf8_first)], narrowed := true }
def FnExactSendOnUptoSaid : Prop := fnExactSendOnUptoRow.holds Tryd.pinned (OpenSpec.upto fnExactSendOnSpec)

/-- 'laws.FnExactSendAll', WHERE WHAT IT READS IS OF BULK AT MOST 1048576: true; the input reads as it did. -/
def fnExactSendAllUptoRow : OpenClaim := { program := "ytnbccfnnamgfiaadoor", sum := "1dc278f3eb600089b24bb3aa2e1effcfe00ea9c7deb1d4cc4a18c20ec2c7945a", func := "loop.example/g00840/laws.FnExactSendAll", spec := "fnExactSendAll", inPlace := ["internal/bytealg.IndexByteString", "internal/bytealg.IndexString", "slices.overlaps[string]"], unfollowed := true, recurses := true, named := ["unicode/utf8.first", "unicode/utf8.acceptRanges", "internal/bytealg.MaxLen"], apart := false, laid := [("unicode/utf8.acceptRanges", laid_unicode_utf8_acceptRanges), ("unicode/utf8.first", laid_unicode_utf8_first)], narrowed := true }
def FnExactSendAllUptoSaid : Prop := fnExactSendAllUptoRow.holds Tryd.pinned (OpenSpec.upto fnExactSendAllSpec)

/-- 'laws.FnExactTrimSource', WHERE WHAT IT READS IS OF BULK AT MOST 1048576: true; the input reads as it did. -/
def fnExactTrimSourceUptoRow : OpenClaim := { program := "ytnbccfnnamgfiaadoor", sum := "1dc278f3eb600089b24bb3aa2e1effcfe00ea9c7deb1d4cc4a18c20ec2c7945a", func := "loop.example/g00840/laws.FnExactTrimSource", spec := "fnExactTrimSource", inPlace := ["internal/bytealg.IndexByteString", "internal/bytealg.IndexString"], unfollowed := true, recurses := true, named := ["unicode/utf8.first", "unicode/utf8.acceptRanges", "internal/bytealg.MaxLen"], apart := false, laid := [("unicode/utf8.acceptRanges", laid_unicode_utf8_acceptRanges), ("unicode/utf8.first", laid_unicode_utf8_first)], narrowed := true }
def FnExactTrimSourceUptoSaid : Prop := fnExactTrimSourceUptoRow.holds Tryd.pinned (OpenSpec.upto fnExactTrimSourceSpec)

/-- 'laws.FnExactSendFrom', WHERE WHAT IT READS IS OF BULK AT MOST 1048576: true; the input reads as it did. -/
def fnExactSendFromUptoRow : OpenClaim := { program := "ytnbccfnnamgfiaadoor", sum := "1dc278f3eb600089b24bb3aa2e1effcfe00ea9c7deb1d4cc4a18c20ec2c7945a", func := "loop.example/g00840/laws.FnExactSendFrom", spec := "fnExactSendFrom", inPlace := ["internal/bytealg.IndexByteString", "internal/bytealg.IndexString"], unfollowed := true, recurses := true, named := ["unicode/utf8.first", "unicode/utf8.acceptRanges", "internal/bytealg.MaxLen"], apart := false, laid := [("unicode/utf8.acceptRanges", laid_unicode_utf8_acceptRanges), ("unicode/utf8.first", laid_unicode_utf8_first)], narrowed := true }
def FnExactSendFromUptoSaid : Prop := fnExactSendFromUptoRow.holds Tryd.pinned (OpenSpec.upto fnExactSendFromSpec)

/-- 'laws.FnExactTickSource', WHERE WHAT IT READS IS OF BULK AT MOST 1048576: true; the input reads as it did. -/
def fnExactTickSourceUptoRow : OpenClaim := { program := "ytnbccfnnamgfiaadoor", sum := "1dc278f3eb600089b24bb3aa2e1effcfe00ea9c7deb1d4cc4a18c20ec2c7945a", func := "loop.example/g00840/laws.FnExactTickSource", spec := "fnExactTickSource", inPlace := ["internal/bytealg.IndexByteString", "internal/bytealg.IndexString"], unfollowed := true, recurses := true, named := ["unicode/utf8.first", "unicode/utf8.acceptRanges", "internal/bytealg.MaxLen"], apart := false, laid := [("unicode/utf8.acceptRanges", laid_unicode_utf8_acceptRanges), ("unicode/utf8.first", laid_unicode_utf8_first)], narrowed := true }
def FnExactTickSourceUptoSaid : Prop := fnExactTickSourceUptoRow.holds Tryd.pinned (OpenSpec.upto fnExactTickSourceSpec)

end Rows
end Go.Proofs.YtnbccfnnamgfiaaDoor
