/-
  NARROWER THAN 'FOR EVERY INPUT', by the rows' own cells (each row's printed sentence says how): FnSendWindow: laid · FnAnswers: laid · FnGivingUp: laid · FnLinks: laid · FnExactTickSource: laid · FnLinkRuns: laid.
  DERIVED. THE GIVEN ROWS OF THIS SEAT. 6 by the template 'for every input the law returns true; each argument reads behind the call as it read before'; 0 by the template 'total and deterministic' (their statements: YtidephmobajikaaDoorTotals.lean).
  GIVEN WITH THE SEED: the statements are not yours to turn. If you find one false, say at which input.
  Laid BY PROGRAM, IN A SANDBOX (cutbox-rows.mjs): the forced cells as the released guide's own fill.sh prints them over the translation e5840a55690c210d… (all of the seat's roots in one cut). By AI agents, Wed Nov 11 2026. No macro, syntax, notation, axiom, sorry.
-/
import Derived.Test.YtidephmobajikaaDoorChecked
import GoSem.PinnedTables
import GoSem.Claim
import GoSem.ClaimJoined
import GoSem.ClaimMapViews
import Derived.JoinedTies
import Derived.KernelRfl
namespace Go.Proofs.YtidephmobajikaaDoor
/- THE CELL 'sum', in the pinned program and in every row, IS THE sha256 OF THE DUMP (.gsa) THAT YtidephmobajikaaDoorProg.lean LOADS. Nothing in Lean hashes anything: it is a label: what it is worth is what the hold of that sum in a sandbox is worth. -/
noncomputable def Tryd.pinned : Pinned := { name := "ytidephmobajikaadoor", sum := "e5840a55690c210df260912218d4253649310c0676999af39455a2b9f23632fd", checked := Tryd.checked }
namespace Rows
def none {H : Type} : Left H := { results := [], args := [] }

/- WHAT THE LISTED PACKAGE-LEVEL VARIABLES READ AS WHEN THE CALL BEGINS. Each datum BY PROGRAM (the guide's laid-datum.mjs) off the statement by which the dump's own 'gosem.cut.vars' lays the variable. In a bare row this is a premise. The card (YtidephmobajikaaDoorCards.lean) ties it to the program's text. -/
def laid_unicode_utf8_acceptRanges {H : Type} : DataW H := .agg [.agg [.lit (.int .u8 128), .lit (.int .u8 191)], .agg [.lit (.int .u8 160), .lit (.int .u8 191)], .agg [.lit (.int .u8 128), .lit (.int .u8 159)], .agg [.lit (.int .u8 144), .lit (.int .u8 191)], .agg [.lit (.int .u8 128), .lit (.int .u8 143)], .agg [.lit (.int .u8 0), .lit (.int .u8 0)], .agg [.lit (.int .u8 0), .lit (.int .u8 0)], .agg [.lit (.int .u8 0), .lit (.int .u8 0)], .agg [.lit (.int .u8 0), .lit (.int .u8 0)], .agg [.lit (.int .u8 0), .lit (.int .u8 0)], .agg [.lit (.int .u8 0), .lit (.int .u8 0)], .agg [.lit (.int .u8 0), .lit (.int .u8 0)], .agg [.lit (.int .u8 0), .lit (.int .u8 0)], .agg [.lit (.int .u8 0), .lit (.int .u8 0)], .agg [.lit (.int .u8 0), .lit (.int .u8 0)], .agg [.lit (.int .u8 0), .lit (.int .u8 0)]]
/-- One of Go's own tables, pinned by name: the form's constant. -/
def laid_unicode_utf8_first : DataW Unit := Go.Pinned.utf8First

/-- 'laws.FnSendWindow': WHATEVER THE INPUT: true; the input reads as it did. -/
def fnSendWindowSpec : ChangeSpec := { name := "fnSendWindow", fn := fun _ => fun
  | [d] => { results := [.lit (.bool true)], args := [d] }
  | _ => none }
def fnSendWindowRow : OpenClaim := { program := "ytidephmobajikaadoor", sum := "e5840a55690c210df260912218d4253649310c0676999af39455a2b9f23632fd", func := "loop.example/g00840/laws.FnSendWindow", spec := "fnSendWindow", inPlace := ["internal/bytealg.IndexByteString", "internal/bytealg.IndexString"], unfollowed := true, recurses := true, named := ["unicode/utf8.first", "unicode/utf8.acceptRanges", "internal/bytealg.MaxLen"], apart := false, laid := [("unicode/utf8.acceptRanges", laid_unicode_utf8_acceptRanges), ("unicode/utf8.first", laid_unicode_utf8_first)] }
def FnSendWindowSaid : Prop := fnSendWindowRow.holds Tryd.pinned (OpenSpec.ofChange fnSendWindowSpec)

/-- ITS FALSE NEIGHBOUR: 'it returns false'. Refute it at one input. -/
def fnSendWindowWrong : ChangeSpec := { name := "fnSendWindow", fn := fun _ => fun
  | [d] => { results := [.lit (.bool false)], args := [d] }
  | _ => none }
def FnSendWindowWrongFalsely : Prop := fnSendWindowRow.holds Tryd.pinned (OpenSpec.ofChange fnSendWindowWrong)

/-- 'laws.FnAnswers': WHATEVER THE INPUT: true; the input reads as it did. -/
def fnAnswersSpec : ChangeSpec := { name := "fnAnswers", fn := fun _ => fun
  | [d] => { results := [.lit (.bool true)], args := [d] }
  | _ => none }
def fnAnswersRow : OpenClaim := { program := "ytidephmobajikaadoor", sum := "e5840a55690c210df260912218d4253649310c0676999af39455a2b9f23632fd", func := "loop.example/g00840/laws.FnAnswers", spec := "fnAnswers", inPlace := ["internal/bytealg.IndexByteString", "internal/bytealg.IndexString"], unfollowed := true, recurses := true, named := ["unicode/utf8.first", "unicode/utf8.acceptRanges", "internal/bytealg.MaxLen"], apart := false, laid := [("unicode/utf8.acceptRanges", laid_unicode_utf8_acceptRanges), ("unicode/utf8.first", laid_unicode_utf8_first)] }
def FnAnswersSaid : Prop := fnAnswersRow.holds Tryd.pinned (OpenSpec.ofChange fnAnswersSpec)

/-- ITS FALSE NEIGHBOUR: 'it returns false'. Refute it at one input. -/
def fnAnswersWrong : ChangeSpec := { name := "fnAnswers", fn := fun _ => fun
  | [d] => { results := [.lit (.bool false)], args := [d] }
  | _ => none }
def FnAnswersWrongFalsely : Prop := fnAnswersRow.holds Tryd.pinned (OpenSpec.ofChange fnAnswersWrong)

/-- 'laws.FnGivingUp': WHATEVER THE INPUT: true; the input reads as it did. -/
def fnGivingUpSpec : ChangeSpec := { name := "fnGivingUp", fn := fun _ => fun
  | [d] => { results := [.lit (.bool true)], args := [d] }
  | _ => none }
def fnGivingUpRow : OpenClaim := { program := "ytidephmobajikaadoor", sum := "e5840a55690c210df260912218d4253649310c0676999af39455a2b9f23632fd", func := "loop.example/g00840/laws.FnGivingUp", spec := "fnGivingUp", inPlace := ["internal/bytealg.IndexByteString", "internal/bytealg.IndexString"], unfollowed := true, recurses := true, named := ["unicode/utf8.first", "unicode/utf8.acceptRanges", "internal/bytealg.MaxLen"], apart := false, laid := [("unicode/utf8.acceptRanges", laid_unicode_utf8_acceptRanges), ("unicode/utf8.first", laid_unicode_utf8_first)] }
def FnGivingUpSaid : Prop := fnGivingUpRow.holds Tryd.pinned (OpenSpec.ofChange fnGivingUpSpec)

/-- ITS FALSE NEIGHBOUR: 'it returns false'. Refute it at one input. -/
def fnGivingUpWrong : ChangeSpec := { name := "fnGivingUp", fn := fun _ => fun
  | [d] => { results := [.lit (.bool false)], args := [d] }
  | _ => none }
def FnGivingUpWrongFalsely : Prop := fnGivingUpRow.holds Tryd.pinned (OpenSpec.ofChange fnGivingUpWrong)

/-- 'laws.FnLinks': WHATEVER THE INPUT: true; the input reads as it did. -/
def fnLinksSpec : ChangeSpec := { name := "fnLinks", fn := fun _ => fun
  | [d] => { results := [.lit (.bool true)], args := [d] }
  | _ => none }
def fnLinksRow : OpenClaim := { program := "ytidephmobajikaadoor", sum := "e5840a55690c210df260912218d4253649310c0676999af39455a2b9f23632fd", func := "loop.example/g00840/laws.FnLinks", spec := "fnLinks", inPlace := ["internal/bytealg.IndexByteString", "internal/bytealg.IndexString", "slices.overlaps[string]"], unfollowed := true, recurses := true, named := ["unicode/utf8.first", "unicode/utf8.acceptRanges", "internal/bytealg.MaxLen"], apart := false, laid := [("unicode/utf8.acceptRanges", laid_unicode_utf8_acceptRanges), ("unicode/utf8.first", laid_unicode_utf8_first)] }
def FnLinksSaid : Prop := fnLinksRow.holds Tryd.pinned (OpenSpec.ofChange fnLinksSpec)

/-- ITS FALSE NEIGHBOUR: 'it returns false'. Refute it at one input. -/
def fnLinksWrong : ChangeSpec := { name := "fnLinks", fn := fun _ => fun
  | [d] => { results := [.lit (.bool false)], args := [d] }
  | _ => none }
def FnLinksWrongFalsely : Prop := fnLinksRow.holds Tryd.pinned (OpenSpec.ofChange fnLinksWrong)

/-- 'laws.FnExactTickSource': WHATEVER THE INPUT: true; the input reads as it did. -/
def fnExactTickSourceSpec : ChangeSpec := { name := "fnExactTickSource", fn := fun _ => fun
  | [d] => { results := [.lit (.bool true)], args := [d] }
  | _ => none }
def fnExactTickSourceRow : OpenClaim := { program := "ytidephmobajikaadoor", sum := "e5840a55690c210df260912218d4253649310c0676999af39455a2b9f23632fd", func := "loop.example/g00840/laws.FnExactTickSource", spec := "fnExactTickSource", inPlace := ["internal/bytealg.IndexByteString", "internal/bytealg.IndexString"], unfollowed := true, recurses := true, named := ["unicode/utf8.first", "unicode/utf8.acceptRanges", "internal/bytealg.MaxLen"], apart := false, laid := [("unicode/utf8.acceptRanges", laid_unicode_utf8_acceptRanges), ("unicode/utf8.first", laid_unicode_utf8_first)] }
def FnExactTickSourceSaid : Prop := fnExactTickSourceRow.holds Tryd.pinned (OpenSpec.ofChange fnExactTickSourceSpec)

/-- ITS FALSE NEIGHBOUR: 'it returns false'. Refute it at one input. -/
def fnExactTickSourceWrong : ChangeSpec := { name := "fnExactTickSource", fn := fun _ => fun
  | [d] => { results := [.lit (.bool false)], args := [d] }
  | _ => none }
def FnExactTickSourceWrongFalsely : Prop := fnExactTickSourceRow.holds Tryd.pinned (OpenSpec.ofChange fnExactTickSourceWrong)

/-- 'laws.FnLinkRuns': WHATEVER THE INPUT: true; the input reads as it did. -/
def fnLinkRunsSpec : ChangeSpec := { name := "fnLinkRuns", fn := fun _ => fun
  | [d] => { results := [.lit (.bool true)], args := [d] }
  | _ => none }
def fnLinkRunsRow : OpenClaim := { program := "ytidephmobajikaadoor", sum := "e5840a55690c210df260912218d4253649310c0676999af39455a2b9f23632fd", func := "loop.example/g00840/laws.FnLinkRuns", spec := "fnLinkRuns", inPlace := ["internal/bytealg.IndexByteString", "internal/bytealg.IndexString", "slices.overlaps[string]", "internal/bytealg.CountString"], unfollowed := true, recurses := true, named := ["unicode/utf8.first", "unicode/utf8.acceptRanges", "internal/bytealg.MaxLen"], apart := false, laid := [("unicode/utf8.acceptRanges", laid_unicode_utf8_acceptRanges), ("unicode/utf8.first", laid_unicode_utf8_first)] }
def FnLinkRunsSaid : Prop := fnLinkRunsRow.holds Tryd.pinned (OpenSpec.ofChange fnLinkRunsSpec)

/-- ITS FALSE NEIGHBOUR: 'it returns false'. Refute it at one input. -/
def fnLinkRunsWrong : ChangeSpec := { name := "fnLinkRuns", fn := fun _ => fun
  | [d] => { results := [.lit (.bool false)], args := [d] }
  | _ => none }
def FnLinkRunsWrongFalsely : Prop := fnLinkRunsRow.holds Tryd.pinned (OpenSpec.ofChange fnLinkRunsWrong)

/- THE SECOND FORM. 'bulk': how many values and letters a reading holds, each counted each time it is reached (what is shared counts as often as it is met; a slice's spare places count too). A statement '..UptoSaid' is the law's where the arguments, and the package variables that the reading takes, are together of bulk at most 1048576: NARROWER than '..Said'. Prove '..Said' where nothing that the law and all that it calls make is longer than what came in: it says more and counts as full. Else prove '..UptoSaid'. A law counts once. -/
mutual
def uptoBulk {H : Type} : DataW H → Nat
  | .lit (.string bytes) => bytes.length + 1
  | .lit _ => 1
  | .nil => 1
  | .ptr d => uptoBulk d + 1
  | .slice elems spare => uptoBulkAll elems + uptoBulkAll spare + 1
  | .agg parts => uptoBulkAll parts + 1
  | .iface _ d => uptoBulk d + 1
  | .map entries => uptoBulkEntries entries + 1
  | .held _ => 1
def uptoBulkAll {H : Type} : List (DataW H) → Nat
  | [] => 0
  | d :: r => uptoBulk d + uptoBulkAll r
def uptoBulkEntries {H : Type} : List (Lit × DataW H) → Nat
  | [] => 0
  | x :: r => uptoBulkEntry x + uptoBulkEntries r
def uptoBulkEntry {H : Type} : Lit × DataW H → Nat
  | (.string bytes, d) => bytes.length + uptoBulk d + 1
  | (_, d) => uptoBulk d + 1
 end
def uptoSmall : (H : Type) → List (DataW H) → Bool := fun _ ds => decide (uptoBulkAll ds ≤ 1048576)
def OpenSpec.upto (s : _root_.Go.ChangeSpec) : _root_.Go.OpenSpec := { _root_.Go.OpenSpec.ofChange s with cond := some uptoSmall }

/-- 'laws.FnSendWindow', WHERE WHAT IT READS IS OF BULK AT MOST 1048576: true; the input reads as it did. -/
def fnSendWindowUptoRow : OpenClaim := { program := "ytidephmobajikaadoor", sum := "e5840a55690c210df260912218d4253649310c0676999af39455a2b9f23632fd", func := "loop.example/g00840/laws.FnSendWindow", spec := "fnSendWindow", inPlace := ["internal/bytealg.IndexByteString", "internal/bytealg.IndexString"], unfollowed := true, recurses := true, named := ["unicode/utf8.first", "unicode/utf8.acceptRanges", "internal/bytealg.MaxLen"], apart := false, laid := [("unicode/utf8.acceptRanges", laid_unicode_utf8_acceptRanges), ("unicode/utf8.first", laid_unicode_utf8_first)], narrowed := true }
def FnSendWindowUptoSaid : Prop := fnSendWindowUptoRow.holds Tryd.pinned (OpenSpec.upto fnSendWindowSpec)

/-- 'laws.FnAnswers', WHERE WHAT IT READS IS OF BULK AT MOST 1048576: true; the input reads as it did. -/
def fnAnswersUptoRow : OpenClaim := { program := "ytidephmobajikaadoor", sum := "e5840a55690c210df260912218d4253649310c0676999af39455a2b9f23632fd", func := "loop.example/g00840/laws.FnAnswers", spec := "fnAnswers", inPlace := ["internal/bytealg.IndexByteString", "internal/bytealg.IndexString"], unfollowed := true, recurses := true, named := ["unicode/utf8.first", "unicode/utf8.acceptRanges", "internal/bytealg.MaxLen"], apart := false, laid := [("unicode/utf8.acceptRanges", laid_unicode_utf8_acceptRanges), ("unicode/utf8.first", laid_unicode_utf8_first)], narrowed := true }
def FnAnswersUptoSaid : Prop := fnAnswersUptoRow.holds Tryd.pinned (OpenSpec.upto fnAnswersSpec)

/-- 'laws.FnGivingUp', WHERE WHAT IT READS IS OF BULK AT MOST 1048576: true; the input reads as it did. -/
def fnGivingUpUptoRow : OpenClaim := { program := "ytidephmobajikaadoor", sum := "e5840a55690c210df260912218d4253649310c0676999af39455a2b9f23632fd", func := "loop.example/g00840/laws.FnGivingUp", spec := "fnGivingUp", inPlace := ["internal/bytealg.IndexByteString", "internal/bytealg.IndexString"], unfollowed := true, recurses := true, named := ["unicode/utf8.first", "unicode/utf8.acceptRanges", "internal/bytealg.MaxLen"], apart := false, laid := [("unicode/utf8.acceptRanges", laid_unicode_utf8_acceptRanges), ("unicode/utf8.first", laid_unicode_utf8_first)], narrowed := true }
def FnGivingUpUptoSaid : Prop := fnGivingUpUptoRow.holds Tryd.pinned (OpenSpec.upto fnGivingUpSpec)

/-- 'laws.FnLinks', WHERE WHAT IT READS IS OF BULK AT MOST 1048576: true; the input reads as it did. -/
def fnLinksUptoRow : OpenClaim := { program := "ytidephmobajikaadoor", sum := "e5840a55690c210df260912218d4253649310c0676999af39455a2b9f23632fd", func := "loop.example/g00840/laws.FnLinks", spec := "fnLinks", inPlace := ["internal/bytealg.IndexByteString", "internal/bytealg.IndexString", "slices.overlaps[string]"], unfollowed := true, recurses := true, named := ["unicode/utf8.first", "unicode/utf8.acceptRanges", "internal/bytealg.MaxLen"], apart := false, laid := [("unicode/utf8.acceptRanges", laid_unicode_utf8_acceptRanges), ("unicode/utf8.first", laid_unicode_utf8_first)], narrowed := true }
def FnLinksUptoSaid : Prop := fnLinksUptoRow.holds Tryd.pinned (OpenSpec.upto fnLinksSpec)

/-- 'laws.FnExactTickSource', WHERE WHAT IT READS IS OF BULK AT MOST 1048576: true; the input reads as it did. -/
def fnExactTickSourceUptoRow : OpenClaim := { program := "ytidephmobajikaadoor", sum := "e5840a55690c210df260912218d4253649310c0676999af39455a2b9f23632fd", func := "loop.example/g00840/laws.FnExactTickSource", spec := "fnExactTickSource", inPlace := ["internal/bytealg.IndexByteString", "internal/bytealg.IndexString"], unfollowed := true, recurses := true, named := ["unicode/utf8.first", "unicode/utf8.acceptRanges", "internal/bytealg.MaxLen"], apart := false, laid := [("unicode/utf8.acceptRanges", laid_unicode_utf8_acceptRanges), ("unicode/utf8.first", laid_unicode_utf8_first)], narrowed := true }
def FnExactTickSourceUptoSaid : Prop := fnExactTickSourceUptoRow.holds Tryd.pinned (OpenSpec.upto fnExactTickSourceSpec)

/-- 'laws.FnLinkRuns', WHERE WHAT IT READS IS OF BULK AT MOST 1048576: true; the input reads as it did. -/
def fnLinkRunsUptoRow : OpenClaim := { program := "ytidephmobajikaadoor", sum := "e5840a55690c210df260912218d4253649310c0676999af39455a2b9f23632fd", func := "loop.example/g00840/laws.FnLinkRuns", spec := "fnLinkRuns", inPlace := ["internal/bytealg.IndexByteString", "internal/bytealg.IndexString", "slices.overlaps[string]", "internal/bytealg.CountString"], unfollowed := true, recurses := true, named := ["unicode/utf8.first", "unicode/utf8.acceptRanges", "internal/bytealg.MaxLen"], apart := false, laid := [("unicode/utf8.acceptRanges", laid_unicode_utf8_acceptRanges), ("unicode/utf8.first", laid_unicode_utf8_first)], narrowed := true }
def FnLinkRunsUptoSaid : Prop := fnLinkRunsUptoRow.holds Tryd.pinned (OpenSpec.upto fnLinkRunsSpec)

end Rows
end Go.Proofs.YtidephmobajikaaDoor
