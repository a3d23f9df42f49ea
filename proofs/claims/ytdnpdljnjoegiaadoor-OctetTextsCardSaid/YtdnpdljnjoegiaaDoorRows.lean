/-
  NARROWER THAN 'FOR EVERY INPUT', by the rows' own cells (each row's printed sentence says how): OctetBack: laid · OctetTurned: laid · OctetCut: laid · OctetForm: laid · OctetOrder: laid · OctetNumbers: laid · OctetBlocks: laid · OctetNobody: laid · OctetReads: laid · OctetOpens: laid · OctetTexts: laid.
  DERIVED. THE GIVEN ROWS OF THIS SEAT. 11 by the template 'for every input the law returns true; each argument reads behind the call as it read before'; 0 by the template 'total and deterministic' (their statements: YtdnpdljnjoegiaaDoorTotals.lean).
  GIVEN WITH THE SEED: the statements are not yours to turn. If you find one false, say at which input.
  Laid BY PROGRAM, IN A SANDBOX (cutbox-rows.mjs): the forced cells as the released guide's own fill.sh prints them over the translation e36e18f45dc1882b… (all of the seat's roots in one cut). By AI agents, Wed Nov 11 2026. No macro, syntax, notation, axiom, sorry.
-/
import Derived.Test.YtdnpdljnjoegiaaDoorChecked
import GoSem.PinnedTables
import GoSem.Claim
import GoSem.ClaimJoined
import GoSem.ClaimMapViews
import Derived.JoinedTies
import Derived.KernelRfl
namespace Go.Proofs.YtdnpdljnjoegiaaDoor
/- THE CELL 'sum', in the pinned program and in every row, IS THE sha256 OF THE DUMP (.gsa) THAT YtdnpdljnjoegiaaDoorProg.lean LOADS. Nothing in Lean hashes anything: it is a label: what it is worth is what the hold of that sum in a sandbox is worth. -/
noncomputable def Tryd.pinned : Pinned := { name := "ytdnpdljnjoegiaadoor", sum := "e36e18f45dc1882bb8d36f95cba17400ee19b4a775781e742c23d048192563b5", checked := Tryd.checked }
namespace Rows
def none {H : Type} : Left H := { results := [], args := [] }

/- WHAT THE LISTED PACKAGE-LEVEL VARIABLES READ AS WHEN THE CALL BEGINS. Each datum BY PROGRAM (the guide's laid-datum.mjs) off the statement by which the dump's own 'gosem.cut.vars' lays the variable. In a bare row this is a premise. The card (YtdnpdljnjoegiaaDoorCards.lean) ties it to the program's text. -/
def laid_unicode_utf8_acceptRanges {H : Type} : DataW H := .agg [.agg [.lit (.int .u8 128), .lit (.int .u8 191)], .agg [.lit (.int .u8 160), .lit (.int .u8 191)], .agg [.lit (.int .u8 128), .lit (.int .u8 159)], .agg [.lit (.int .u8 144), .lit (.int .u8 191)], .agg [.lit (.int .u8 128), .lit (.int .u8 143)], .agg [.lit (.int .u8 0), .lit (.int .u8 0)], .agg [.lit (.int .u8 0), .lit (.int .u8 0)], .agg [.lit (.int .u8 0), .lit (.int .u8 0)], .agg [.lit (.int .u8 0), .lit (.int .u8 0)], .agg [.lit (.int .u8 0), .lit (.int .u8 0)], .agg [.lit (.int .u8 0), .lit (.int .u8 0)], .agg [.lit (.int .u8 0), .lit (.int .u8 0)], .agg [.lit (.int .u8 0), .lit (.int .u8 0)], .agg [.lit (.int .u8 0), .lit (.int .u8 0)], .agg [.lit (.int .u8 0), .lit (.int .u8 0)], .agg [.lit (.int .u8 0), .lit (.int .u8 0)]]
/-- One of Go's own tables, pinned by name: the form's constant. -/
def laid_unicode_utf8_first : DataW Unit := Go.Pinned.utf8First

/-- 'sealskinlaw02.OctetBack': WHATEVER THE INPUT: true; the input reads as it did. -/
def octetBackSpec : ChangeSpec := { name := "octetBack", fn := fun _ => fun
  | [d1, d2, d3, d4] => { results := [.lit (.bool true)], args := [d1, d2, d3, d4] }
  | _ => none }
def octetBackRow : OpenClaim := { program := "ytdnpdljnjoegiaadoor", sum := "e36e18f45dc1882bb8d36f95cba17400ee19b4a775781e742c23d048192563b5", func := "sealskin/sealskinlaw02.OctetBack", spec := "octetBack", named := ["unicode/utf8.first", "unicode/utf8.acceptRanges"], apart := false, laid := [("unicode/utf8.acceptRanges", laid_unicode_utf8_acceptRanges), ("unicode/utf8.first", laid_unicode_utf8_first)] }
def OctetBackSaid : Prop := octetBackRow.holds Tryd.pinned (OpenSpec.ofChange octetBackSpec)

/-- ITS FALSE NEIGHBOUR: 'it returns false'. Refute it at one input. -/
def octetBackWrong : ChangeSpec := { name := "octetBack", fn := fun _ => fun
  | [d1, d2, d3, d4] => { results := [.lit (.bool false)], args := [d1, d2, d3, d4] }
  | _ => none }
def OctetBackWrongFalsely : Prop := octetBackRow.holds Tryd.pinned (OpenSpec.ofChange octetBackWrong)

/-- 'sealskinlaw02.OctetTurned': WHATEVER THE INPUT: true; the input reads as it did. -/
def octetTurnedSpec : ChangeSpec := { name := "octetTurned", fn := fun _ => fun
  | [d1, d2, d3] => { results := [.lit (.bool true)], args := [d1, d2, d3] }
  | _ => none }
def octetTurnedRow : OpenClaim := { program := "ytdnpdljnjoegiaadoor", sum := "e36e18f45dc1882bb8d36f95cba17400ee19b4a775781e742c23d048192563b5", func := "sealskin/sealskinlaw02.OctetTurned", spec := "octetTurned", named := ["unicode/utf8.first", "unicode/utf8.acceptRanges"], apart := false, laid := [("unicode/utf8.acceptRanges", laid_unicode_utf8_acceptRanges), ("unicode/utf8.first", laid_unicode_utf8_first)] }
def OctetTurnedSaid : Prop := octetTurnedRow.holds Tryd.pinned (OpenSpec.ofChange octetTurnedSpec)

/-- ITS FALSE NEIGHBOUR: 'it returns false'. Refute it at one input. -/
def octetTurnedWrong : ChangeSpec := { name := "octetTurned", fn := fun _ => fun
  | [d1, d2, d3] => { results := [.lit (.bool false)], args := [d1, d2, d3] }
  | _ => none }
def OctetTurnedWrongFalsely : Prop := octetTurnedRow.holds Tryd.pinned (OpenSpec.ofChange octetTurnedWrong)

/-- 'sealskinlaw02.OctetCut': WHATEVER THE INPUT: true; the input reads as it did. -/
def octetCutSpec : ChangeSpec := { name := "octetCut", fn := fun _ => fun
  | [d1, d2] => { results := [.lit (.bool true)], args := [d1, d2] }
  | _ => none }
def octetCutRow : OpenClaim := { program := "ytdnpdljnjoegiaadoor", sum := "e36e18f45dc1882bb8d36f95cba17400ee19b4a775781e742c23d048192563b5", func := "sealskin/sealskinlaw02.OctetCut", spec := "octetCut", named := ["unicode/utf8.first", "unicode/utf8.acceptRanges"], apart := false, laid := [("unicode/utf8.acceptRanges", laid_unicode_utf8_acceptRanges), ("unicode/utf8.first", laid_unicode_utf8_first)] }
def OctetCutSaid : Prop := octetCutRow.holds Tryd.pinned (OpenSpec.ofChange octetCutSpec)

/-- ITS FALSE NEIGHBOUR: 'it returns false'. Refute it at one input. -/
def octetCutWrong : ChangeSpec := { name := "octetCut", fn := fun _ => fun
  | [d1, d2] => { results := [.lit (.bool false)], args := [d1, d2] }
  | _ => none }
def OctetCutWrongFalsely : Prop := octetCutRow.holds Tryd.pinned (OpenSpec.ofChange octetCutWrong)

/-- 'sealskinlaw02.OctetForm': WHATEVER THE INPUT: true; the input reads as it did. -/
def octetFormSpec : ChangeSpec := { name := "octetForm", fn := fun _ => fun
  | [d] => { results := [.lit (.bool true)], args := [d] }
  | _ => none }
def octetFormRow : OpenClaim := { program := "ytdnpdljnjoegiaadoor", sum := "e36e18f45dc1882bb8d36f95cba17400ee19b4a775781e742c23d048192563b5", func := "sealskin/sealskinlaw02.OctetForm", spec := "octetForm", named := ["unicode/utf8.first", "unicode/utf8.acceptRanges"], apart := false, laid := [("unicode/utf8.acceptRanges", laid_unicode_utf8_acceptRanges), ("unicode/utf8.first", laid_unicode_utf8_first)] }
def OctetFormSaid : Prop := octetFormRow.holds Tryd.pinned (OpenSpec.ofChange octetFormSpec)

/-- ITS FALSE NEIGHBOUR: 'it returns false'. Refute it at one input. -/
def octetFormWrong : ChangeSpec := { name := "octetForm", fn := fun _ => fun
  | [d] => { results := [.lit (.bool false)], args := [d] }
  | _ => none }
def OctetFormWrongFalsely : Prop := octetFormRow.holds Tryd.pinned (OpenSpec.ofChange octetFormWrong)

/-- 'sealskinlaw02.OctetOrder': WHATEVER THE INPUT: true; the input reads as it did. -/
def octetOrderSpec : ChangeSpec := { name := "octetOrder", fn := fun _ => fun
  | [d1, d2] => { results := [.lit (.bool true)], args := [d1, d2] }
  | _ => none }
def octetOrderRow : OpenClaim := { program := "ytdnpdljnjoegiaadoor", sum := "e36e18f45dc1882bb8d36f95cba17400ee19b4a775781e742c23d048192563b5", func := "sealskin/sealskinlaw02.OctetOrder", spec := "octetOrder", inPlace := ["internal/bytealg.Compare"], named := ["unicode/utf8.first", "unicode/utf8.acceptRanges"], apart := false, laid := [("unicode/utf8.acceptRanges", laid_unicode_utf8_acceptRanges), ("unicode/utf8.first", laid_unicode_utf8_first)] }
def OctetOrderSaid : Prop := octetOrderRow.holds Tryd.pinned (OpenSpec.ofChange octetOrderSpec)

/-- ITS FALSE NEIGHBOUR: 'it returns false'. Refute it at one input. -/
def octetOrderWrong : ChangeSpec := { name := "octetOrder", fn := fun _ => fun
  | [d1, d2] => { results := [.lit (.bool false)], args := [d1, d2] }
  | _ => none }
def OctetOrderWrongFalsely : Prop := octetOrderRow.holds Tryd.pinned (OpenSpec.ofChange octetOrderWrong)

/-- 'sealskinlaw02.OctetNumbers': WHATEVER THE INPUT: true; the input reads as it did. -/
def octetNumbersSpec : ChangeSpec := { name := "octetNumbers", fn := fun _ => fun
  | [d1, d2] => { results := [.lit (.bool true)], args := [d1, d2] }
  | _ => none }
def octetNumbersRow : OpenClaim := { program := "ytdnpdljnjoegiaadoor", sum := "e36e18f45dc1882bb8d36f95cba17400ee19b4a775781e742c23d048192563b5", func := "sealskin/sealskinlaw02.OctetNumbers", spec := "octetNumbers", named := ["unicode/utf8.first", "unicode/utf8.acceptRanges"], apart := false, laid := [("unicode/utf8.acceptRanges", laid_unicode_utf8_acceptRanges), ("unicode/utf8.first", laid_unicode_utf8_first)] }
def OctetNumbersSaid : Prop := octetNumbersRow.holds Tryd.pinned (OpenSpec.ofChange octetNumbersSpec)

/-- ITS FALSE NEIGHBOUR: 'it returns false'. Refute it at one input. -/
def octetNumbersWrong : ChangeSpec := { name := "octetNumbers", fn := fun _ => fun
  | [d1, d2] => { results := [.lit (.bool false)], args := [d1, d2] }
  | _ => none }
def OctetNumbersWrongFalsely : Prop := octetNumbersRow.holds Tryd.pinned (OpenSpec.ofChange octetNumbersWrong)

/-- 'sealskinlaw02.OctetBlocks': WHATEVER THE INPUT: true; the input reads as it did. -/
def octetBlocksSpec : ChangeSpec := { name := "octetBlocks", fn := fun _ => fun
  | [d1, d2] => { results := [.lit (.bool true)], args := [d1, d2] }
  | _ => none }
def octetBlocksRow : OpenClaim := { program := "ytdnpdljnjoegiaadoor", sum := "e36e18f45dc1882bb8d36f95cba17400ee19b4a775781e742c23d048192563b5", func := "sealskin/sealskinlaw02.OctetBlocks", spec := "octetBlocks", named := ["unicode/utf8.first", "unicode/utf8.acceptRanges"], apart := false, laid := [("unicode/utf8.acceptRanges", laid_unicode_utf8_acceptRanges), ("unicode/utf8.first", laid_unicode_utf8_first)] }
def OctetBlocksSaid : Prop := octetBlocksRow.holds Tryd.pinned (OpenSpec.ofChange octetBlocksSpec)

/-- ITS FALSE NEIGHBOUR: 'it returns false'. Refute it at one input. -/
def octetBlocksWrong : ChangeSpec := { name := "octetBlocks", fn := fun _ => fun
  | [d1, d2] => { results := [.lit (.bool false)], args := [d1, d2] }
  | _ => none }
def OctetBlocksWrongFalsely : Prop := octetBlocksRow.holds Tryd.pinned (OpenSpec.ofChange octetBlocksWrong)

/-- 'sealskinlaw02.OctetNobody': WHATEVER THE INPUT: true; the input reads as it did. -/
def octetNobodySpec : ChangeSpec := { name := "octetNobody", fn := fun _ => fun
  | [d] => { results := [.lit (.bool true)], args := [d] }
  | _ => none }
def octetNobodyRow : OpenClaim := { program := "ytdnpdljnjoegiaadoor", sum := "e36e18f45dc1882bb8d36f95cba17400ee19b4a775781e742c23d048192563b5", func := "sealskin/sealskinlaw02.OctetNobody", spec := "octetNobody", named := ["unicode/utf8.first", "unicode/utf8.acceptRanges"], apart := false, laid := [("unicode/utf8.acceptRanges", laid_unicode_utf8_acceptRanges), ("unicode/utf8.first", laid_unicode_utf8_first)] }
def OctetNobodySaid : Prop := octetNobodyRow.holds Tryd.pinned (OpenSpec.ofChange octetNobodySpec)

/-- ITS FALSE NEIGHBOUR: 'it returns false'. Refute it at one input. -/
def octetNobodyWrong : ChangeSpec := { name := "octetNobody", fn := fun _ => fun
  | [d] => { results := [.lit (.bool false)], args := [d] }
  | _ => none }
def OctetNobodyWrongFalsely : Prop := octetNobodyRow.holds Tryd.pinned (OpenSpec.ofChange octetNobodyWrong)

/-- 'sealskinlaw02.OctetReads': WHATEVER THE INPUT: true; the input reads as it did. -/
def octetReadsSpec : ChangeSpec := { name := "octetReads", fn := fun _ => fun
  | [d1, d2] => { results := [.lit (.bool true)], args := [d1, d2] }
  | _ => none }
def octetReadsRow : OpenClaim := { program := "ytdnpdljnjoegiaadoor", sum := "e36e18f45dc1882bb8d36f95cba17400ee19b4a775781e742c23d048192563b5", func := "sealskin/sealskinlaw02.OctetReads", spec := "octetReads", named := ["unicode/utf8.first", "unicode/utf8.acceptRanges"], apart := false, laid := [("unicode/utf8.acceptRanges", laid_unicode_utf8_acceptRanges), ("unicode/utf8.first", laid_unicode_utf8_first)] }
def OctetReadsSaid : Prop := octetReadsRow.holds Tryd.pinned (OpenSpec.ofChange octetReadsSpec)

/-- ITS FALSE NEIGHBOUR: 'it returns false'. Refute it at one input. -/
def octetReadsWrong : ChangeSpec := { name := "octetReads", fn := fun _ => fun
  | [d1, d2] => { results := [.lit (.bool false)], args := [d1, d2] }
  | _ => none }
def OctetReadsWrongFalsely : Prop := octetReadsRow.holds Tryd.pinned (OpenSpec.ofChange octetReadsWrong)

/-- 'sealskinlaw02.OctetOpens': WHATEVER THE INPUT: true; the input reads as it did. -/
def octetOpensSpec : ChangeSpec := { name := "octetOpens", fn := fun _ => fun
  | [d] => { results := [.lit (.bool true)], args := [d] }
  | _ => none }
def octetOpensRow : OpenClaim := { program := "ytdnpdljnjoegiaadoor", sum := "e36e18f45dc1882bb8d36f95cba17400ee19b4a775781e742c23d048192563b5", func := "sealskin/sealskinlaw02.OctetOpens", spec := "octetOpens", unfollowed := true, recurses := true, named := ["unicode/utf8.first", "unicode/utf8.acceptRanges"], apart := false, laid := [("unicode/utf8.acceptRanges", laid_unicode_utf8_acceptRanges), ("unicode/utf8.first", laid_unicode_utf8_first)] }
def OctetOpensSaid : Prop := octetOpensRow.holds Tryd.pinned (OpenSpec.ofChange octetOpensSpec)

/-- ITS FALSE NEIGHBOUR: 'it returns false'. Refute it at one input. -/
def octetOpensWrong : ChangeSpec := { name := "octetOpens", fn := fun _ => fun
  | [d] => { results := [.lit (.bool false)], args := [d] }
  | _ => none }
def OctetOpensWrongFalsely : Prop := octetOpensRow.holds Tryd.pinned (OpenSpec.ofChange octetOpensWrong)

/-- 'sealskinlaw02.OctetTexts': WHATEVER THE INPUT: true; the input reads as it did. -/
def octetTextsSpec : ChangeSpec := { name := "octetTexts", fn := fun _ => fun
  | [d1, d2] => { results := [.lit (.bool true)], args := [d1, d2] }
  | _ => none }
def octetTextsRow : OpenClaim := { program := "ytdnpdljnjoegiaadoor", sum := "e36e18f45dc1882bb8d36f95cba17400ee19b4a775781e742c23d048192563b5", func := "sealskin/sealskinlaw02.OctetTexts", spec := "octetTexts", named := ["unicode/utf8.first", "unicode/utf8.acceptRanges"], apart := false, laid := [("unicode/utf8.acceptRanges", laid_unicode_utf8_acceptRanges), ("unicode/utf8.first", laid_unicode_utf8_first)] }
def OctetTextsSaid : Prop := octetTextsRow.holds Tryd.pinned (OpenSpec.ofChange octetTextsSpec)

/-- ITS FALSE NEIGHBOUR: 'it returns false'. Refute it at one input. -/
def octetTextsWrong : ChangeSpec := { name := "octetTexts", fn := fun _ => fun
  | [d1, d2] => { results := [.lit (.bool false)], args := [d1, d2] }
  | _ => none }
def OctetTextsWrongFalsely : Prop := octetTextsRow.holds Tryd.pinned (OpenSpec.ofChange octetTextsWrong)

/- THE SECOND FORM. 'bulk': how many values and letters a reading holds, each counted each time it is reached (what is shared counts as often as it is met; a slice's spare places count too). A statement '..UptoSaid' is the law's where the arguments, and the package variables that the reading takes, are together of bulk at most 1048576: NARROWER than '..Said'. Prove '..Said' where nothing that the law and all that it calls make is longer than what came in: it says more and counts as full. Else prove '..UptoSaid'. A law counts once. -/
mutual
def uptoBulk {H : Type} : DataW H → Nat
  | .lit (.string bytes) => bytes.length + 1
  | .lit _ => 1
  | .nil => 1
  | .ptr d => uptoBulk d + 1
  | .slice elems spare => uptoBulkAll elems + uptoBulkAll spare + 1
  | .agg parts => uptoBulkAll parts + 1
  | .iface _ d => uptoBulk d + 1
  | .map entries => uptoBulkEntries entries + 1
  | .held _ => 1
def uptoBulkAll {H : Type} : List (DataW H) → Nat
  | [] => 0
  | d :: r => uptoBulk d + uptoBulkAll r
def uptoBulkEntries {H : Type} : List (Lit × DataW H) → Nat
  | [] => 0
  | x :: r => uptoBulkEntry x + uptoBulkEntries r
def uptoBulkEntry {H : Type} : Lit × DataW H → Nat
  | (.string bytes, d) => bytes.length + uptoBulk d + 1
  | (_, d) => uptoBulk d + 1
 end
def uptoSmall : (H : Type) → List (DataW H) → Bool := fun _ ds => decide (uptoBulkAll ds ≤ 1048576)
def OpenSpec.upto (s : _root_.Go.ChangeSpec) : _root_.Go.OpenSpec := { _root_.Go.OpenSpec.ofChange s with cond := some uptoSmall }

/-- 'sealskinlaw02.OctetBack', WHERE WHAT IT READS IS OF BULK AT MOST 1048576: true; the input reads as it did. -/
def octetBackUptoRow : OpenClaim := { program := "ytdnpdljnjoegiaadoor", sum := "e36e18f45dc1882bb8d36f95cba17400ee19b4a775781e742c23d048192563b5", func := "sealskin/sealskinlaw02.OctetBack", spec := "octetBack", named := ["unicode/utf8.first", "unicode/utf8.acceptRanges"], apart := false, laid := [("unicode/utf8.acceptRanges", laid_unicode_utf8_acceptRanges), ("unicode/utf8.first", laid_unicode_utf8_first)], narrowed := true }
def OctetBackUptoSaid : Prop := octetBackUptoRow.holds Tryd.pinned (OpenSpec.upto octetBackSpec)

/-- 'sealskinlaw02.OctetTurned', WHERE WHAT IT READS IS OF BULK AT MOST 1048576: true; the input reads as it did. -/
def octetTurnedUptoRow : OpenClaim := { program := "ytdnpdljnjoegiaadoor", sum := "e36e18f45dc1882bb8d36f95cba17400ee19b4a775781e742c23d048192563b5", func := "sealskin/sealskinlaw02.OctetTurned", spec := "octetTurned", named := ["unicode/utf8.first", "unicode/utf8.acceptRanges"], apart := false, laid := [("unicode/utf8.acceptRanges", laid_unicode_utf8_acceptRanges), ("unicode/utf8.first", laid_unicode_utf8_first)], narrowed := true }
def OctetTurnedUptoSaid : Prop := octetTurnedUptoRow.holds Tryd.pinned (OpenSpec.upto octetTurnedSpec)

/-- 'sealskinlaw02.OctetCut', WHERE WHAT IT READS IS OF BULK AT MOST 1048576: true; the input reads as it did. -/
def octetCutUptoRow : OpenClaim := { program := "ytdnpdljnjoegiaadoor", sum := "e36e18f45dc1882bb8d36f95cba17400ee19b4a775781e742c23d048192563b5", func := "sealskin/sealskinlaw02.OctetCut", spec := "octetCut", named := ["unicode/utf8.first", "unicode/utf8.acceptRanges"], apart := false, laid := [("unicode/utf8.acceptRanges", laid_unicode_utf8_acceptRanges), ("unicode/utf8.first", laid_unicode_utf8_first)], narrowed := true }
def OctetCutUptoSaid : Prop := octetCutUptoRow.holds Tryd.pinned (OpenSpec.upto octetCutSpec)

/-- 'sealskinlaw02.OctetForm', WHERE WHAT IT READS IS OF BULK AT MOST 1048576: true; the input reads as it did. -/
def octetFormUptoRow : OpenClaim := { program := "ytdnpdljnjoegiaadoor", sum := "e36e18f45dc1882bb8d36f95cba17400ee19b4a775781e742c23d048192563b5", func := "sealskin/sealskinlaw02.OctetForm", spec := "octetForm", named := ["unicode/utf8.first", "unicode/utf8.acceptRanges"], apart := false, laid := [("unicode/utf8.acceptRanges", laid_unicode_utf8_acceptRanges), ("unicode/utf8.first", laid_unicode_utf8_first)], narrowed := true }
def OctetFormUptoSaid : Prop := octetFormUptoRow.holds Tryd.pinned (OpenSpec.upto octetFormSpec)

/-- 'sealskinlaw02.OctetOrder', WHERE WHAT IT READS IS OF BULK AT MOST 1048576: true; the input reads as it did. -/
def octetOrderUptoRow : OpenClaim := { program := "ytdnpdljnjoegiaadoor", sum := "e36e18f45dc1882bb8d36f95cba17400ee19b4a775781e742c23d048192563b5", func := "sealskin/sealskinlaw02.OctetOrder", spec := "octetOrder", inPlace := ["internal/bytealg.Compare"], named := ["unicode/utf8.first", "unicode/utf8.acceptRanges"], apart := false, laid := [("unicode/utf8.acceptRanges", laid_unicode_utf8_acceptRanges), ("unicode/utf8.first", laid_unicode_utf8_first)], narrowed := true }
def OctetOrderUptoSaid : Prop := octetOrderUptoRow.holds Tryd.pinned (OpenSpec.upto octetOrderSpec)

/-- 'sealskinlaw02.OctetNumbers', WHERE WHAT IT READS IS OF BULK AT MOST 1048576: true; the input reads as it did. -/
def octetNumbersUptoRow : OpenClaim := { program := "ytdnpdljnjoegiaadoor", sum := "e36e18f45dc1882bb8d36f95cba17400ee19b4a775781e742c23d048192563b5", func := "sealskin/sealskinlaw02.OctetNumbers", spec := "octetNumbers", named := ["unicode/utf8.first", "unicode/utf8.acceptRanges"], apart := false, laid := [("unicode/utf8.acceptRanges", laid_unicode_utf8_acceptRanges), ("unicode/utf8.first", laid_unicode_utf8_first)], narrowed := true }
def OctetNumbersUptoSaid : Prop := octetNumbersUptoRow.holds Tryd.pinned (OpenSpec.upto octetNumbersSpec)

/-- 'sealskinlaw02.OctetBlocks', WHERE WHAT IT READS IS OF BULK AT MOST 1048576: true; the input reads as it did. -/
def octetBlocksUptoRow : OpenClaim := { program := "ytdnpdljnjoegiaadoor", sum := "e36e18f45dc1882bb8d36f95cba17400ee19b4a775781e742c23d048192563b5", func := "sealskin/sealskinlaw02.OctetBlocks", spec := "octetBlocks", named := ["unicode/utf8.first", "unicode/utf8.acceptRanges"], apart := false, laid := [("unicode/utf8.acceptRanges", laid_unicode_utf8_acceptRanges), ("unicode/utf8.first", laid_unicode_utf8_first)], narrowed := true }
def OctetBlocksUptoSaid : Prop := octetBlocksUptoRow.holds Tryd.pinned (OpenSpec.upto octetBlocksSpec)

/-- 'sealskinlaw02.OctetNobody', WHERE WHAT IT READS IS OF BULK AT MOST 1048576: true; the input reads as it did. -/
def octetNobodyUptoRow : OpenClaim := { program := "ytdnpdljnjoegiaadoor", sum := "e36e18f45dc1882bb8d36f95cba17400ee19b4a775781e742c23d048192563b5", func := "sealskin/sealskinlaw02.OctetNobody", spec := "octetNobody", named := ["unicode/utf8.first", "unicode/utf8.acceptRanges"], apart := false, laid := [("unicode/utf8.acceptRanges", laid_unicode_utf8_acceptRanges), ("unicode/utf8.first", laid_unicode_utf8_first)], narrowed := true }
def OctetNobodyUptoSaid : Prop := octetNobodyUptoRow.holds Tryd.pinned (OpenSpec.upto octetNobodySpec)

/-- 'sealskinlaw02.OctetReads', WHERE WHAT IT READS IS OF BULK AT MOST 1048576: true; the input reads as it did. -/
def octetReadsUptoRow : OpenClaim := { program := "ytdnpdljnjoegiaadoor", sum := "e36e18f45dc1882bb8d36f95cba17400ee19b4a775781e742c23d048192563b5", func := "sealskin/sealskinlaw02.OctetReads", spec := "octetReads", named := ["unicode/utf8.first", "unicode/utf8.acceptRanges"], apart := false, laid := [("unicode/utf8.acceptRanges", laid_unicode_utf8_acceptRanges), ("unicode/utf8.first", laid_unicode_utf8_first)], narrowed := true }
def OctetReadsUptoSaid : Prop := octetReadsUptoRow.holds Tryd.pinned (OpenSpec.upto octetReadsSpec)

/-- 'sealskinlaw02.OctetOpens', WHERE WHAT IT READS IS OF BULK AT MOST 1048576: true; the input reads as it did. -/
def octetOpensUptoRow : OpenClaim := { program := "ytdnpdljnjoegiaadoor", sum := "e36e18f45dc1882bb8d36f95cba17400ee19b4a775781e742c23d048192563b5", func := "sealskin/sealskinlaw02.OctetOpens", spec := "octetOpens", unfollowed := true, recurses := true, named := ["unicode/utf8.first", "unicode/utf8.acceptRanges"], apart := false, laid := [("unicode/utf8.acceptRanges", laid_unicode_utf8_acceptRanges), ("unicode/utf8.first", laid_unicode_utf8_first)], narrowed := true }
def OctetOpensUptoSaid : Prop := octetOpensUptoRow.holds Tryd.pinned (OpenSpec.upto octetOpensSpec)

/-- 'sealskinlaw02.OctetTexts', WHERE WHAT IT READS IS OF BULK AT MOST 1048576: true; the input reads as it did. -/
def octetTextsUptoRow : OpenClaim := { program := "ytdnpdljnjoegiaadoor", sum := "e36e18f45dc1882bb8d36f95cba17400ee19b4a775781e742c23d048192563b5", func := "sealskin/sealskinlaw02.OctetTexts", spec := "octetTexts", named := ["unicode/utf8.first", "unicode/utf8.acceptRanges"], apart := false, laid := [("unicode/utf8.acceptRanges", laid_unicode_utf8_acceptRanges), ("unicode/utf8.first", laid_unicode_utf8_first)], narrowed := true }
def OctetTextsUptoSaid : Prop := octetTextsUptoRow.holds Tryd.pinned (OpenSpec.upto octetTextsSpec)

end Rows
end Go.Proofs.YtdnpdljnjoegiaaDoor
