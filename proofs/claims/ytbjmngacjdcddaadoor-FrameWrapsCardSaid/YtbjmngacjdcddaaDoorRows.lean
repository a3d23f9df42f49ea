/-
  NARROWER THAN 'FOR EVERY INPUT', by the rows' own cells (each row's printed sentence says how): FrameChecks: laid · FrameOpens: laid · FrameSmall: laid · FramePuts: laid · FrameKeys: laid · FrameWraps: laid · FrameTrip: laid · FrameBack: laid · FrameGets: laid.
  DERIVED. THE GIVEN ROWS OF THIS SEAT. 9 by the template 'for every input the law returns true; each argument reads behind the call as it read before'; 0 by the template 'total and deterministic' (their statements: YtbjmngacjdcddaaDoorTotals.lean).
  GIVEN WITH THE SEED: the statements are not yours to turn. If you find one false, say at which input.
  Laid BY PROGRAM, IN A SANDBOX (cutbox-rows.mjs): the forced cells as the released guide's own fill.sh prints them over the translation 8a4e22b0a293712e… (all of the seat's roots in one cut). By AI agents, Wed Nov 11 2026. No macro, syntax, notation, axiom, sorry.
-/
import Derived.Test.YtbjmngacjdcddaaDoorChecked
import GoSem.PinnedTables
import GoSem.Claim
import GoSem.ClaimJoined
import GoSem.ClaimMapViews
import Derived.JoinedTies
import Derived.KernelRfl
namespace Go.Proofs.YtbjmngacjdcddaaDoor
/- THE CELL 'sum', in the pinned program and in every row, IS THE sha256 OF THE DUMP (.gsa) THAT YtbjmngacjdcddaaDoorProg.lean LOADS. Nothing in Lean hashes anything: it is a label: what it is worth is what the hold of that sum in a sandbox is worth. -/
noncomputable def Tryd.pinned : Pinned := { name := "ytbjmngacjdcddaadoor", sum := "8a4e22b0a293712e791210a01166273b5f1b9f5279ad1c9543d7e4f075c07f10", checked := Tryd.checked }
namespace Rows
def none {H : Type} : Left H := { results := [], args := [] }

/- WHAT THE LISTED PACKAGE-LEVEL VARIABLES READ AS WHEN THE CALL BEGINS. Each datum BY PROGRAM (the guide's laid-datum.mjs) off the statement by which the dump's own 'gosem.cut.vars' lays the variable. In a bare row this is a premise. The card (YtbjmngacjdcddaaDoorCards.lean) ties it to the program's text. -/
def laid_unicode_utf8_acceptRanges {H : Type} : DataW H := .agg [.agg [.lit (.int .u8 128), .lit (.int .u8 191)], .agg [.lit (.int .u8 160), .lit (.int .u8 191)], .agg [.lit (.int .u8 128), .lit (.int .u8 159)], .agg [.lit (.int .u8 144), .lit (.int .u8 191)], .agg [.lit (.int .u8 128), .lit (.int .u8 143)], .agg [.lit (.int .u8 0), .lit (.int .u8 0)], .agg [.lit (.int .u8 0), .lit (.int .u8 0)], .agg [.lit (.int .u8 0), .lit (.int .u8 0)], .agg [.lit (.int .u8 0), .lit (.int .u8 0)], .agg [.lit (.int .u8 0), .lit (.int .u8 0)], .agg [.lit (.int .u8 0), .lit (.int .u8 0)], .agg [.lit (.int .u8 0), .lit (.int .u8 0)], .agg [.lit (.int .u8 0), .lit (.int .u8 0)], .agg [.lit (.int .u8 0), .lit (.int .u8 0)], .agg [.lit (.int .u8 0), .lit (.int .u8 0)], .agg [.lit (.int .u8 0), .lit (.int .u8 0)]]
def laid_sealskin_hash_order {H : Type} : DataW H := .agg [.agg [.lit (.int .u8 0), .lit (.int .u8 1), .lit (.int .u8 2), .lit (.int .u8 3), .lit (.int .u8 4), .lit (.int .u8 5), .lit (.int .u8 6), .lit (.int .u8 7), .lit (.int .u8 8), .lit (.int .u8 9), .lit (.int .u8 10), .lit (.int .u8 11), .lit (.int .u8 12), .lit (.int .u8 13), .lit (.int .u8 14), .lit (.int .u8 15)], .agg [.lit (.int .u8 14), .lit (.int .u8 10), .lit (.int .u8 4), .lit (.int .u8 8), .lit (.int .u8 9), .lit (.int .u8 15), .lit (.int .u8 13), .lit (.int .u8 6), .lit (.int .u8 1), .lit (.int .u8 12), .lit (.int .u8 0), .lit (.int .u8 2), .lit (.int .u8 11), .lit (.int .u8 7), .lit (.int .u8 5), .lit (.int .u8 3)], .agg [.lit (.int .u8 11), .lit (.int .u8 8), .lit (.int .u8 12), .lit (.int .u8 0), .lit (.int .u8 5), .lit (.int .u8 2), .lit (.int .u8 15), .lit (.int .u8 13), .lit (.int .u8 10), .lit (.int .u8 14), .lit (.int .u8 3), .lit (.int .u8 6), .lit (.int .u8 7), .lit (.int .u8 1), .lit (.int .u8 9), .lit (.int .u8 4)], .agg [.lit (.int .u8 7), .lit (.int .u8 9), .lit (.int .u8 3), .lit (.int .u8 1), .lit (.int .u8 13), .lit (.int .u8 12), .lit (.int .u8 11), .lit (.int .u8 14), .lit (.int .u8 2), .lit (.int .u8 6), .lit (.int .u8 5), .lit (.int .u8 10), .lit (.int .u8 4), .lit (.int .u8 0), .lit (.int .u8 15), .lit (.int .u8 8)], .agg [.lit (.int .u8 9), .lit (.int .u8 0), .lit (.int .u8 5), .lit (.int .u8 7), .lit (.int .u8 2), .lit (.int .u8 4), .lit (.int .u8 10), .lit (.int .u8 15), .lit (.int .u8 14), .lit (.int .u8 1), .lit (.int .u8 11), .lit (.int .u8 12), .lit (.int .u8 6), .lit (.int .u8 8), .lit (.int .u8 3), .lit (.int .u8 13)], .agg [.lit (.int .u8 2), .lit (.int .u8 12), .lit (.int .u8 6), .lit (.int .u8 10), .lit (.int .u8 0), .lit (.int .u8 11), .lit (.int .u8 8), .lit (.int .u8 3), .lit (.int .u8 4), .lit (.int .u8 13), .lit (.int .u8 7), .lit (.int .u8 5), .lit (.int .u8 15), .lit (.int .u8 14), .lit (.int .u8 1), .lit (.int .u8 9)], .agg [.lit (.int .u8 12), .lit (.int .u8 5), .lit (.int .u8 1), .lit (.int .u8 15), .lit (.int .u8 14), .lit (.int .u8 13), .lit (.int .u8 4), .lit (.int .u8 10), .lit (.int .u8 0), .lit (.int .u8 7), .lit (.int .u8 6), .lit (.int .u8 3), .lit (.int .u8 9), .lit (.int .u8 2), .lit (.int .u8 8), .lit (.int .u8 11)], .agg [.lit (.int .u8 13), .lit (.int .u8 11), .lit (.int .u8 7), .lit (.int .u8 14), .lit (.int .u8 12), .lit (.int .u8 1), .lit (.int .u8 3), .lit (.int .u8 9), .lit (.int .u8 5), .lit (.int .u8 0), .lit (.int .u8 15), .lit (.int .u8 4), .lit (.int .u8 8), .lit (.int .u8 6), .lit (.int .u8 2), .lit (.int .u8 10)], .agg [.lit (.int .u8 6), .lit (.int .u8 15), .lit (.int .u8 14), .lit (.int .u8 9), .lit (.int .u8 11), .lit (.int .u8 3), .lit (.int .u8 0), .lit (.int .u8 8), .lit (.int .u8 12), .lit (.int .u8 2), .lit (.int .u8 13), .lit (.int .u8 7), .lit (.int .u8 1), .lit (.int .u8 4), .lit (.int .u8 10), .lit (.int .u8 5)], .agg [.lit (.int .u8 10), .lit (.int .u8 2), .lit (.int .u8 8), .lit (.int .u8 4), .lit (.int .u8 7), .lit (.int .u8 6), .lit (.int .u8 1), .lit (.int .u8 5), .lit (.int .u8 15), .lit (.int .u8 11), .lit (.int .u8 9), .lit (.int .u8 14), .lit (.int .u8 3), .lit (.int .u8 12), .lit (.int .u8 13), .lit (.int .u8 0)]]
/-- One of Go's own tables, pinned by name: the form's constant. -/
def laid_unicode_utf8_first : DataW Unit := Go.Pinned.utf8First

/-- 'sealskinlaw13.FrameChecks': WHATEVER THE INPUT: true; the input reads as it did. -/
def frameChecksSpec : ChangeSpec := { name := "frameChecks", fn := fun _ => fun
  | [d] => { results := [.lit (.bool true)], args := [d] }
  | _ => none }
def frameChecksRow : OpenClaim := { program := "ytbjmngacjdcddaadoor", sum := "8a4e22b0a293712e791210a01166273b5f1b9f5279ad1c9543d7e4f075c07f10", func := "sealskin/sealskinlaw13.FrameChecks", spec := "frameChecks", named := ["unicode/utf8.first", "unicode/utf8.acceptRanges", "sealskin/hash.order"], apart := false, laid := [("unicode/utf8.acceptRanges", laid_unicode_utf8_acceptRanges), ("sealskin/hash.order", laid_sealskin_hash_order), ("unicode/utf8.first", laid_unicode_utf8_first)] }
def FrameChecksSaid : Prop := frameChecksRow.holds Tryd.pinned (OpenSpec.ofChange frameChecksSpec)

/-- ITS FALSE NEIGHBOUR: 'it returns false'. Refute it at one input. -/
def frameChecksWrong : ChangeSpec := { name := "frameChecks", fn := fun _ => fun
  | [d] => { results := [.lit (.bool false)], args := [d] }
  | _ => none }
def FrameChecksWrongFalsely : Prop := frameChecksRow.holds Tryd.pinned (OpenSpec.ofChange frameChecksWrong)

/-- 'sealskinlaw13.FrameOpens': WHATEVER THE INPUT: true; the input reads as it did. -/
def frameOpensSpec : ChangeSpec := { name := "frameOpens", fn := fun _ => fun
  | [d1, d2, d3] => { results := [.lit (.bool true)], args := [d1, d2, d3] }
  | _ => none }
def frameOpensRow : OpenClaim := { program := "ytbjmngacjdcddaadoor", sum := "8a4e22b0a293712e791210a01166273b5f1b9f5279ad1c9543d7e4f075c07f10", func := "sealskin/sealskinlaw13.FrameOpens", spec := "frameOpens", named := ["unicode/utf8.first", "unicode/utf8.acceptRanges", "sealskin/hash.order"], apart := false, laid := [("unicode/utf8.acceptRanges", laid_unicode_utf8_acceptRanges), ("sealskin/hash.order", laid_sealskin_hash_order), ("unicode/utf8.first", laid_unicode_utf8_first)] }
def FrameOpensSaid : Prop := frameOpensRow.holds Tryd.pinned (OpenSpec.ofChange frameOpensSpec)

/-- ITS FALSE NEIGHBOUR: 'it returns false'. Refute it at one input. -/
def frameOpensWrong : ChangeSpec := { name := "frameOpens", fn := fun _ => fun
  | [d1, d2, d3] => { results := [.lit (.bool false)], args := [d1, d2, d3] }
  | _ => none }
def FrameOpensWrongFalsely : Prop := frameOpensRow.holds Tryd.pinned (OpenSpec.ofChange frameOpensWrong)

/-- 'sealskinlaw13.FrameSmall': WHATEVER THE INPUT: true; the input reads as it did. -/
def frameSmallSpec : ChangeSpec := { name := "frameSmall", fn := fun _ => fun
  | [d] => { results := [.lit (.bool true)], args := [d] }
  | _ => none }
def frameSmallRow : OpenClaim := { program := "ytbjmngacjdcddaadoor", sum := "8a4e22b0a293712e791210a01166273b5f1b9f5279ad1c9543d7e4f075c07f10", func := "sealskin/sealskinlaw13.FrameSmall", spec := "frameSmall", named := ["unicode/utf8.first", "unicode/utf8.acceptRanges", "sealskin/hash.order"], apart := false, laid := [("unicode/utf8.acceptRanges", laid_unicode_utf8_acceptRanges), ("sealskin/hash.order", laid_sealskin_hash_order), ("unicode/utf8.first", laid_unicode_utf8_first)] }
def FrameSmallSaid : Prop := frameSmallRow.holds Tryd.pinned (OpenSpec.ofChange frameSmallSpec)

/-- ITS FALSE NEIGHBOUR: 'it returns false'. Refute it at one input. -/
def frameSmallWrong : ChangeSpec := { name := "frameSmall", fn := fun _ => fun
  | [d] => { results := [.lit (.bool false)], args := [d] }
  | _ => none }
def FrameSmallWrongFalsely : Prop := frameSmallRow.holds Tryd.pinned (OpenSpec.ofChange frameSmallWrong)

/-- 'sealskinlaw13.FramePuts': WHATEVER THE INPUT: true; the input reads as it did. -/
def framePutsSpec : ChangeSpec := { name := "framePuts", fn := fun _ => fun
  | [d] => { results := [.lit (.bool true)], args := [d] }
  | _ => none }
def framePutsRow : OpenClaim := { program := "ytbjmngacjdcddaadoor", sum := "8a4e22b0a293712e791210a01166273b5f1b9f5279ad1c9543d7e4f075c07f10", func := "sealskin/sealskinlaw13.FramePuts", spec := "framePuts", named := ["unicode/utf8.first", "unicode/utf8.acceptRanges", "sealskin/hash.order"], apart := false, laid := [("unicode/utf8.acceptRanges", laid_unicode_utf8_acceptRanges), ("sealskin/hash.order", laid_sealskin_hash_order), ("unicode/utf8.first", laid_unicode_utf8_first)] }
def FramePutsSaid : Prop := framePutsRow.holds Tryd.pinned (OpenSpec.ofChange framePutsSpec)

/-- ITS FALSE NEIGHBOUR: 'it returns false'. Refute it at one input. -/
def framePutsWrong : ChangeSpec := { name := "framePuts", fn := fun _ => fun
  | [d] => { results := [.lit (.bool false)], args := [d] }
  | _ => none }
def FramePutsWrongFalsely : Prop := framePutsRow.holds Tryd.pinned (OpenSpec.ofChange framePutsWrong)

/-- 'sealskinlaw13.FrameKeys': WHATEVER THE INPUT: true; the input reads as it did. -/
def frameKeysSpec : ChangeSpec := { name := "frameKeys", fn := fun _ => fun
  | [d1, d2, d3] => { results := [.lit (.bool true)], args := [d1, d2, d3] }
  | _ => none }
def frameKeysRow : OpenClaim := { program := "ytbjmngacjdcddaadoor", sum := "8a4e22b0a293712e791210a01166273b5f1b9f5279ad1c9543d7e4f075c07f10", func := "sealskin/sealskinlaw13.FrameKeys", spec := "frameKeys", named := ["sealskin/hash.order", "unicode/utf8.first", "unicode/utf8.acceptRanges"], apart := false, laid := [("unicode/utf8.acceptRanges", laid_unicode_utf8_acceptRanges), ("sealskin/hash.order", laid_sealskin_hash_order), ("unicode/utf8.first", laid_unicode_utf8_first)] }
def FrameKeysSaid : Prop := frameKeysRow.holds Tryd.pinned (OpenSpec.ofChange frameKeysSpec)

/-- ITS FALSE NEIGHBOUR: 'it returns false'. Refute it at one input. -/
def frameKeysWrong : ChangeSpec := { name := "frameKeys", fn := fun _ => fun
  | [d1, d2, d3] => { results := [.lit (.bool false)], args := [d1, d2, d3] }
  | _ => none }
def FrameKeysWrongFalsely : Prop := frameKeysRow.holds Tryd.pinned (OpenSpec.ofChange frameKeysWrong)

/-- 'sealskinlaw13.FrameWraps': WHATEVER THE INPUT: true; the input reads as it did. -/
def frameWrapsSpec : ChangeSpec := { name := "frameWraps", fn := fun _ => fun
  | [d1, d2, d3] => { results := [.lit (.bool true)], args := [d1, d2, d3] }
  | _ => none }
def frameWrapsRow : OpenClaim := { program := "ytbjmngacjdcddaadoor", sum := "8a4e22b0a293712e791210a01166273b5f1b9f5279ad1c9543d7e4f075c07f10", func := "sealskin/sealskinlaw13.FrameWraps", spec := "frameWraps", named := ["unicode/utf8.first", "unicode/utf8.acceptRanges", "sealskin/hash.order"], apart := false, laid := [("unicode/utf8.acceptRanges", laid_unicode_utf8_acceptRanges), ("sealskin/hash.order", laid_sealskin_hash_order), ("unicode/utf8.first", laid_unicode_utf8_first)] }
def FrameWrapsSaid : Prop := frameWrapsRow.holds Tryd.pinned (OpenSpec.ofChange frameWrapsSpec)

/-- ITS FALSE NEIGHBOUR: 'it returns false'. Refute it at one input. -/
def frameWrapsWrong : ChangeSpec := { name := "frameWraps", fn := fun _ => fun
  | [d1, d2, d3] => { results := [.lit (.bool false)], args := [d1, d2, d3] }
  | _ => none }
def FrameWrapsWrongFalsely : Prop := frameWrapsRow.holds Tryd.pinned (OpenSpec.ofChange frameWrapsWrong)

/-- 'sealskinlaw13.FrameTrip': WHATEVER THE INPUT: true; the input reads as it did. -/
def frameTripSpec : ChangeSpec := { name := "frameTrip", fn := fun _ => fun
  | [d1, d2, d3, d4] => { results := [.lit (.bool true)], args := [d1, d2, d3, d4] }
  | _ => none }
def frameTripRow : OpenClaim := { program := "ytbjmngacjdcddaadoor", sum := "8a4e22b0a293712e791210a01166273b5f1b9f5279ad1c9543d7e4f075c07f10", func := "sealskin/sealskinlaw13.FrameTrip", spec := "frameTrip", named := ["unicode/utf8.first", "unicode/utf8.acceptRanges", "sealskin/hash.order"], apart := false, laid := [("unicode/utf8.acceptRanges", laid_unicode_utf8_acceptRanges), ("sealskin/hash.order", laid_sealskin_hash_order), ("unicode/utf8.first", laid_unicode_utf8_first)] }
def FrameTripSaid : Prop := frameTripRow.holds Tryd.pinned (OpenSpec.ofChange frameTripSpec)

/-- ITS FALSE NEIGHBOUR: 'it returns false'. Refute it at one input. -/
def frameTripWrong : ChangeSpec := { name := "frameTrip", fn := fun _ => fun
  | [d1, d2, d3, d4] => { results := [.lit (.bool false)], args := [d1, d2, d3, d4] }
  | _ => none }
def FrameTripWrongFalsely : Prop := frameTripRow.holds Tryd.pinned (OpenSpec.ofChange frameTripWrong)

/-- 'sealskinlaw13.FrameBack': WHATEVER THE INPUT: true; the input reads as it did. -/
def frameBackSpec : ChangeSpec := { name := "frameBack", fn := fun _ => fun
  | [d1, d2] => { results := [.lit (.bool true)], args := [d1, d2] }
  | _ => none }
def frameBackRow : OpenClaim := { program := "ytbjmngacjdcddaadoor", sum := "8a4e22b0a293712e791210a01166273b5f1b9f5279ad1c9543d7e4f075c07f10", func := "sealskin/sealskinlaw13.FrameBack", spec := "frameBack", named := ["unicode/utf8.first", "unicode/utf8.acceptRanges", "sealskin/hash.order"], apart := false, laid := [("unicode/utf8.acceptRanges", laid_unicode_utf8_acceptRanges), ("sealskin/hash.order", laid_sealskin_hash_order), ("unicode/utf8.first", laid_unicode_utf8_first)] }
def FrameBackSaid : Prop := frameBackRow.holds Tryd.pinned (OpenSpec.ofChange frameBackSpec)

/-- ITS FALSE NEIGHBOUR: 'it returns false'. Refute it at one input. -/
def frameBackWrong : ChangeSpec := { name := "frameBack", fn := fun _ => fun
  | [d1, d2] => { results := [.lit (.bool false)], args := [d1, d2] }
  | _ => none }
def FrameBackWrongFalsely : Prop := frameBackRow.holds Tryd.pinned (OpenSpec.ofChange frameBackWrong)

/-- 'sealskinlaw13.FrameGets': WHATEVER THE INPUT: true; the input reads as it did. -/
def frameGetsSpec : ChangeSpec := { name := "frameGets", fn := fun _ => fun
  | [d] => { results := [.lit (.bool true)], args := [d] }
  | _ => none }
def frameGetsRow : OpenClaim := { program := "ytbjmngacjdcddaadoor", sum := "8a4e22b0a293712e791210a01166273b5f1b9f5279ad1c9543d7e4f075c07f10", func := "sealskin/sealskinlaw13.FrameGets", spec := "frameGets", named := ["unicode/utf8.first", "unicode/utf8.acceptRanges", "sealskin/hash.order"], apart := false, laid := [("unicode/utf8.acceptRanges", laid_unicode_utf8_acceptRanges), ("sealskin/hash.order", laid_sealskin_hash_order), ("unicode/utf8.first", laid_unicode_utf8_first)] }
def FrameGetsSaid : Prop := frameGetsRow.holds Tryd.pinned (OpenSpec.ofChange frameGetsSpec)

/-- ITS FALSE NEIGHBOUR: 'it returns false'. Refute it at one input. -/
def frameGetsWrong : ChangeSpec := { name := "frameGets", fn := fun _ => fun
  | [d] => { results := [.lit (.bool false)], args := [d] }
  | _ => none }
def FrameGetsWrongFalsely : Prop := frameGetsRow.holds Tryd.pinned (OpenSpec.ofChange frameGetsWrong)

/- THE SECOND FORM. 'bulk': how many values and letters a reading holds, each counted each time it is reached (what is shared counts as often as it is met; a slice's spare places count too). A statement '..UptoSaid' is the law's where the arguments, and the package variables that the reading takes, are together of bulk at most 1048576: NARROWER than '..Said'. Prove '..Said' where nothing that the law and all that it calls make is longer than what came in: it says more and counts as full. Else prove '..UptoSaid'. A law counts once. -/
mutual
def uptoBulk {H : Type} : DataW H → Nat
  | .lit (.string bytes) => bytes.length + 1
  | .lit _ => 1
  | .nil => 1
  | .ptr d => uptoBulk d + 1
  | .slice elems spare => uptoBulkAll elems + uptoBulkAll spare + 1
  | .agg parts => uptoBulkAll parts + 1
  | .iface _ d => uptoBulk d + 1
  | .map entries => uptoBulkEntries entries + 1
  | .held _ => 1
def uptoBulkAll {H : Type} : List (DataW H) → Nat
  | [] => 0
  | d :: r => uptoBulk d + uptoBulkAll r
def uptoBulkEntries {H : Type} : List (Lit × DataW H) → Nat
  | [] => 0
  | x :: r => uptoBulkEntry x + uptoBulkEntries r
def uptoBulkEntry {H : Type} : Lit × DataW H → Nat
  | (.string bytes, d) => bytes.length + uptoBulk d + 1
  | (_, d) => uptoBulk d + 1
 end
def uptoSmall : (H : Type) → List (DataW H) → Bool := fun _ ds => decide (uptoBulkAll ds ≤ 1048576)
def OpenSpec.upto (s : _root_.Go.ChangeSpec) : _root_.Go.OpenSpec := { _root_.Go.OpenSpec.ofChange s with cond := some uptoSmall }

/-- 'sealskinlaw13.FrameChecks', WHERE WHAT IT READS IS OF BULK AT MOST 1048576: true; the input reads as it did. -/
def frameChecksUptoRow : OpenClaim := { program := "ytbjmngacjdcddaadoor", sum := "8a4e22b0a293712e791210a01166273b5f1b9f5279ad1c9543d7e4f075c07f10", func := "sealskin/sealskinlaw13.FrameChecks", spec := "frameChecks", named := ["unicode/utf8.first", "unicode/utf8.acceptRanges", "sealskin/hash.order"], apart := false, laid := [("unicode/utf8.acceptRanges", laid_unicode_utf8_acceptRanges), ("sealskin/hash.order", laid_sealskin_hash_order), ("unicode/utf8.first", laid_unicode_utf8_first)], narrowed := true }
def FrameChecksUptoSaid : Prop := frameChecksUptoRow.holds Tryd.pinned (OpenSpec.upto frameChecksSpec)

/-- 'sealskinlaw13.FrameOpens', WHERE WHAT IT READS IS OF BULK AT MOST 1048576: true; the input reads as it did. -/
def frameOpensUptoRow : OpenClaim := { program := "ytbjmngacjdcddaadoor", sum := "8a4e22b0a293712e791210a01166273b5f1b9f5279ad1c9543d7e4f075c07f10", func := "sealskin/sealskinlaw13.FrameOpens", spec := "frameOpens", named := ["unicode/utf8.first", "unicode/utf8.acceptRanges", "sealskin/hash.order"], apart := false, laid := [("unicode/utf8.acceptRanges", laid_unicode_utf8_acceptRanges), ("sealskin/hash.order", laid_sealskin_hash_order), ("unicode/utf8.first", laid_unicode_utf8_first)], narrowed := true }
def FrameOpensUptoSaid : Prop := frameOpensUptoRow.holds Tryd.pinned (OpenSpec.upto frameOpensSpec)

/-- 'sealskinlaw13.FrameSmall', WHERE WHAT IT READS IS OF BULK AT MOST 1048576: true; the input reads as it did. -/
def frameSmallUptoRow : OpenClaim := { program := "ytbjmngacjdcddaadoor", sum := "8a4e22b0a293712e791210a01166273b5f1b9f5279ad1c9543d7e4f075c07f10", func := "sealskin/sealskinlaw13.FrameSmall", spec := "frameSmall", named := ["unicode/utf8.first", "unicode/utf8.acceptRanges", "sealskin/hash.order"], apart := false, laid := [("unicode/utf8.acceptRanges", laid_unicode_utf8_acceptRanges), ("sealskin/hash.order", laid_sealskin_hash_order), ("unicode/utf8.first", laid_unicode_utf8_first)], narrowed := true }
def FrameSmallUptoSaid : Prop := frameSmallUptoRow.holds Tryd.pinned (OpenSpec.upto frameSmallSpec)

/-- 'sealskinlaw13.FramePuts', WHERE WHAT IT READS IS OF BULK AT MOST 1048576: true; the input reads as it did. -/
def framePutsUptoRow : OpenClaim := { program := "ytbjmngacjdcddaadoor", sum := "8a4e22b0a293712e791210a01166273b5f1b9f5279ad1c9543d7e4f075c07f10", func := "sealskin/sealskinlaw13.FramePuts", spec := "framePuts", named := ["unicode/utf8.first", "unicode/utf8.acceptRanges", "sealskin/hash.order"], apart := false, laid := [("unicode/utf8.acceptRanges", laid_unicode_utf8_acceptRanges), ("sealskin/hash.order", laid_sealskin_hash_order), ("unicode/utf8.first", laid_unicode_utf8_first)], narrowed := true }
def FramePutsUptoSaid : Prop := framePutsUptoRow.holds Tryd.pinned (OpenSpec.upto framePutsSpec)

/-- 'sealskinlaw13.FrameKeys', WHERE WHAT IT READS IS OF BULK AT MOST 1048576: true; the input reads as it did. -/
def frameKeysUptoRow : OpenClaim := { program := "ytbjmngacjdcddaadoor", sum := "8a4e22b0a293712e791210a01166273b5f1b9f5279ad1c9543d7e4f075c07f10", func := "sealskin/sealskinlaw13.FrameKeys", spec := "frameKeys", named := ["sealskin/hash.order", "unicode/utf8.first", "unicode/utf8.acceptRanges"], apart := false, laid := [("unicode/utf8.acceptRanges", laid_unicode_utf8_acceptRanges), ("sealskin/hash.order", laid_sealskin_hash_order), ("unicode/utf8.first", laid_unicode_utf8_first)], narrowed := true }
def FrameKeysUptoSaid : Prop := frameKeysUptoRow.holds Tryd.pinned (OpenSpec.upto frameKeysSpec)

/-- 'sealskinlaw13.FrameWraps', WHERE WHAT IT READS IS OF BULK AT MOST 1048576: true; the input reads as it did. -/
def frameWrapsUptoRow : OpenClaim := { program := "ytbjmngacjdcddaadoor", sum := "8a4e22b0a293712e791210a01166273b5f1b9f5279ad1c9543d7e4f075c07f10", func := "sealskin/sealskinlaw13.FrameWraps", spec := "frameWraps", named := ["unicode/utf8.first", "unicode/utf8.acceptRanges", "sealskin/hash.order"], apart := false, laid := [("unicode/utf8.acceptRanges", laid_unicode_utf8_acceptRanges), ("sealskin/hash.order", laid_sealskin_hash_order), ("unicode/utf8.first", laid_unicode_utf8_first)], narrowed := true }
def FrameWrapsUptoSaid : Prop := frameWrapsUptoRow.holds Tryd.pinned (OpenSpec.upto frameWrapsSpec)

/-- 'sealskinlaw13.FrameTrip', WHERE WHAT IT READS IS OF BULK AT MOST 1048576: true; the input reads as it did. -/
def frameTripUptoRow : OpenClaim := { program := "ytbjmngacjdcddaadoor", sum := "8a4e22b0a293712e791210a01166273b5f1b9f5279ad1c9543d7e4f075c07f10", func := "sealskin/sealskinlaw13.FrameTrip", spec := "frameTrip", named := ["unicode/utf8.first", "unicode/utf8.acceptRanges", "sealskin/hash.order"], apart := false, laid := [("unicode/utf8.acceptRanges", laid_unicode_utf8_acceptRanges), ("sealskin/hash.order", laid_sealskin_hash_order), ("unicode/utf8.first", laid_unicode_utf8_first)], narrowed := true }
def FrameTripUptoSaid : Prop := frameTripUptoRow.holds Tryd.pinned (OpenSpec.upto frameTripSpec)

/-- 'sealskinlaw13.FrameBack', WHERE WHAT IT READS IS OF BULK AT MOST 1048576: true; the input reads as it did. -/
def frameBackUptoRow : OpenClaim := { program := "ytbjmngacjdcddaadoor", sum := "8a4e22b0a293712e791210a01166273b5f1b9f5279ad1c9543d7e4f075c07f10", func := "sealskin/sealskinlaw13.FrameBack", spec := "frameBack", named := ["unicode/utf8.first", "unicode/utf8.acceptRanges", "sealskin/hash.order"], apart := false, laid := [("unicode/utf8.acceptRanges", laid_unicode_utf8_acceptRanges), ("sealskin/hash.order", laid_sealskin_hash_order), ("unicode/utf8.first", laid_unicode_utf8_first)], narrowed := true }
def FrameBackUptoSaid : Prop := frameBackUptoRow.holds Tryd.pinned (OpenSpec.upto frameBackSpec)

/-- 'sealskinlaw13.FrameGets', WHERE WHAT IT READS IS OF BULK AT MOST 1048576: true; the input reads as it did. -/
def frameGetsUptoRow : OpenClaim := { program := "ytbjmngacjdcddaadoor", sum := "8a4e22b0a293712e791210a01166273b5f1b9f5279ad1c9543d7e4f075c07f10", func := "sealskin/sealskinlaw13.FrameGets", spec := "frameGets", named := ["unicode/utf8.first", "unicode/utf8.acceptRanges", "sealskin/hash.order"], apart := false, laid := [("unicode/utf8.acceptRanges", laid_unicode_utf8_acceptRanges), ("sealskin/hash.order", laid_sealskin_hash_order), ("unicode/utf8.first", laid_unicode_utf8_first)], narrowed := true }
def FrameGetsUptoSaid : Prop := frameGetsUptoRow.holds Tryd.pinned (OpenSpec.upto frameGetsSpec)

end Rows
end Go.Proofs.YtbjmngacjdcddaaDoor
