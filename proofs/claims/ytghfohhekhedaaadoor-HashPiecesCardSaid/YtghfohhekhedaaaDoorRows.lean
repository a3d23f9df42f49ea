/-
  NARROWER THAN 'FOR EVERY INPUT', by the rows' own cells (each row's printed sentence says how): HashMore: laid · HashNobody: laid · HashKept: laid · HashDigests: laid · HashKeyed: laid · HashEquals: laid · HashKeys: laid · HashFronts: laid · HashPieces: laid.
  DERIVED. THE GIVEN ROWS OF THIS SEAT. 9 by the template 'for every input the law returns true; each argument reads behind the call as it read before'; 0 by the template 'total and deterministic' (their statements: YtghfohhekhedaaaDoorTotals.lean).
  GIVEN WITH THE SEED: the statements are not yours to turn. If you find one false, say at which input.
  Laid BY PROGRAM, IN A SANDBOX (cutbox-rows.mjs): the forced cells as the released guide's own fill.sh prints them over the translation c09b877f17d9f81e… (all of the seat's roots in one cut). By AI agents, Wed Nov 11 2026. No macro, syntax, notation, axiom, sorry.
-/
import Derived.Test.YtghfohhekhedaaaDoorChecked
import GoSem.Claim
import GoSem.ClaimJoined
import GoSem.ClaimMapViews
import Derived.JoinedTies
import Derived.KernelRfl
namespace Go.Proofs.YtghfohhekhedaaaDoor
/- THE CELL 'sum', in the pinned program and in every row, IS THE sha256 OF THE DUMP (.gsa) THAT YtghfohhekhedaaaDoorProg.lean LOADS. Nothing in Lean hashes anything: it is a label: what it is worth is what the hold of that sum in a sandbox is worth. -/
noncomputable def Tryd.pinned : Pinned := { name := "ytghfohhekhedaaadoor", sum := "c09b877f17d9f81eea229920b177a419a6506e2695060c99ef125df295da6039", checked := Tryd.checked }
namespace Rows
def none {H : Type} : Left H := { results := [], args := [] }

/- WHAT THE LISTED PACKAGE-LEVEL VARIABLES READ AS WHEN THE CALL BEGINS. Each datum BY PROGRAM (the guide's laid-datum.mjs) off the statement by which the dump's own 'gosem.cut.vars' lays the variable. In a bare row this is a premise. The card (YtghfohhekhedaaaDoorCards.lean) ties it to the program's text. -/
def laid_sealskin_hash_order {H : Type} : DataW H := .agg [.agg [.lit (.int .u8 0), .lit (.int .u8 1), .lit (.int .u8 2), .lit (.int .u8 3), .lit (.int .u8 4), .lit (.int .u8 5), .lit (.int .u8 6), .lit (.int .u8 7), .lit (.int .u8 8), .lit (.int .u8 9), .lit (.int .u8 10), .lit (.int .u8 11), .lit (.int .u8 12), .lit (.int .u8 13), .lit (.int .u8 14), .lit (.int .u8 15)], .agg [.lit (.int .u8 14), .lit (.int .u8 10), .lit (.int .u8 4), .lit (.int .u8 8), .lit (.int .u8 9), .lit (.int .u8 15), .lit (.int .u8 13), .lit (.int .u8 6), .lit (.int .u8 1), .lit (.int .u8 12), .lit (.int .u8 0), .lit (.int .u8 2), .lit (.int .u8 11), .lit (.int .u8 7), .lit (.int .u8 5), .lit (.int .u8 3)], .agg [.lit (.int .u8 11), .lit (.int .u8 8), .lit (.int .u8 12), .lit (.int .u8 0), .lit (.int .u8 5), .lit (.int .u8 2), .lit (.int .u8 15), .lit (.int .u8 13), .lit (.int .u8 10), .lit (.int .u8 14), .lit (.int .u8 3), .lit (.int .u8 6), .lit (.int .u8 7), .lit (.int .u8 1), .lit (.int .u8 9), .lit (.int .u8 4)], .agg [.lit (.int .u8 7), .lit (.int .u8 9), .lit (.int .u8 3), .lit (.int .u8 1), .lit (.int .u8 13), .lit (.int .u8 12), .lit (.int .u8 11), .lit (.int .u8 14), .lit (.int .u8 2), .lit (.int .u8 6), .lit (.int .u8 5), .lit (.int .u8 10), .lit (.int .u8 4), .lit (.int .u8 0), .lit (.int .u8 15), .lit (.int .u8 8)], .agg [.lit (.int .u8 9), .lit (.int .u8 0), .lit (.int .u8 5), .lit (.int .u8 7), .lit (.int .u8 2), .lit (.int .u8 4), .lit (.int .u8 10), .lit (.int .u8 15), .lit (.int .u8 14), .lit (.int .u8 1), .lit (.int .u8 11), .lit (.int .u8 12), .lit (.int .u8 6), .lit (.int .u8 8), .lit (.int .u8 3), .lit (.int .u8 13)], .agg [.lit (.int .u8 2), .lit (.int .u8 12), .lit (.int .u8 6), .lit (.int .u8 10), .lit (.int .u8 0), .lit (.int .u8 11), .lit (.int .u8 8), .lit (.int .u8 3), .lit (.int .u8 4), .lit (.int .u8 13), .lit (.int .u8 7), .lit (.int .u8 5), .lit (.int .u8 15), .lit (.int .u8 14), .lit (.int .u8 1), .lit (.int .u8 9)], .agg [.lit (.int .u8 12), .lit (.int .u8 5), .lit (.int .u8 1), .lit (.int .u8 15), .lit (.int .u8 14), .lit (.int .u8 13), .lit (.int .u8 4), .lit (.int .u8 10), .lit (.int .u8 0), .lit (.int .u8 7), .lit (.int .u8 6), .lit (.int .u8 3), .lit (.int .u8 9), .lit (.int .u8 2), .lit (.int .u8 8), .lit (.int .u8 11)], .agg [.lit (.int .u8 13), .lit (.int .u8 11), .lit (.int .u8 7), .lit (.int .u8 14), .lit (.int .u8 12), .lit (.int .u8 1), .lit (.int .u8 3), .lit (.int .u8 9), .lit (.int .u8 5), .lit (.int .u8 0), .lit (.int .u8 15), .lit (.int .u8 4), .lit (.int .u8 8), .lit (.int .u8 6), .lit (.int .u8 2), .lit (.int .u8 10)], .agg [.lit (.int .u8 6), .lit (.int .u8 15), .lit (.int .u8 14), .lit (.int .u8 9), .lit (.int .u8 11), .lit (.int .u8 3), .lit (.int .u8 0), .lit (.int .u8 8), .lit (.int .u8 12), .lit (.int .u8 2), .lit (.int .u8 13), .lit (.int .u8 7), .lit (.int .u8 1), .lit (.int .u8 4), .lit (.int .u8 10), .lit (.int .u8 5)], .agg [.lit (.int .u8 10), .lit (.int .u8 2), .lit (.int .u8 8), .lit (.int .u8 4), .lit (.int .u8 7), .lit (.int .u8 6), .lit (.int .u8 1), .lit (.int .u8 5), .lit (.int .u8 15), .lit (.int .u8 11), .lit (.int .u8 9), .lit (.int .u8 14), .lit (.int .u8 3), .lit (.int .u8 12), .lit (.int .u8 13), .lit (.int .u8 0)]]

/-- 'sealskinlaw07.HashMore': WHATEVER THE INPUT: true; the input reads as it did. -/
def hashMoreSpec : ChangeSpec := { name := "hashMore", fn := fun _ => fun
  | [d1, d2, d3] => { results := [.lit (.bool true)], args := [d1, d2, d3] }
  | _ => none }
def hashMoreRow : OpenClaim := { program := "ytghfohhekhedaaadoor", sum := "c09b877f17d9f81eea229920b177a419a6506e2695060c99ef125df295da6039", func := "sealskin/sealskinlaw07.HashMore", spec := "hashMore", named := ["sealskin/hash.order"], apart := false, laid := [("sealskin/hash.order", laid_sealskin_hash_order)] }
def HashMoreSaid : Prop := hashMoreRow.holds Tryd.pinned (OpenSpec.ofChange hashMoreSpec)

/-- ITS FALSE NEIGHBOUR: 'it returns false'. Refute it at one input. -/
def hashMoreWrong : ChangeSpec := { name := "hashMore", fn := fun _ => fun
  | [d1, d2, d3] => { results := [.lit (.bool false)], args := [d1, d2, d3] }
  | _ => none }
def HashMoreWrongFalsely : Prop := hashMoreRow.holds Tryd.pinned (OpenSpec.ofChange hashMoreWrong)

/-- 'sealskinlaw07.HashNobody': WHATEVER THE INPUT: true; the input reads as it did. -/
def hashNobodySpec : ChangeSpec := { name := "hashNobody", fn := fun _ => fun
  | [d] => { results := [.lit (.bool true)], args := [d] }
  | _ => none }
def hashNobodyRow : OpenClaim := { program := "ytghfohhekhedaaadoor", sum := "c09b877f17d9f81eea229920b177a419a6506e2695060c99ef125df295da6039", func := "sealskin/sealskinlaw07.HashNobody", spec := "hashNobody", named := ["sealskin/hash.order"], apart := false, laid := [("sealskin/hash.order", laid_sealskin_hash_order)] }
def HashNobodySaid : Prop := hashNobodyRow.holds Tryd.pinned (OpenSpec.ofChange hashNobodySpec)

/-- ITS FALSE NEIGHBOUR: 'it returns false'. Refute it at one input. -/
def hashNobodyWrong : ChangeSpec := { name := "hashNobody", fn := fun _ => fun
  | [d] => { results := [.lit (.bool false)], args := [d] }
  | _ => none }
def HashNobodyWrongFalsely : Prop := hashNobodyRow.holds Tryd.pinned (OpenSpec.ofChange hashNobodyWrong)

/-- 'sealskinlaw07.HashKept': WHATEVER THE INPUT: true; the input reads as it did. -/
def hashKeptSpec : ChangeSpec := { name := "hashKept", fn := fun _ => fun
  | [d1, d2] => { results := [.lit (.bool true)], args := [d1, d2] }
  | _ => none }
def hashKeptRow : OpenClaim := { program := "ytghfohhekhedaaadoor", sum := "c09b877f17d9f81eea229920b177a419a6506e2695060c99ef125df295da6039", func := "sealskin/sealskinlaw07.HashKept", spec := "hashKept", named := ["sealskin/hash.order"], apart := false, laid := [("sealskin/hash.order", laid_sealskin_hash_order)] }
def HashKeptSaid : Prop := hashKeptRow.holds Tryd.pinned (OpenSpec.ofChange hashKeptSpec)

/-- ITS FALSE NEIGHBOUR: 'it returns false'. Refute it at one input. -/
def hashKeptWrong : ChangeSpec := { name := "hashKept", fn := fun _ => fun
  | [d1, d2] => { results := [.lit (.bool false)], args := [d1, d2] }
  | _ => none }
def HashKeptWrongFalsely : Prop := hashKeptRow.holds Tryd.pinned (OpenSpec.ofChange hashKeptWrong)

/-- 'sealskinlaw07.HashDigests': WHATEVER THE INPUT: true; the input reads as it did. -/
def hashDigestsSpec : ChangeSpec := { name := "hashDigests", fn := fun _ => fun
  | [d] => { results := [.lit (.bool true)], args := [d] }
  | _ => none }
def hashDigestsRow : OpenClaim := { program := "ytghfohhekhedaaadoor", sum := "c09b877f17d9f81eea229920b177a419a6506e2695060c99ef125df295da6039", func := "sealskin/sealskinlaw07.HashDigests", spec := "hashDigests", named := ["sealskin/hash.order"], apart := false, laid := [("sealskin/hash.order", laid_sealskin_hash_order)] }
def HashDigestsSaid : Prop := hashDigestsRow.holds Tryd.pinned (OpenSpec.ofChange hashDigestsSpec)

/-- ITS FALSE NEIGHBOUR: 'it returns false'. Refute it at one input. -/
def hashDigestsWrong : ChangeSpec := { name := "hashDigests", fn := fun _ => fun
  | [d] => { results := [.lit (.bool false)], args := [d] }
  | _ => none }
def HashDigestsWrongFalsely : Prop := hashDigestsRow.holds Tryd.pinned (OpenSpec.ofChange hashDigestsWrong)

/-- 'sealskinlaw07.HashKeyed': WHATEVER THE INPUT: true; the input reads as it did. -/
def hashKeyedSpec : ChangeSpec := { name := "hashKeyed", fn := fun _ => fun
  | [d1, d2] => { results := [.lit (.bool true)], args := [d1, d2] }
  | _ => none }
def hashKeyedRow : OpenClaim := { program := "ytghfohhekhedaaadoor", sum := "c09b877f17d9f81eea229920b177a419a6506e2695060c99ef125df295da6039", func := "sealskin/sealskinlaw07.HashKeyed", spec := "hashKeyed", named := ["sealskin/hash.order"], apart := false, laid := [("sealskin/hash.order", laid_sealskin_hash_order)] }
def HashKeyedSaid : Prop := hashKeyedRow.holds Tryd.pinned (OpenSpec.ofChange hashKeyedSpec)

/-- ITS FALSE NEIGHBOUR: 'it returns false'. Refute it at one input. -/
def hashKeyedWrong : ChangeSpec := { name := "hashKeyed", fn := fun _ => fun
  | [d1, d2] => { results := [.lit (.bool false)], args := [d1, d2] }
  | _ => none }
def HashKeyedWrongFalsely : Prop := hashKeyedRow.holds Tryd.pinned (OpenSpec.ofChange hashKeyedWrong)

/-- 'sealskinlaw07.HashEquals': WHATEVER THE INPUT: true; the input reads as it did. -/
def hashEqualsSpec : ChangeSpec := { name := "hashEquals", fn := fun _ => fun
  | [d1, d2] => { results := [.lit (.bool true)], args := [d1, d2] }
  | _ => none }
def hashEqualsRow : OpenClaim := { program := "ytghfohhekhedaaadoor", sum := "c09b877f17d9f81eea229920b177a419a6506e2695060c99ef125df295da6039", func := "sealskin/sealskinlaw07.HashEquals", spec := "hashEquals", named := ["sealskin/hash.order"], apart := false, laid := [("sealskin/hash.order", laid_sealskin_hash_order)] }
def HashEqualsSaid : Prop := hashEqualsRow.holds Tryd.pinned (OpenSpec.ofChange hashEqualsSpec)

/-- ITS FALSE NEIGHBOUR: 'it returns false'. Refute it at one input. -/
def hashEqualsWrong : ChangeSpec := { name := "hashEquals", fn := fun _ => fun
  | [d1, d2] => { results := [.lit (.bool false)], args := [d1, d2] }
  | _ => none }
def HashEqualsWrongFalsely : Prop := hashEqualsRow.holds Tryd.pinned (OpenSpec.ofChange hashEqualsWrong)

/-- 'sealskinlaw07.HashKeys': WHATEVER THE INPUT: true; the input reads as it did. -/
def hashKeysSpec : ChangeSpec := { name := "hashKeys", fn := fun _ => fun
  | [d1, d2, d3] => { results := [.lit (.bool true)], args := [d1, d2, d3] }
  | _ => none }
def hashKeysRow : OpenClaim := { program := "ytghfohhekhedaaadoor", sum := "c09b877f17d9f81eea229920b177a419a6506e2695060c99ef125df295da6039", func := "sealskin/sealskinlaw07.HashKeys", spec := "hashKeys", named := ["sealskin/hash.order"], apart := false, laid := [("sealskin/hash.order", laid_sealskin_hash_order)] }
def HashKeysSaid : Prop := hashKeysRow.holds Tryd.pinned (OpenSpec.ofChange hashKeysSpec)

/-- ITS FALSE NEIGHBOUR: 'it returns false'. Refute it at one input. -/
def hashKeysWrong : ChangeSpec := { name := "hashKeys", fn := fun _ => fun
  | [d1, d2, d3] => { results := [.lit (.bool false)], args := [d1, d2, d3] }
  | _ => none }
def HashKeysWrongFalsely : Prop := hashKeysRow.holds Tryd.pinned (OpenSpec.ofChange hashKeysWrong)

/-- 'sealskinlaw07.HashFronts': WHATEVER THE INPUT: true; the input reads as it did. -/
def hashFrontsSpec : ChangeSpec := { name := "hashFronts", fn := fun _ => fun
  | [d1, d2, d3, d4] => { results := [.lit (.bool true)], args := [d1, d2, d3, d4] }
  | _ => none }
def hashFrontsRow : OpenClaim := { program := "ytghfohhekhedaaadoor", sum := "c09b877f17d9f81eea229920b177a419a6506e2695060c99ef125df295da6039", func := "sealskin/sealskinlaw07.HashFronts", spec := "hashFronts", named := ["sealskin/hash.order"], apart := false, laid := [("sealskin/hash.order", laid_sealskin_hash_order)] }
def HashFrontsSaid : Prop := hashFrontsRow.holds Tryd.pinned (OpenSpec.ofChange hashFrontsSpec)

/-- ITS FALSE NEIGHBOUR: 'it returns false'. Refute it at one input. -/
def hashFrontsWrong : ChangeSpec := { name := "hashFronts", fn := fun _ => fun
  | [d1, d2, d3, d4] => { results := [.lit (.bool false)], args := [d1, d2, d3, d4] }
  | _ => none }
def HashFrontsWrongFalsely : Prop := hashFrontsRow.holds Tryd.pinned (OpenSpec.ofChange hashFrontsWrong)

/-- 'sealskinlaw07.HashPieces': WHATEVER THE INPUT: true; the input reads as it did. -/
def hashPiecesSpec : ChangeSpec := { name := "hashPieces", fn := fun _ => fun
  | [d1, d2] => { results := [.lit (.bool true)], args := [d1, d2] }
  | _ => none }
def hashPiecesRow : OpenClaim := { program := "ytghfohhekhedaaadoor", sum := "c09b877f17d9f81eea229920b177a419a6506e2695060c99ef125df295da6039", func := "sealskin/sealskinlaw07.HashPieces", spec := "hashPieces", named := ["sealskin/hash.order"], apart := false, laid := [("sealskin/hash.order", laid_sealskin_hash_order)] }
def HashPiecesSaid : Prop := hashPiecesRow.holds Tryd.pinned (OpenSpec.ofChange hashPiecesSpec)

/-- ITS FALSE NEIGHBOUR: 'it returns false'. Refute it at one input. -/
def hashPiecesWrong : ChangeSpec := { name := "hashPieces", fn := fun _ => fun
  | [d1, d2] => { results := [.lit (.bool false)], args := [d1, d2] }
  | _ => none }
def HashPiecesWrongFalsely : Prop := hashPiecesRow.holds Tryd.pinned (OpenSpec.ofChange hashPiecesWrong)

/- THE SECOND FORM. 'bulk': how many values and letters a reading holds, each counted each time it is reached (what is shared counts as often as it is met; a slice's spare places count too). A statement '..UptoSaid' is the law's where the arguments, and the package variables that the reading takes, are together of bulk at most 1048576: NARROWER than '..Said'. Prove '..Said' where nothing that the law and all that it calls make is longer than what came in: it says more and counts as full. Else prove '..UptoSaid'. A law counts once. -/
mutual
def uptoBulk {H : Type} : DataW H → Nat
  | .lit (.string bytes) => bytes.length + 1
  | .lit _ => 1
  | .nil => 1
  | .ptr d => uptoBulk d + 1
  | .slice elems spare => uptoBulkAll elems + uptoBulkAll spare + 1
  | .agg parts => uptoBulkAll parts + 1
  | .iface _ d => uptoBulk d + 1
  | .map entries => uptoBulkEntries entries + 1
  | .held _ => 1
def uptoBulkAll {H : Type} : List (DataW H) → Nat
  | [] => 0
  | d :: r => uptoBulk d + uptoBulkAll r
def uptoBulkEntries {H : Type} : List (Lit × DataW H) → Nat
  | [] => 0
  | x :: r => uptoBulkEntry x + uptoBulkEntries r
def uptoBulkEntry {H : Type} : Lit × DataW H → Nat
  | (.string bytes, d) => bytes.length + uptoBulk d + 1
  | (_, d) => uptoBulk d + 1
 end
def uptoSmall : (H : Type) → List (DataW H) → Bool := fun _ ds => decide (uptoBulkAll ds ≤ 1048576)
def OpenSpec.upto (s : _root_.Go.ChangeSpec) : _root_.Go.OpenSpec := { _root_.Go.OpenSpec.ofChange s with cond := some uptoSmall }

/-- 'sealskinlaw07.HashMore', WHERE WHAT IT READS IS OF BULK AT MOST 1048576: true; the input reads as it did. -/
def hashMoreUptoRow : OpenClaim := { program := "ytghfohhekhedaaadoor", sum := "c09b877f17d9f81eea229920b177a419a6506e2695060c99ef125df295da6039", func := "sealskin/sealskinlaw07.HashMore", spec := "hashMore", named := ["sealskin/hash.order"], apart := false, laid := [("sealskin/hash.order", laid_sealskin_hash_order)], narrowed := true }
def HashMoreUptoSaid : Prop := hashMoreUptoRow.holds Tryd.pinned (OpenSpec.upto hashMoreSpec)

/-- 'sealskinlaw07.HashNobody', WHERE WHAT IT READS IS OF BULK AT MOST 1048576: true; the input reads as it did. -/
def hashNobodyUptoRow : OpenClaim := { program := "ytghfohhekhedaaadoor", sum := "c09b877f17d9f81eea229920b177a419a6506e2695060c99ef125df295da6039", func := "sealskin/sealskinlaw07.HashNobody", spec := "hashNobody", named := ["sealskin/hash.order"], apart := false, laid := [("sealskin/hash.order", laid_sealskin_hash_order)], narrowed := true }
def HashNobodyUptoSaid : Prop := hashNobodyUptoRow.holds Tryd.pinned (OpenSpec.upto hashNobodySpec)

/-- 'sealskinlaw07.HashKept', WHERE WHAT IT READS IS OF BULK AT MOST 1048576: true; the input reads as it did. -/
def hashKeptUptoRow : OpenClaim := { program := "ytghfohhekhedaaadoor", sum := "c09b877f17d9f81eea229920b177a419a6506e2695060c99ef125df295da6039", func := "sealskin/sealskinlaw07.HashKept", spec := "hashKept", named := ["sealskin/hash.order"], apart := false, laid := [("sealskin/hash.order", laid_sealskin_hash_order)], narrowed := true }
def HashKeptUptoSaid : Prop := hashKeptUptoRow.holds Tryd.pinned (OpenSpec.upto hashKeptSpec)

/-- 'sealskinlaw07.HashDigests', WHERE WHAT IT READS IS OF BULK AT MOST 1048576: true; the input reads as it did. -/
def hashDigestsUptoRow : OpenClaim := { program := "ytghfohhekhedaaadoor", sum := "c09b877f17d9f81eea229920b177a419a6506e2695060c99ef125df295da6039", func := "sealskin/sealskinlaw07.HashDigests", spec := "hashDigests", named := ["sealskin/hash.order"], apart := false, laid := [("sealskin/hash.order", laid_sealskin_hash_order)], narrowed := true }
def HashDigestsUptoSaid : Prop := hashDigestsUptoRow.holds Tryd.pinned (OpenSpec.upto hashDigestsSpec)

/-- 'sealskinlaw07.HashKeyed', WHERE WHAT IT READS IS OF BULK AT MOST 1048576: true; the input reads as it did. -/
def hashKeyedUptoRow : OpenClaim := { program := "ytghfohhekhedaaadoor", sum := "c09b877f17d9f81eea229920b177a419a6506e2695060c99ef125df295da6039", func := "sealskin/sealskinlaw07.HashKeyed", spec := "hashKeyed", named := ["sealskin/hash.order"], apart := false, laid := [("sealskin/hash.order", laid_sealskin_hash_order)], narrowed := true }
def HashKeyedUptoSaid : Prop := hashKeyedUptoRow.holds Tryd.pinned (OpenSpec.upto hashKeyedSpec)

/-- 'sealskinlaw07.HashEquals', WHERE WHAT IT READS IS OF BULK AT MOST 1048576: true; the input reads as it did. -/
def hashEqualsUptoRow : OpenClaim := { program := "ytghfohhekhedaaadoor", sum := "c09b877f17d9f81eea229920b177a419a6506e2695060c99ef125df295da6039", func := "sealskin/sealskinlaw07.HashEquals", spec := "hashEquals", named := ["sealskin/hash.order"], apart := false, laid := [("sealskin/hash.order", laid_sealskin_hash_order)], narrowed := true }
def HashEqualsUptoSaid : Prop := hashEqualsUptoRow.holds Tryd.pinned (OpenSpec.upto hashEqualsSpec)

/-- 'sealskinlaw07.HashKeys', WHERE WHAT IT READS IS OF BULK AT MOST 1048576: true; the input reads as it did. -/
def hashKeysUptoRow : OpenClaim := { program := "ytghfohhekhedaaadoor", sum := "c09b877f17d9f81eea229920b177a419a6506e2695060c99ef125df295da6039", func := "sealskin/sealskinlaw07.HashKeys", spec := "hashKeys", named := ["sealskin/hash.order"], apart := false, laid := [("sealskin/hash.order", laid_sealskin_hash_order)], narrowed := true }
def HashKeysUptoSaid : Prop := hashKeysUptoRow.holds Tryd.pinned (OpenSpec.upto hashKeysSpec)

/-- 'sealskinlaw07.HashFronts', WHERE WHAT IT READS IS OF BULK AT MOST 1048576: true; the input reads as it did. -/
def hashFrontsUptoRow : OpenClaim := { program := "ytghfohhekhedaaadoor", sum := "c09b877f17d9f81eea229920b177a419a6506e2695060c99ef125df295da6039", func := "sealskin/sealskinlaw07.HashFronts", spec := "hashFronts", named := ["sealskin/hash.order"], apart := false, laid := [("sealskin/hash.order", laid_sealskin_hash_order)], narrowed := true }
def HashFrontsUptoSaid : Prop := hashFrontsUptoRow.holds Tryd.pinned (OpenSpec.upto hashFrontsSpec)

/-- 'sealskinlaw07.HashPieces', WHERE WHAT IT READS IS OF BULK AT MOST 1048576: true; the input reads as it did. -/
def hashPiecesUptoRow : OpenClaim := { program := "ytghfohhekhedaaadoor", sum := "c09b877f17d9f81eea229920b177a419a6506e2695060c99ef125df295da6039", func := "sealskin/sealskinlaw07.HashPieces", spec := "hashPieces", named := ["sealskin/hash.order"], apart := false, laid := [("sealskin/hash.order", laid_sealskin_hash_order)], narrowed := true }
def HashPiecesUptoSaid : Prop := hashPiecesUptoRow.holds Tryd.pinned (OpenSpec.upto hashPiecesSpec)

end Rows
end Go.Proofs.YtghfohhekhedaaaDoor
