/-
  No cell of these rows narrows 'for every input' (looked for: loops, veiled, ifaces, maps, wideKeys, modest, calm, conditions, laid).
  DERIVED. THE GIVEN ROWS OF THIS SEAT. 8 by the template 'for every input the law returns true; each argument reads behind the call as it read before'; 0 by the template 'total and deterministic' (their statements: YtkmljjhjojolcaaTotals.lean).
  GIVEN WITH THE SEED: the statements are not yours to turn. If you find one false, say at which input.
  Laid BY PROGRAM, IN A SANDBOX (cutbox-rows.mjs): the forced cells as the released guide's own fill.sh prints them over the translation 095e75eb3c08521b… (all of the seat's roots in one cut). By AI agents, Wed Nov 11 2026. No macro, syntax, notation, axiom, sorry.
-/
import Derived.Test.YtkmljjhjojolcaaChecked
import GoSem.Claim
import GoSem.ClaimJoined
import GoSem.ClaimMapViews
import Derived.JoinedTies
import Derived.KernelRfl
namespace Go.Proofs.Ytkmljjhjojolcaa
/- THE CELL 'sum', in the pinned program and in every row, IS THE sha256 OF THE DUMP (.gsa) THAT YtkmljjhjojolcaaProg.lean LOADS. Nothing in Lean hashes anything: it is a label: what it is worth is what the hold of that sum in a sandbox is worth. -/
noncomputable def Try.pinned : Pinned := { name := "ytkmljjhjojolcaa", sum := "095e75eb3c08521b47b7db2e3da4b091b103b9a3ac046e711175d1bf7b8e5753", checked := Try.checked }
namespace Rows
def none {H : Type} : Left H := { results := [], args := [] }

/-- 'sealskinlaw06.JournalCounts': WHATEVER THE INPUT: true; the input reads as it did. -/
def journalCountsSpec : ChangeSpec := { name := "journalCounts", fn := fun _ => fun
  | [d] => { results := [.lit (.bool true)], args := [d] }
  | _ => none }
def journalCountsRow : OpenClaim := { program := "ytkmljjhjojolcaa", sum := "095e75eb3c08521b47b7db2e3da4b091b103b9a3ac046e711175d1bf7b8e5753", func := "sealskin/sealskinlaw06.JournalCounts", spec := "journalCounts", unfollowed := true, recurses := true, apart := false }
def JournalCountsSaid : Prop := journalCountsRow.holds Try.pinned (OpenSpec.ofChange journalCountsSpec)

/-- ITS FALSE NEIGHBOUR: 'it returns false'. Refute it at one input. -/
def journalCountsWrong : ChangeSpec := { name := "journalCounts", fn := fun _ => fun
  | [d] => { results := [.lit (.bool false)], args := [d] }
  | _ => none }
def JournalCountsWrongFalsely : Prop := journalCountsRow.holds Try.pinned (OpenSpec.ofChange journalCountsWrong)

/-- 'sealskinlaw06.JournalNobody': WHATEVER THE INPUT: true; the input reads as it did. -/
def journalNobodySpec : ChangeSpec := { name := "journalNobody", fn := fun _ => fun
  | [d1, d2] => { results := [.lit (.bool true)], args := [d1, d2] }
  | _ => none }
def journalNobodyRow : OpenClaim := { program := "ytkmljjhjojolcaa", sum := "095e75eb3c08521b47b7db2e3da4b091b103b9a3ac046e711175d1bf7b8e5753", func := "sealskin/sealskinlaw06.JournalNobody", spec := "journalNobody", unfollowed := true, recurses := true, apart := false }
def JournalNobodySaid : Prop := journalNobodyRow.holds Try.pinned (OpenSpec.ofChange journalNobodySpec)

/-- ITS FALSE NEIGHBOUR: 'it returns false'. Refute it at one input. -/
def journalNobodyWrong : ChangeSpec := { name := "journalNobody", fn := fun _ => fun
  | [d1, d2] => { results := [.lit (.bool false)], args := [d1, d2] }
  | _ => none }
def JournalNobodyWrongFalsely : Prop := journalNobodyRow.holds Try.pinned (OpenSpec.ofChange journalNobodyWrong)

/-- 'sealskinlaw06.JournalKept': WHATEVER THE INPUT: true; the input reads as it did. -/
def journalKeptSpec : ChangeSpec := { name := "journalKept", fn := fun _ => fun
  | [d1, d2] => { results := [.lit (.bool true)], args := [d1, d2] }
  | _ => none }
def journalKeptRow : OpenClaim := { program := "ytkmljjhjojolcaa", sum := "095e75eb3c08521b47b7db2e3da4b091b103b9a3ac046e711175d1bf7b8e5753", func := "sealskin/sealskinlaw06.JournalKept", spec := "journalKept", unfollowed := true, recurses := true, apart := false }
def JournalKeptSaid : Prop := journalKeptRow.holds Try.pinned (OpenSpec.ofChange journalKeptSpec)

/-- ITS FALSE NEIGHBOUR: 'it returns false'. Refute it at one input. -/
def journalKeptWrong : ChangeSpec := { name := "journalKept", fn := fun _ => fun
  | [d1, d2] => { results := [.lit (.bool false)], args := [d1, d2] }
  | _ => none }
def JournalKeptWrongFalsely : Prop := journalKeptRow.holds Try.pinned (OpenSpec.ofChange journalKeptWrong)

/-- 'sealskinlaw06.JournalOpens': WHATEVER THE INPUT: true; the input reads as it did. -/
def journalOpensSpec : ChangeSpec := { name := "journalOpens", fn := fun _ => fun
  | [d1, d2, d3] => { results := [.lit (.bool true)], args := [d1, d2, d3] }
  | _ => none }
def journalOpensRow : OpenClaim := { program := "ytkmljjhjojolcaa", sum := "095e75eb3c08521b47b7db2e3da4b091b103b9a3ac046e711175d1bf7b8e5753", func := "sealskin/sealskinlaw06.JournalOpens", spec := "journalOpens", unfollowed := true, recurses := true, apart := false }
def JournalOpensSaid : Prop := journalOpensRow.holds Try.pinned (OpenSpec.ofChange journalOpensSpec)

/-- ITS FALSE NEIGHBOUR: 'it returns false'. Refute it at one input. -/
def journalOpensWrong : ChangeSpec := { name := "journalOpens", fn := fun _ => fun
  | [d1, d2, d3] => { results := [.lit (.bool false)], args := [d1, d2, d3] }
  | _ => none }
def JournalOpensWrongFalsely : Prop := journalOpensRow.holds Try.pinned (OpenSpec.ofChange journalOpensWrong)

/-- 'sealskinlaw06.JournalAgain': WHATEVER THE INPUT: true; the input reads as it did. -/
def journalAgainSpec : ChangeSpec := { name := "journalAgain", fn := fun _ => fun
  | [d1, d2, d3, d4] => { results := [.lit (.bool true)], args := [d1, d2, d3, d4] }
  | _ => none }
def journalAgainRow : OpenClaim := { program := "ytkmljjhjojolcaa", sum := "095e75eb3c08521b47b7db2e3da4b091b103b9a3ac046e711175d1bf7b8e5753", func := "sealskin/sealskinlaw06.JournalAgain", spec := "journalAgain", unfollowed := true, recurses := true, apart := false }
def JournalAgainSaid : Prop := journalAgainRow.holds Try.pinned (OpenSpec.ofChange journalAgainSpec)

/-- ITS FALSE NEIGHBOUR: 'it returns false'. Refute it at one input. -/
def journalAgainWrong : ChangeSpec := { name := "journalAgain", fn := fun _ => fun
  | [d1, d2, d3, d4] => { results := [.lit (.bool false)], args := [d1, d2, d3, d4] }
  | _ => none }
def JournalAgainWrongFalsely : Prop := journalAgainRow.holds Try.pinned (OpenSpec.ofChange journalAgainWrong)

/-- 'sealskinlaw06.JournalChecked': WHATEVER THE INPUT: true; the input reads as it did. -/
def journalCheckedSpec : ChangeSpec := { name := "journalChecked", fn := fun _ => fun
  | [d1, d2, d3] => { results := [.lit (.bool true)], args := [d1, d2, d3] }
  | _ => none }
def journalCheckedRow : OpenClaim := { program := "ytkmljjhjojolcaa", sum := "095e75eb3c08521b47b7db2e3da4b091b103b9a3ac046e711175d1bf7b8e5753", func := "sealskin/sealskinlaw06.JournalChecked", spec := "journalChecked", unfollowed := true, recurses := true, apart := false }
def JournalCheckedSaid : Prop := journalCheckedRow.holds Try.pinned (OpenSpec.ofChange journalCheckedSpec)

/-- ITS FALSE NEIGHBOUR: 'it returns false'. Refute it at one input. -/
def journalCheckedWrong : ChangeSpec := { name := "journalChecked", fn := fun _ => fun
  | [d1, d2, d3] => { results := [.lit (.bool false)], args := [d1, d2, d3] }
  | _ => none }
def JournalCheckedWrongFalsely : Prop := journalCheckedRow.holds Try.pinned (OpenSpec.ofChange journalCheckedWrong)

/-- 'sealskinlaw06.JournalRefused': WHATEVER THE INPUT: true; the input reads as it did. -/
def journalRefusedSpec : ChangeSpec := { name := "journalRefused", fn := fun _ => fun
  | [d1, d2, d3] => { results := [.lit (.bool true)], args := [d1, d2, d3] }
  | _ => none }
def journalRefusedRow : OpenClaim := { program := "ytkmljjhjojolcaa", sum := "095e75eb3c08521b47b7db2e3da4b091b103b9a3ac046e711175d1bf7b8e5753", func := "sealskin/sealskinlaw06.JournalRefused", spec := "journalRefused", unfollowed := true, recurses := true, apart := false }
def JournalRefusedSaid : Prop := journalRefusedRow.holds Try.pinned (OpenSpec.ofChange journalRefusedSpec)

/-- ITS FALSE NEIGHBOUR: 'it returns false'. Refute it at one input. -/
def journalRefusedWrong : ChangeSpec := { name := "journalRefused", fn := fun _ => fun
  | [d1, d2, d3] => { results := [.lit (.bool false)], args := [d1, d2, d3] }
  | _ => none }
def JournalRefusedWrongFalsely : Prop := journalRefusedRow.holds Try.pinned (OpenSpec.ofChange journalRefusedWrong)

/-- 'sealskinlaw06.JournalPlays': WHATEVER THE INPUT: true; the input reads as it did. -/
def journalPlaysSpec : ChangeSpec := { name := "journalPlays", fn := fun _ => fun
  | [d1, d2] => { results := [.lit (.bool true)], args := [d1, d2] }
  | _ => none }
def journalPlaysRow : OpenClaim := { program := "ytkmljjhjojolcaa", sum := "095e75eb3c08521b47b7db2e3da4b091b103b9a3ac046e711175d1bf7b8e5753", func := "sealskin/sealskinlaw06.JournalPlays", spec := "journalPlays", unfollowed := true, recurses := true, apart := false }
def JournalPlaysSaid : Prop := journalPlaysRow.holds Try.pinned (OpenSpec.ofChange journalPlaysSpec)

/-- ITS FALSE NEIGHBOUR: 'it returns false'. Refute it at one input. -/
def journalPlaysWrong : ChangeSpec := { name := "journalPlays", fn := fun _ => fun
  | [d1, d2] => { results := [.lit (.bool false)], args := [d1, d2] }
  | _ => none }
def JournalPlaysWrongFalsely : Prop := journalPlaysRow.holds Try.pinned (OpenSpec.ofChange journalPlaysWrong)

/- THE SECOND FORM. 'bulk': how many values and letters a reading holds, each counted each time it is reached (what is shared counts as often as it is met; a slice's spare places count too). A statement '..UptoSaid' is the law's where the arguments, and the package variables that the reading takes, are together of bulk at most 1048576: NARROWER than '..Said'. Prove '..Said' where nothing that the law and all that it calls make is longer than what came in: it says more and counts as full. Else prove '..UptoSaid'. A law counts once. -/
mutual
def uptoBulk {H : Type} : DataW H → Nat
  | .lit (.string bytes) => bytes.length + 1
  | .lit _ => 1
  | .nil => 1
  | .ptr d => uptoBulk d + 1
  | .slice elems spare => uptoBulkAll elems + uptoBulkAll spare + 1
  | .agg parts => uptoBulkAll parts + 1
  | .iface _ d => uptoBulk d + 1
  | .map entries => uptoBulkEntries entries + 1
  | .held _ => 1
def uptoBulkAll {H : Type} : List (DataW H) → Nat
  | [] => 0
  | d :: r => uptoBulk d + uptoBulkAll r
def uptoBulkEntries {H : Type} : List (Lit × DataW H) → Nat
  | [] => 0
  | x :: r => uptoBulkEntry x + uptoBulkEntries r
def uptoBulkEntry {H : Type} : Lit × DataW H → Nat
  | (.string bytes, d) => bytes.length + uptoBulk d + 1
  | (_, d) => uptoBulk d + 1
 end
def uptoSmall : (H : Type) → List (DataW H) → Bool := fun _ ds => decide (uptoBulkAll ds ≤ 1048576)
def OpenSpec.upto (s : _root_.Go.ChangeSpec) : _root_.Go.OpenSpec := { _root_.Go.OpenSpec.ofChange s with cond := some uptoSmall }

/-- 'sealskinlaw06.JournalCounts', WHERE WHAT IT READS IS OF BULK AT MOST 1048576: true; the input reads as it did. -/
def journalCountsUptoRow : OpenClaim := { program := "ytkmljjhjojolcaa", sum := "095e75eb3c08521b47b7db2e3da4b091b103b9a3ac046e711175d1bf7b8e5753", func := "sealskin/sealskinlaw06.JournalCounts", spec := "journalCounts", unfollowed := true, recurses := true, apart := false, narrowed := true }
def JournalCountsUptoSaid : Prop := journalCountsUptoRow.holds Try.pinned (OpenSpec.upto journalCountsSpec)

/-- 'sealskinlaw06.JournalNobody', WHERE WHAT IT READS IS OF BULK AT MOST 1048576: true; the input reads as it did. -/
def journalNobodyUptoRow : OpenClaim := { program := "ytkmljjhjojolcaa", sum := "095e75eb3c08521b47b7db2e3da4b091b103b9a3ac046e711175d1bf7b8e5753", func := "sealskin/sealskinlaw06.JournalNobody", spec := "journalNobody", unfollowed := true, recurses := true, apart := false, narrowed := true }
def JournalNobodyUptoSaid : Prop := journalNobodyUptoRow.holds Try.pinned (OpenSpec.upto journalNobodySpec)

/-- 'sealskinlaw06.JournalKept', WHERE WHAT IT READS IS OF BULK AT MOST 1048576: true; the input reads as it did. -/
def journalKeptUptoRow : OpenClaim := { program := "ytkmljjhjojolcaa", sum := "095e75eb3c08521b47b7db2e3da4b091b103b9a3ac046e711175d1bf7b8e5753", func := "sealskin/sealskinlaw06.JournalKept", spec := "journalKept", unfollowed := true, recurses := true, apart := false, narrowed := true }
def JournalKeptUptoSaid : Prop := journalKeptUptoRow.holds Try.pinned (OpenSpec.upto journalKeptSpec)

/-- 'sealskinlaw06.JournalOpens', WHERE WHAT IT READS IS OF BULK AT MOST 1048576: true; the input reads as it did. -/
def journalOpensUptoRow : OpenClaim := { program := "ytkmljjhjojolcaa", sum := "095e75eb3c08521b47b7db2e3da4b091b103b9a3ac046e711175d1bf7b8e5753", func := "sealskin/sealskinlaw06.JournalOpens", spec := "journalOpens", unfollowed := true, recurses := true, apart := false, narrowed := true }
def JournalOpensUptoSaid : Prop := journalOpensUptoRow.holds Try.pinned (OpenSpec.upto journalOpensSpec)

/-- 'sealskinlaw06.JournalAgain', WHERE WHAT IT READS IS OF BULK AT MOST 1048576: true; the input reads as it did. -/
def journalAgainUptoRow : OpenClaim := { program := "ytkmljjhjojolcaa", sum := "095e75eb3c08521b47b7db2e3da4b091b103b9a3ac046e711175d1bf7b8e5753", func := "sealskin/sealskinlaw06.JournalAgain", spec := "journalAgain", unfollowed := true, recurses := true, apart := false, narrowed := true }
def JournalAgainUptoSaid : Prop := journalAgainUptoRow.holds Try.pinned (OpenSpec.upto journalAgainSpec)

/-- 'sealskinlaw06.JournalChecked', WHERE WHAT IT READS IS OF BULK AT MOST 1048576: true; the input reads as it did. -/
def journalCheckedUptoRow : OpenClaim := { program := "ytkmljjhjojolcaa", sum := "095e75eb3c08521b47b7db2e3da4b091b103b9a3ac046e711175d1bf7b8e5753", func := "sealskin/sealskinlaw06.JournalChecked", spec := "journalChecked", unfollowed := true, recurses := true, apart := false, narrowed := true }
def JournalCheckedUptoSaid : Prop := journalCheckedUptoRow.holds Try.pinned (OpenSpec.upto journalCheckedSpec)

/-- 'sealskinlaw06.JournalRefused', WHERE WHAT IT READS IS OF BULK AT MOST 1048576: true; the input reads as it did. -/
def journalRefusedUptoRow : OpenClaim := { program := "ytkmljjhjojolcaa", sum := "095e75eb3c08521b47b7db2e3da4b091b103b9a3ac046e711175d1bf7b8e5753", func := "sealskin/sealskinlaw06.JournalRefused", spec := "journalRefused", unfollowed := true, recurses := true, apart := false, narrowed := true }
def JournalRefusedUptoSaid : Prop := journalRefusedUptoRow.holds Try.pinned (OpenSpec.upto journalRefusedSpec)

/-- 'sealskinlaw06.JournalPlays', WHERE WHAT IT READS IS OF BULK AT MOST 1048576: true; the input reads as it did. -/
def journalPlaysUptoRow : OpenClaim := { program := "ytkmljjhjojolcaa", sum := "095e75eb3c08521b47b7db2e3da4b091b103b9a3ac046e711175d1bf7b8e5753", func := "sealskin/sealskinlaw06.JournalPlays", spec := "journalPlays", unfollowed := true, recurses := true, apart := false, narrowed := true }
def JournalPlaysUptoSaid : Prop := journalPlaysUptoRow.holds Try.pinned (OpenSpec.upto journalPlaysSpec)

end Rows
end Go.Proofs.Ytkmljjhjojolcaa
