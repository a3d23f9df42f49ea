/-
  NARROWER THAN 'FOR EVERY INPUT', by the rows' own cells (each row's printed sentence says how): CipherBack: laid · CipherForm: laid · CipherTurns: laid · CipherSeals: laid · CipherOpens: laid · CipherTells: laid · CipherFronts: laid.
  DERIVED. THE GIVEN ROWS OF THIS SEAT. 7 by the template 'for every input the law returns true; each argument reads behind the call as it read before'; 0 by the template 'total and deterministic' (their statements: YtohneemghiehdaaDoorTotals.lean).
  GIVEN WITH THE SEED: the statements are not yours to turn. If you find one false, say at which input.
  Laid BY PROGRAM, IN A SANDBOX (cutbox-rows.mjs): the forced cells as the released guide's own fill.sh prints them over the translation 27915076b644b91f… (all of the seat's roots in one cut). By AI agents, Wed Nov 11 2026. No macro, syntax, notation, axiom, sorry.
-/
import Derived.Test.YtohneemghiehdaaDoorChecked
import GoSem.Claim
import GoSem.ClaimJoined
import GoSem.ClaimMapViews
import Derived.JoinedTies
import Derived.KernelRfl
namespace Go.Proofs.YtohneemghiehdaaDoor
/- THE CELL 'sum', in the pinned program and in every row, IS THE sha256 OF THE DUMP (.gsa) THAT YtohneemghiehdaaDoorProg.lean LOADS. Nothing in Lean hashes anything: it is a label: what it is worth is what the hold of that sum in a sandbox is worth. -/
noncomputable def Tryd.pinned : Pinned := { name := "ytohneemghiehdaadoor", sum := "27915076b644b91faf8380ae82f5bb682ddd339b6cf8706deb0ca463f2eb9e7e", checked := Tryd.checked }
namespace Rows
def none {H : Type} : Left H := { results := [], args := [] }

/- WHAT THE LISTED PACKAGE-LEVEL VARIABLES READ AS WHEN THE CALL BEGINS. Each datum BY PROGRAM (the guide's laid-datum.mjs) off the statement by which the dump's own 'gosem.cut.vars' lays the variable. In a bare row this is a premise. The card (YtohneemghiehdaaDoorCards.lean) ties it to the program's text. -/
def laid_sealskin_hash_order {H : Type} : DataW H := .agg [.agg [.lit (.int .u8 0), .lit (.int .u8 1), .lit (.int .u8 2), .lit (.int .u8 3), .lit (.int .u8 4), .lit (.int .u8 5), .lit (.int .u8 6), .lit (.int .u8 7), .lit (.int .u8 8), .lit (.int .u8 9), .lit (.int .u8 10), .lit (.int .u8 11), .lit (.int .u8 12), .lit (.int .u8 13), .lit (.int .u8 14), .lit (.int .u8 15)], .agg [.lit (.int .u8 14), .lit (.int .u8 10), .lit (.int .u8 4), .lit (.int .u8 8), .lit (.int .u8 9), .lit (.int .u8 15), .lit (.int .u8 13), .lit (.int .u8 6), .lit (.int .u8 1), .lit (.int .u8 12), .lit (.int .u8 0), .lit (.int .u8 2), .lit (.int .u8 11), .lit (.int .u8 7), .lit (.int .u8 5), .lit (.int .u8 3)], .agg [.lit (.int .u8 11), .lit (.int .u8 8), .lit (.int .u8 12), .lit (.int .u8 0), .lit (.int .u8 5), .lit (.int .u8 2), .lit (.int .u8 15), .lit (.int .u8 13), .lit (.int .u8 10), .lit (.int .u8 14), .lit (.int .u8 3), .lit (.int .u8 6), .lit (.int .u8 7), .lit (.int .u8 1), .lit (.int .u8 9), .lit (.int .u8 4)], .agg [.lit (.int .u8 7), .lit (.int .u8 9), .lit (.int .u8 3), .lit (.int .u8 1), .lit (.int .u8 13), .lit (.int .u8 12), .lit (.int .u8 11), .lit (.int .u8 14), .lit (.int .u8 2), .lit (.int .u8 6), .lit (.int .u8 5), .lit (.int .u8 10), .lit (.int .u8 4), .lit (.int .u8 0), .lit (.int .u8 15), .lit (.int .u8 8)], .agg [.lit (.int .u8 9), .lit (.int .u8 0), .lit (.int .u8 5), .lit (.int .u8 7), .lit (.int .u8 2), .lit (.int .u8 4), .lit (.int .u8 10), .lit (.int .u8 15), .lit (.int .u8 14), .lit (.int .u8 1), .lit (.int .u8 11), .lit (.int .u8 12), .lit (.int .u8 6), .lit (.int .u8 8), .lit (.int .u8 3), .lit (.int .u8 13)], .agg [.lit (.int .u8 2), .lit (.int .u8 12), .lit (.int .u8 6), .lit (.int .u8 10), .lit (.int .u8 0), .lit (.int .u8 11), .lit (.int .u8 8), .lit (.int .u8 3), .lit (.int .u8 4), .lit (.int .u8 13), .lit (.int .u8 7), .lit (.int .u8 5), .lit (.int .u8 15), .lit (.int .u8 14), .lit (.int .u8 1), .lit (.int .u8 9)], .agg [.lit (.int .u8 12), .lit (.int .u8 5), .lit (.int .u8 1), .lit (.int .u8 15), .lit (.int .u8 14), .lit (.int .u8 13), .lit (.int .u8 4), .lit (.int .u8 10), .lit (.int .u8 0), .lit (.int .u8 7), .lit (.int .u8 6), .lit (.int .u8 3), .lit (.int .u8 9), .lit (.int .u8 2), .lit (.int .u8 8), .lit (.int .u8 11)], .agg [.lit (.int .u8 13), .lit (.int .u8 11), .lit (.int .u8 7), .lit (.int .u8 14), .lit (.int .u8 12), .lit (.int .u8 1), .lit (.int .u8 3), .lit (.int .u8 9), .lit (.int .u8 5), .lit (.int .u8 0), .lit (.int .u8 15), .lit (.int .u8 4), .lit (.int .u8 8), .lit (.int .u8 6), .lit (.int .u8 2), .lit (.int .u8 10)], .agg [.lit (.int .u8 6), .lit (.int .u8 15), .lit (.int .u8 14), .lit (.int .u8 9), .lit (.int .u8 11), .lit (.int .u8 3), .lit (.int .u8 0), .lit (.int .u8 8), .lit (.int .u8 12), .lit (.int .u8 2), .lit (.int .u8 13), .lit (.int .u8 7), .lit (.int .u8 1), .lit (.int .u8 4), .lit (.int .u8 10), .lit (.int .u8 5)], .agg [.lit (.int .u8 10), .lit (.int .u8 2), .lit (.int .u8 8), .lit (.int .u8 4), .lit (.int .u8 7), .lit (.int .u8 6), .lit (.int .u8 1), .lit (.int .u8 5), .lit (.int .u8 15), .lit (.int .u8 11), .lit (.int .u8 9), .lit (.int .u8 14), .lit (.int .u8 3), .lit (.int .u8 12), .lit (.int .u8 13), .lit (.int .u8 0)]]

/-- 'sealskinlaw08.CipherBack': WHATEVER THE INPUT: true; the input reads as it did. -/
def cipherBackSpec : ChangeSpec := { name := "cipherBack", fn := fun _ => fun
  | [d1, d2, d3, d4] => { results := [.lit (.bool true)], args := [d1, d2, d3, d4] }
  | _ => none }
def cipherBackRow : OpenClaim := { program := "ytohneemghiehdaadoor", sum := "27915076b644b91faf8380ae82f5bb682ddd339b6cf8706deb0ca463f2eb9e7e", func := "sealskin/sealskinlaw08.CipherBack", spec := "cipherBack", unfollowed := true, recurses := true, named := ["sealskin/hash.order"], apart := false, laid := [("sealskin/hash.order", laid_sealskin_hash_order)] }
def CipherBackSaid : Prop := cipherBackRow.holds Tryd.pinned (OpenSpec.ofChange cipherBackSpec)

/-- ITS FALSE NEIGHBOUR: 'it returns false'. Refute it at one input. -/
def cipherBackWrong : ChangeSpec := { name := "cipherBack", fn := fun _ => fun
  | [d1, d2, d3, d4] => { results := [.lit (.bool false)], args := [d1, d2, d3, d4] }
  | _ => none }
def CipherBackWrongFalsely : Prop := cipherBackRow.holds Tryd.pinned (OpenSpec.ofChange cipherBackWrong)

/-- 'sealskinlaw08.CipherForm': WHATEVER THE INPUT: true; the input reads as it did. -/
def cipherFormSpec : ChangeSpec := { name := "cipherForm", fn := fun _ => fun
  | [d1, d2, d3, d4] => { results := [.lit (.bool true)], args := [d1, d2, d3, d4] }
  | _ => none }
def cipherFormRow : OpenClaim := { program := "ytohneemghiehdaadoor", sum := "27915076b644b91faf8380ae82f5bb682ddd339b6cf8706deb0ca463f2eb9e7e", func := "sealskin/sealskinlaw08.CipherForm", spec := "cipherForm", unfollowed := true, recurses := true, named := ["sealskin/hash.order"], apart := false, laid := [("sealskin/hash.order", laid_sealskin_hash_order)] }
def CipherFormSaid : Prop := cipherFormRow.holds Tryd.pinned (OpenSpec.ofChange cipherFormSpec)

/-- ITS FALSE NEIGHBOUR: 'it returns false'. Refute it at one input. -/
def cipherFormWrong : ChangeSpec := { name := "cipherForm", fn := fun _ => fun
  | [d1, d2, d3, d4] => { results := [.lit (.bool false)], args := [d1, d2, d3, d4] }
  | _ => none }
def CipherFormWrongFalsely : Prop := cipherFormRow.holds Tryd.pinned (OpenSpec.ofChange cipherFormWrong)

/-- 'sealskinlaw08.CipherTurns': WHATEVER THE INPUT: true; the input reads as it did. -/
def cipherTurnsSpec : ChangeSpec := { name := "cipherTurns", fn := fun _ => fun
  | [d1, d2, d3] => { results := [.lit (.bool true)], args := [d1, d2, d3] }
  | _ => none }
def cipherTurnsRow : OpenClaim := { program := "ytohneemghiehdaadoor", sum := "27915076b644b91faf8380ae82f5bb682ddd339b6cf8706deb0ca463f2eb9e7e", func := "sealskin/sealskinlaw08.CipherTurns", spec := "cipherTurns", unfollowed := true, recurses := true, named := ["sealskin/hash.order"], apart := false, laid := [("sealskin/hash.order", laid_sealskin_hash_order)] }
def CipherTurnsSaid : Prop := cipherTurnsRow.holds Tryd.pinned (OpenSpec.ofChange cipherTurnsSpec)

/-- ITS FALSE NEIGHBOUR: 'it returns false'. Refute it at one input. -/
def cipherTurnsWrong : ChangeSpec := { name := "cipherTurns", fn := fun _ => fun
  | [d1, d2, d3] => { results := [.lit (.bool false)], args := [d1, d2, d3] }
  | _ => none }
def CipherTurnsWrongFalsely : Prop := cipherTurnsRow.holds Tryd.pinned (OpenSpec.ofChange cipherTurnsWrong)

/-- 'sealskinlaw08.CipherSeals': WHATEVER THE INPUT: true; the input reads as it did. -/
def cipherSealsSpec : ChangeSpec := { name := "cipherSeals", fn := fun _ => fun
  | [d1, d2, d3, d4] => { results := [.lit (.bool true)], args := [d1, d2, d3, d4] }
  | _ => none }
def cipherSealsRow : OpenClaim := { program := "ytohneemghiehdaadoor", sum := "27915076b644b91faf8380ae82f5bb682ddd339b6cf8706deb0ca463f2eb9e7e", func := "sealskin/sealskinlaw08.CipherSeals", spec := "cipherSeals", unfollowed := true, recurses := true, named := ["sealskin/hash.order"], apart := false, laid := [("sealskin/hash.order", laid_sealskin_hash_order)] }
def CipherSealsSaid : Prop := cipherSealsRow.holds Tryd.pinned (OpenSpec.ofChange cipherSealsSpec)

/-- ITS FALSE NEIGHBOUR: 'it returns false'. Refute it at one input. -/
def cipherSealsWrong : ChangeSpec := { name := "cipherSeals", fn := fun _ => fun
  | [d1, d2, d3, d4] => { results := [.lit (.bool false)], args := [d1, d2, d3, d4] }
  | _ => none }
def CipherSealsWrongFalsely : Prop := cipherSealsRow.holds Tryd.pinned (OpenSpec.ofChange cipherSealsWrong)

/-- 'sealskinlaw08.CipherOpens': WHATEVER THE INPUT: true; the input reads as it did. -/
def cipherOpensSpec : ChangeSpec := { name := "cipherOpens", fn := fun _ => fun
  | [d1, d2, d3, d4] => { results := [.lit (.bool true)], args := [d1, d2, d3, d4] }
  | _ => none }
def cipherOpensRow : OpenClaim := { program := "ytohneemghiehdaadoor", sum := "27915076b644b91faf8380ae82f5bb682ddd339b6cf8706deb0ca463f2eb9e7e", func := "sealskin/sealskinlaw08.CipherOpens", spec := "cipherOpens", unfollowed := true, recurses := true, named := ["sealskin/hash.order"], apart := false, laid := [("sealskin/hash.order", laid_sealskin_hash_order)] }
def CipherOpensSaid : Prop := cipherOpensRow.holds Tryd.pinned (OpenSpec.ofChange cipherOpensSpec)

/-- ITS FALSE NEIGHBOUR: 'it returns false'. Refute it at one input. -/
def cipherOpensWrong : ChangeSpec := { name := "cipherOpens", fn := fun _ => fun
  | [d1, d2, d3, d4] => { results := [.lit (.bool false)], args := [d1, d2, d3, d4] }
  | _ => none }
def CipherOpensWrongFalsely : Prop := cipherOpensRow.holds Tryd.pinned (OpenSpec.ofChange cipherOpensWrong)

/-- 'sealskinlaw08.CipherTells': WHATEVER THE INPUT: true; the input reads as it did. -/
def cipherTellsSpec : ChangeSpec := { name := "cipherTells", fn := fun _ => fun
  | [d1, d2, d3, d4, d5, d6] => { results := [.lit (.bool true)], args := [d1, d2, d3, d4, d5, d6] }
  | _ => none }
def cipherTellsRow : OpenClaim := { program := "ytohneemghiehdaadoor", sum := "27915076b644b91faf8380ae82f5bb682ddd339b6cf8706deb0ca463f2eb9e7e", func := "sealskin/sealskinlaw08.CipherTells", spec := "cipherTells", unfollowed := true, recurses := true, named := ["sealskin/hash.order"], apart := false, laid := [("sealskin/hash.order", laid_sealskin_hash_order)] }
def CipherTellsSaid : Prop := cipherTellsRow.holds Tryd.pinned (OpenSpec.ofChange cipherTellsSpec)

/-- ITS FALSE NEIGHBOUR: 'it returns false'. Refute it at one input. -/
def cipherTellsWrong : ChangeSpec := { name := "cipherTells", fn := fun _ => fun
  | [d1, d2, d3, d4, d5, d6] => { results := [.lit (.bool false)], args := [d1, d2, d3, d4, d5, d6] }
  | _ => none }
def CipherTellsWrongFalsely : Prop := cipherTellsRow.holds Tryd.pinned (OpenSpec.ofChange cipherTellsWrong)

/-- 'sealskinlaw08.CipherFronts': WHATEVER THE INPUT: true; the input reads as it did. -/
def cipherFrontsSpec : ChangeSpec := { name := "cipherFronts", fn := fun _ => fun
  | [d1, d2, d3, d4] => { results := [.lit (.bool true)], args := [d1, d2, d3, d4] }
  | _ => none }
def cipherFrontsRow : OpenClaim := { program := "ytohneemghiehdaadoor", sum := "27915076b644b91faf8380ae82f5bb682ddd339b6cf8706deb0ca463f2eb9e7e", func := "sealskin/sealskinlaw08.CipherFronts", spec := "cipherFronts", unfollowed := true, recurses := true, named := ["sealskin/hash.order"], apart := false, laid := [("sealskin/hash.order", laid_sealskin_hash_order)] }
def CipherFrontsSaid : Prop := cipherFrontsRow.holds Tryd.pinned (OpenSpec.ofChange cipherFrontsSpec)

/-- ITS FALSE NEIGHBOUR: 'it returns false'. Refute it at one input. -/
def cipherFrontsWrong : ChangeSpec := { name := "cipherFronts", fn := fun _ => fun
  | [d1, d2, d3, d4] => { results := [.lit (.bool false)], args := [d1, d2, d3, d4] }
  | _ => none }
def CipherFrontsWrongFalsely : Prop := cipherFrontsRow.holds Tryd.pinned (OpenSpec.ofChange cipherFrontsWrong)

/- THE SECOND FORM. 'bulk': how many values and letters a reading holds, each counted each time it is reached (what is shared counts as often as it is met; a slice's spare places count too). A statement '..UptoSaid' is the law's where the arguments, and the package variables that the reading takes, are together of bulk at most 1048576: NARROWER than '..Said'. Prove '..Said' where nothing that the law and all that it calls make is longer than what came in: it says more and counts as full. Else prove '..UptoSaid'. A law counts once. -/
mutual
def uptoBulk {H : Type} : DataW H → Nat
  | .lit (.string bytes) => bytes.length + 1
  | .lit _ => 1
  | .nil => 1
  | .ptr d => uptoBulk d + 1
  | .slice elems spare => uptoBulkAll elems + uptoBulkAll spare + 1
  | .agg parts => uptoBulkAll parts + 1
  | .iface _ d => uptoBulk d + 1
  | .map entries => uptoBulkEntries entries + 1
  | .held _ => 1
def uptoBulkAll {H : Type} : List (DataW H) → Nat
  | [] => 0
  | d :: r => uptoBulk d + uptoBulkAll r
def uptoBulkEntries {H : Type} : List (Lit × DataW H) → Nat
  | [] => 0
  | x :: r => uptoBulkEntry x + uptoBulkEntries r
def uptoBulkEntry {H : Type} : Lit × DataW H → Nat
  | (.string bytes, d) => bytes.length + uptoBulk d + 1
  | (_, d) => uptoBulk d + 1
 end
def uptoSmall : (H : Type) → List (DataW H) → Bool := fun _ ds => decide (uptoBulkAll ds ≤ 1048576)
def OpenSpec.upto (s : _root_.Go.ChangeSpec) : _root_.Go.OpenSpec := { _root_.Go.OpenSpec.ofChange s with cond := some uptoSmall }

/-- 'sealskinlaw08.CipherBack', WHERE WHAT IT READS IS OF BULK AT MOST 1048576: true; the input reads as it did. -/
def cipherBackUptoRow : OpenClaim := { program := "ytohneemghiehdaadoor", sum := "27915076b644b91faf8380ae82f5bb682ddd339b6cf8706deb0ca463f2eb9e7e", func := "sealskin/sealskinlaw08.CipherBack", spec := "cipherBack", unfollowed := true, recurses := true, named := ["sealskin/hash.order"], apart := false, laid := [("sealskin/hash.order", laid_sealskin_hash_order)], narrowed := true }
def CipherBackUptoSaid : Prop := cipherBackUptoRow.holds Tryd.pinned (OpenSpec.upto cipherBackSpec)

/-- 'sealskinlaw08.CipherForm', WHERE WHAT IT READS IS OF BULK AT MOST 1048576: true; the input reads as it did. -/
def cipherFormUptoRow : OpenClaim := { program := "ytohneemghiehdaadoor", sum := "27915076b644b91faf8380ae82f5bb682ddd339b6cf8706deb0ca463f2eb9e7e", func := "sealskin/sealskinlaw08.CipherForm", spec := "cipherForm", unfollowed := true, recurses := true, named := ["sealskin/hash.order"], apart := false, laid := [("sealskin/hash.order", laid_sealskin_hash_order)], narrowed := true }
def CipherFormUptoSaid : Prop := cipherFormUptoRow.holds Tryd.pinned (OpenSpec.upto cipherFormSpec)

/-- 'sealskinlaw08.CipherTurns', WHERE WHAT IT READS IS OF BULK AT MOST 1048576: true; the input reads as it did. -/
def cipherTurnsUptoRow : OpenClaim := { program := "ytohneemghiehdaadoor", sum := "27915076b644b91faf8380ae82f5bb682ddd339b6cf8706deb0ca463f2eb9e7e", func := "sealskin/sealskinlaw08.CipherTurns", spec := "cipherTurns", unfollowed := true, recurses := true, named := ["sealskin/hash.order"], apart := false, laid := [("sealskin/hash.order", laid_sealskin_hash_order)], narrowed := true }
def CipherTurnsUptoSaid : Prop := cipherTurnsUptoRow.holds Tryd.pinned (OpenSpec.upto cipherTurnsSpec)

/-- 'sealskinlaw08.CipherSeals', WHERE WHAT IT READS IS OF BULK AT MOST 1048576: true; the input reads as it did. -/
def cipherSealsUptoRow : OpenClaim := { program := "ytohneemghiehdaadoor", sum := "27915076b644b91faf8380ae82f5bb682ddd339b6cf8706deb0ca463f2eb9e7e", func := "sealskin/sealskinlaw08.CipherSeals", spec := "cipherSeals", unfollowed := true, recurses := true, named := ["sealskin/hash.order"], apart := false, laid := [("sealskin/hash.order", laid_sealskin_hash_order)], narrowed := true }
def CipherSealsUptoSaid : Prop := cipherSealsUptoRow.holds Tryd.pinned (OpenSpec.upto cipherSealsSpec)

/-- 'sealskinlaw08.CipherOpens', WHERE WHAT IT READS IS OF BULK AT MOST 1048576: true; the input reads as it did. -/
def cipherOpensUptoRow : OpenClaim := { program := "ytohneemghiehdaadoor", sum := "27915076b644b91faf8380ae82f5bb682ddd339b6cf8706deb0ca463f2eb9e7e", func := "sealskin/sealskinlaw08.CipherOpens", spec := "cipherOpens", unfollowed := true, recurses := true, named := ["sealskin/hash.order"], apart := false, laid := [("sealskin/hash.order", laid_sealskin_hash_order)], narrowed := true }
def CipherOpensUptoSaid : Prop := cipherOpensUptoRow.holds Tryd.pinned (OpenSpec.upto cipherOpensSpec)

/-- 'sealskinlaw08.CipherTells', WHERE WHAT IT READS IS OF BULK AT MOST 1048576: true; the input reads as it did. -/
def cipherTellsUptoRow : OpenClaim := { program := "ytohneemghiehdaadoor", sum := "27915076b644b91faf8380ae82f5bb682ddd339b6cf8706deb0ca463f2eb9e7e", func := "sealskin/sealskinlaw08.CipherTells", spec := "cipherTells", unfollowed := true, recurses := true, named := ["sealskin/hash.order"], apart := false, laid := [("sealskin/hash.order", laid_sealskin_hash_order)], narrowed := true }
def CipherTellsUptoSaid : Prop := cipherTellsUptoRow.holds Tryd.pinned (OpenSpec.upto cipherTellsSpec)

/-- 'sealskinlaw08.CipherFronts', WHERE WHAT IT READS IS OF BULK AT MOST 1048576: true; the input reads as it did. -/
def cipherFrontsUptoRow : OpenClaim := { program := "ytohneemghiehdaadoor", sum := "27915076b644b91faf8380ae82f5bb682ddd339b6cf8706deb0ca463f2eb9e7e", func := "sealskin/sealskinlaw08.CipherFronts", spec := "cipherFronts", unfollowed := true, recurses := true, named := ["sealskin/hash.order"], apart := false, laid := [("sealskin/hash.order", laid_sealskin_hash_order)], narrowed := true }
def CipherFrontsUptoSaid : Prop := cipherFrontsUptoRow.holds Tryd.pinned (OpenSpec.upto cipherFrontsSpec)

end Rows
end Go.Proofs.YtohneemghiehdaaDoor
