/- OctetNobody in the words of the last texts. -/
import Derived.Test.YtdnpdljnjoegiaaDoorOn
import Derived.Test.YtdnpdljnjoegiaaDoorOmReads
set_option linter.unusedVariables false
set_option linter.unusedSimpArgs false
namespace Go.Lx
def sealskinlaw02_OctetNobody (_x0 : sealskinlaw02_Ask) (Q : Bool → Prop) : Prop := Q true
end Go.Lx
namespace Go.Proofs.YtdnpdljnjoegiaaDoor
open Go Go.Sx Go.Lx
theorem sealskinlaw02_OctetNobody_ok {G : Gh} {w : World} (hS : St G w) (hg : GL G) {l0 : List Value} {x0 : sealskinlaw02_Ask} (hr0 : Rp.cs G x0 l0) {Q : Bool → Prop} (h : sealskinlaw02_OctetNobody x0 Q) : Calls Tryd.prog 10 #[.agg l0.toArray] w fun e w2 => ∃ (r0 : Bool) (L H : Gh), e = .returned (.bool r0) ∧ Inv [] G w L H w2 ∧ Q r0 := by
  obtain ⟨a, b, c⟩ := x0
  have e : l0 = [vi a, vi b, vi c] := hr0
  subst e
  exact (law_nobody a b c w hS hg).mono fun e w2 ⟨he, hF⟩ => ⟨true, _, _, he, (Inv.start hS).fr0 hF, h⟩
end Go.Proofs.YtdnpdljnjoegiaaDoor
namespace Go.Lx
theorem OctetNobody_all (x0 : sealskinlaw02_Ask) (_w0 : (-9223372036854775808 ≤ x0.Op_ ∧ x0.Op_ ≤ 9223372036854775807) ∧ (-9223372036854775808 ≤ x0.Lo_ ∧ x0.Lo_ ≤ 9223372036854775807) ∧ (-9223372036854775808 ≤ x0.Hi_ ∧ x0.Hi_ ≤ 9223372036854775807)) : sealskinlaw02_OctetNobody x0 (fun r => r = true) := rfl
end Go.Lx
