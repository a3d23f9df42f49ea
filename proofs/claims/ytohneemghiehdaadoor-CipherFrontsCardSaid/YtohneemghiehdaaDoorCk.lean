/- The contract of slices.Concat. -/
import Derived.Test.YtohneemghiehdaaDoorCkp
import Derived.Test.YtohneemghiehdaaDoorCh
import Derived.Test.YtohneemghiehdaaDoorHg
set_option linter.unusedVariables false
set_option linter.unusedSimpArgs false
namespace Go.Proofs.YtohneemghiehdaaDoor
open Go Go.Sx Go.Lx
theorem slices_Concat_ok {G : Gh} {w : World} (hS : St G w) (_hg : GL G) {A0 : Option Addr} {c0 : Nat} {x0 : List (List UInt8)} (_hc0 : x0.length ≤ c0) (hs0 : Sl G A0 x0) {Q : List UInt8 → Prop} (h : slices_Concat x0 Q) : Calls Tryd.prog 20 #[.slice A0 x0.length c0] w fun e w2 => ∃ (A0 : Option Addr) (c0 : Nat) (r0 : List UInt8) (L H : Gh), e = .returned (.slice A0 r0.length c0) ∧ Inv [] G w L H w2 ∧ r0.length ≤ c0 ∧ Sl L A0 r0 ∧ Q r0 :=
  (concat_any A0 x0 c0 w (rdLL_of hS hs0) h.1 h.2.1).mono fun e w2 ⟨A, c, he, hO, hF⟩ => by
    obtain ⟨L2, H2, h1, _, h3⟩ := Inv.newRd (M := []) (Inv.start hS) hF hO.rd hO.off
    exact ⟨A, c, x0.flatten, L2, H2, he, h1, hO.cap, h3, h.2.2⟩
end Go.Proofs.YtohneemghiehdaaDoor
