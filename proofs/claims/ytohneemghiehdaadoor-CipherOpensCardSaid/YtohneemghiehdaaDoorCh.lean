/- The contracts of the keyed digests. -/
import Derived.Test.YtohneemghiehdaaDoorChp
import Derived.Test.YtohneemghiehdaaDoorCb
import Derived.Test.YtohneemghiehdaaDoorLx6
import Derived.Test.YtohneemghiehdaaDoorHc
import Derived.Test.YtohneemghiehdaaDoorHe
set_option linter.unusedVariables false
set_option linter.unusedSimpArgs false
namespace Go.Proofs.YtohneemghiehdaaDoor
open Go Go.Sx Go.Lx
theorem rdLL_of {G : Gh} {w : World} {A : Option Addr} {L : List (List UInt8)} (hS : St G w) (h : Sl G A L) : RdLL w A L := fun j bs hj => by
  obtain ⟨h1, A2, c2, _, h3, h4⟩ := h.atL (show At L (j : Int) bs from ⟨Int.natCast_nonneg _, by simpa using hj⟩)
  refine ⟨h1, A2, c2, ?_, h3.fz.rd hS⟩
  have := hS _ _ h4
  simpa using this
theorem hash_Keyed_ok {G : Gh} {w : World} (hS : St G w) (hg : GL G) {A0 : Option Addr} {c0 : Nat} {x0 : List UInt8} (_hc0 : x0.length ≤ c0) (hs0 : Sl G A0 x0) {A1 : Option Addr} {c1 : Nat} {x1 : List (List UInt8)} (_hc1 : x1.length ≤ c1) (hs1 : Sl G A1 x1) {Q : Arr 32 UInt8 → Prop} (h : hash_Keyed x0 x1 Q) : Calls Tryd.prog 34 #[.slice A0 x0.length c0, .slice A1 x1.length c1] w fun e w2 => ∃ (r0 : Arr 32 UInt8) (L H : Gh), e = .returned (.agg (r0.l.map vb).toArray) ∧ Inv [] G w L H w2 ∧ r0.l.length = 32 ∧ Q r0 :=
  (keyed_any A0 x0 c0 _ A1 x1 c1 w rfl (hs0.fz.rd hS) h.1 (rdLL_of hS hs1) h.2.1 h.2.2.1 (hg w hS)).mono fun e w2 ⟨he, hF⟩ => ⟨⟨Bl.keyed x0 x1⟩, _, _, he, (Inv.start hS).fr0 hF, keyed_len _ _, h.2.2.2⟩
theorem sealskinref07_Keyed_ok {G : Gh} {w : World} (hS : St G w) (_hg : GL G) {A0 : Option Addr} {c0 : Nat} {x0 : List UInt8} (_hc0 : x0.length ≤ c0) (hs0 : Sl G A0 x0) {A1 : Option Addr} {c1 : Nat} {x1 : List UInt8} (_hc1 : x1.length ≤ c1) (hs1 : Sl G A1 x1) {Q : Arr 32 UInt8 → Prop} (h : sealskinref07_Keyed x0 x1 Q) : Calls Tryd.prog 37 #[.slice A0 x0.length c0, .slice A1 x1.length c1] w fun e w2 => ∃ (r0 : Arr 32 UInt8) (L H : Gh), e = .returned (.agg (r0.l.map vb).toArray) ∧ Inv [] G w L H w2 ∧ r0.l.length = 32 ∧ Q r0 :=
  (rkeyed_any A0 x0 _ c0 A1 x1 _ c1 w rfl rfl (hs0.fz.rd hS) h.1 (hs1.fz.rd hS) h.2.1).mono fun e w2 ⟨he, hF⟩ => ⟨⟨Bl.keyed x0 [x1]⟩, _, _, he, (Inv.start hS).fr0 hF, keyed_len _ _, h.2.2⟩
end Go.Proofs.YtohneemghiehdaaDoor
