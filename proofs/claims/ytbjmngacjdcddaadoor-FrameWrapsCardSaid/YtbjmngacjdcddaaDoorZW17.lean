/- What is shown of the program on the way to the law. -/
import Derived.Test.YtbjmngacjdcddaaDoorZW1
import Derived.Test.YtbjmngacjdcddaaDoorZW2
import Derived.Test.YtbjmngacjdcddaaDoorZW4
import Derived.Test.YtbjmngacjdcddaaDoorZW8
import Derived.Test.YtbjmngacjdcddaaDoorZW10
import Derived.Test.YtbjmngacjdcddaaDoorZW13
import Derived.Test.YtbjmngacjdcddaaDoorZW15
set_option linter.unusedVariables false
set_option linter.unusedSimpArgs false
namespace Go.Proofs.YtbjmngacjdcddaaDoor
open Go Go.Sx Go.Lx
theorem rdLL_of {G : Gh} {w : World} {A : Option Addr} {L : List (List UInt8)} (hS : St G w) (h : Sl G A L) : RdLL w A L := fun j bs hj => by
 obtain ⟨h1, A2, c2, _, h3, h4⟩ := h.atL (show At L (j : Int) bs from ⟨Int.natCast_nonneg _, by simpa using hj⟩)
 refine ⟨h1, A2, c2, ?_, h3.fz.rd hS⟩
 have := hS _ _ h4
 simpa using this
theorem hash_Keyed_ok {G : Gh} {w : World} (hS : St G w) (hg : GL G) {A0 : Option Addr} {c0 : Nat} {x0 : List UInt8} (_hc0 : x0.length ≤ c0) (hs0 : Sl G A0 x0) {A1 : Option Addr} {c1 : Nat} {x1 : List (List UInt8)} (_hc1 : x1.length ≤ c1) (hs1 : Sl G A1 x1) {Q : Arr 32 UInt8 → Prop} (h : hash_Keyed x0 x1 Q) : Calls Tryd.prog 78 #[.slice A0 x0.length c0, .slice A1 x1.length c1] w fun e w2 => ∃ (r0 : Arr 32 UInt8) (L H : Gh), e = .returned (.agg (r0.l.map vb).toArray) ∧ Inv [] G w L H w2 ∧ r0.l.length = 32 ∧ Q r0 :=
 (keyed_any A0 x0 c0 _ A1 x1 c1 w rfl (hs0.fz.rd hS) h.1 (rdLL_of hS hs1) h.2.1 h.2.2.1 (hg w hS).2).mono fun e w2 ⟨he, hF⟩ => ⟨⟨Bl.keyed x0 x1⟩, _, _, he, (Inv.start hS).fr0 hF, keyed_len _ _, h.2.2.2⟩
theorem sealskinref07_Keyed_ok {G : Gh} {w : World} (hS : St G w) (_hg : GL G) {A0 : Option Addr} {c0 : Nat} {x0 : List UInt8} (_hc0 : x0.length ≤ c0) (hs0 : Sl G A0 x0) {A1 : Option Addr} {c1 : Nat} {x1 : List UInt8} (_hc1 : x1.length ≤ c1) (hs1 : Sl G A1 x1) {Q : Arr 32 UInt8 → Prop} (h : sealskinref07_Keyed x0 x1 Q) : Calls Tryd.prog 79 #[.slice A0 x0.length c0, .slice A1 x1.length c1] w fun e w2 => ∃ (r0 : Arr 32 UInt8) (L H : Gh), e = .returned (.agg (r0.l.map vb).toArray) ∧ Inv [] G w L H w2 ∧ r0.l.length = 32 ∧ Q r0 :=
 (rkeyed_any A0 x0 _ c0 A1 x1 _ c1 w rfl rfl (hs0.fz.rd hS) h.1 (hs1.fz.rd hS) h.2.1).mono fun e w2 ⟨he, hF⟩ => ⟨⟨Bl.keyed x0 [x1]⟩, _, _, he, (Inv.start hS).fr0 hF, keyed_len _ _, h.2.2⟩
theorem slices_Concat_ok {G : Gh} {w : World} (hS : St G w) (_hg : GL G) {A0 : Option Addr} {c0 : Nat} {x0 : List (List UInt8)} (_hc0 : x0.length ≤ c0) (hs0 : Sl G A0 x0) {Q : List UInt8 → Prop} (h : slices_Concat x0 Q) : Calls Tryd.prog 60 #[.slice A0 x0.length c0] w fun e w2 => ∃ (A0 : Option Addr) (c0 : Nat) (r0 : List UInt8) (L H : Gh), e = .returned (.slice A0 r0.length c0) ∧ Inv [] G w L H w2 ∧ r0.length ≤ c0 ∧ Sl L A0 r0 ∧ Q r0 :=
 (concat_any A0 x0 c0 w (rdLL_of hS hs0) h.1 h.2.1).mono fun e w2 ⟨A, c, he, hO, hF⟩ => by
  obtain ⟨L2, H2, h1, _, h3⟩ := Inv.newRd (M := []) (Inv.start hS) hF hO.rd hO.off
  exact ⟨A, c, x0.flatten, L2, H2, he, h1, hO.cap, h3, h.2.2⟩
theorem keyT_len (k : List UInt8) {n : Nat} (h : n ≤ 8160) : ((Bl.keyO k 255).take n).length = n := by rw [List.length_take, keyO_len]; omega
theorem hash_Key_ok {G : Gh} {w : World} (hS : St G w) (hg : GL G) {A0 : Option Addr} {c0 : Nat} {x0 : List UInt8} (_hc0 : x0.length ≤ c0) (hs0 : Sl G A0 x0) {A1 : Option Addr} {c1 : Nat} {x1 : List UInt8} (_hc1 : x1.length ≤ c1) (hs1 : Sl G A1 x1) {x2 : Int} {Q : List UInt8 → Int → Prop} (h : hash_Key x0 x1 x2 Q) : Calls Tryd.prog 56 #[.slice A0 x0.length c0, .slice A1 x1.length c1, vi x2] w fun e w2 => ∃ (A0 : Option Addr) (c0 : Nat) (r0 : List UInt8) (r1 : Int) (L H : Gh), e = .returned (.tuple #[.slice A0 r0.length c0, vi r1]) ∧ Inv [] G w L H w2 ∧ r0.length ≤ c0 ∧ Sl L A0 r0 ∧ Q r0 r1 := by
 obtain ⟨h1, h2, h3, h4, h5⟩ := h
 obtain ⟨n, rfl⟩ := Int.eq_ofNat_of_zero_le h3
 rw [Int.toNat_natCast] at h5
 refine (key_any A0 c0 x0 A1 c1 x1 n w (by omega) (hs0.fz.rd hS) h1 (hs1.fz.rd hS) h2 (hg w hS).2).mono fun e w2 ⟨A, c, he, hO, hF⟩ => ?_
 obtain ⟨L2, H2, k1, _, k3⟩ := Inv.newRd (M := []) (Inv.start hS) hF hO.rd hO.off
 exact ⟨A, c, _, 0, L2, H2, by rw [keyT_len _ (by omega)]; exact he, k1, hO.cap, k3, h5⟩
end Go.Proofs.YtbjmngacjdcddaaDoor

