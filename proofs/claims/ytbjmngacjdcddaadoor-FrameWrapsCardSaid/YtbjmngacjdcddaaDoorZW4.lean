/- What is shown of the program on the way to the law. -/
import Derived.Test.YtbjmngacjdcddaaDoorZW1
import Derived.Test.YtbjmngacjdcddaaDoorZW2
import Derived.Test.YtbjmngacjdcddaaDoorProg
import Derived.Shelf.Unicode.ValidAny
import Derived.Lib.LaidU8T
set_option linter.unusedVariables false
set_option linter.unusedSimpArgs false
namespace Go.Proofs.YtbjmngacjdcddaaDoor
open Go Go.Sx Go.Lx
def laysValid_ren : Go.Shelf.Ren := ⟨fun | 196 => 83 | 259 => 95 | n => n, fun | 9 => 9 | 4 => 4 | 3 => 3 | 5 => 5 | 12 => 12 | 119 => 115 | 0 => 0 | 46 => 93 | 139 => 118 | 138 => 117 | 53 => 72 | n => n, fun | 3 => 0 | 4 => 1 | n => n⟩
theorem laysValid : Go.Proofs.Lays.n196 Tryd.prog laysValid_ren := { mixed := by kernel_rfl, f196 := Tryd.func83.trans (congrArg some (by kernel_rfl)), f259 := Tryd.func95.trans (congrArg some (by kernel_rfl)), t0 := Tryd.underlying0, a0 := Tryd.isAgg0, z0 := Tryd.sizeOf0, v0 := Tryd.zeroValue0, t3 := Tryd.underlying3, a3 := Tryd.isAgg3, z3 := Tryd.sizeOf3, v3 := Tryd.zeroValue3, t4 := Tryd.underlying4, a4 := Tryd.isAgg4, z4 := Tryd.sizeOf4, v4 := Tryd.zeroValue4, t5 := Tryd.underlying5, a5 := Tryd.isAgg5, z5 := Tryd.sizeOf5, v5 := Tryd.zeroValue5, t9 := Tryd.underlying9, a9 := Tryd.isAgg9, z9 := Tryd.sizeOf9, v9 := Tryd.zeroValue9, t12 := Tryd.underlying12, a12 := Tryd.isAgg12, z12 := Tryd.sizeOf12, v12 := Tryd.zeroValue12, t46 := Tryd.underlying93, a46 := Tryd.isAgg93, z46 := Tryd.sizeOf93, v46 := Tryd.zeroValue93, t53 := Tryd.underlying72, a53 := Tryd.isAgg72, z53 := Tryd.sizeOf72, v53 := Tryd.zeroValue72, t119 := Tryd.underlying115, a119 := Tryd.isAgg115, z119 := Tryd.sizeOf115, t138 := Tryd.underlying117, a138 := Tryd.isAgg117, z138 := Tryd.sizeOf117, v138 := Tryd.zeroValue117, t139 := Tryd.underlying118, a139 := Tryd.isAgg118, z139 := Tryd.sizeOf118, v139 := Tryd.zeroValue118, g3 := by kernel_rfl, g4 := by kernel_rfl }
def laysCount_ren : Go.Shelf.Ren := ⟨fun | 195 => 84 | n => n, fun | 9 => 9 | 3 => 3 | 0 => 0 | 4 => 4 | n => n, fun | n => n⟩
theorem laysCount : Go.Proofs.Lays.n195 Tryd.prog laysCount_ren := { mixed := by kernel_rfl, f195 := Tryd.func84.trans (congrArg some (by kernel_rfl)), t0 := Tryd.underlying0, a0 := Tryd.isAgg0, z0 := Tryd.sizeOf0, v0 := Tryd.zeroValue0, t3 := Tryd.underlying3, a3 := Tryd.isAgg3, z3 := Tryd.sizeOf3, v3 := Tryd.zeroValue3, t4 := Tryd.underlying4, a4 := Tryd.isAgg4, z4 := Tryd.sizeOf4, v4 := Tryd.zeroValue4, t9 := Tryd.underlying9, a9 := Tryd.isAgg9, z9 := Tryd.sizeOf9, v9 := Tryd.zeroValue9 }


def GL (G : Gh) : Prop := ∀ w, St G w → Go.Lib.Utf8Tabs 0 1 w ∧ Rd w (some ⟨2, 0, none⟩) ordC
theorem GL.up {G G' : Gh} (h : GL G) (hl : Le G G') : GL G' := fun w hs => h w fun a v k => hs a v (hl a v k)
theorem size_str (x : Str) : (⟨x.b.toArray⟩ : ByteArray).size = x.b.length := by simp [ByteArray.size]
theorem utf8_ValidString_ok {G : Gh} {w : World} (hS : St G w) (hg : GL G) {x0 : Str} {Q : Bool → Prop} (h : utf8_ValidString x0 Q) : Calls Tryd.prog 83 #[vs x0] w fun e w2 => ∃ (r0 : Bool) (L H : Gh), e = .returned (.bool r0) ∧ Inv [] G w L H w2 ∧ Q r0 :=
 (Any.utf8_ValidString laysValid ⟨x0.b.toArray⟩ w (by rw [size_str]; exact h.1) (hg w hS).1).mono fun e w2 ⟨he, hb⟩ => ⟨_, _, _, he, (Inv.start hS).fr0 (Fr.ofBelow hb), h.2⟩
theorem utf8_RuneCountInString_ok {G : Gh} {w : World} (hS : St G w) (hg : GL G) {x0 : Str} {Q : Int → Prop} (h : utf8_RuneCountInString x0 Q) : Calls Tryd.prog 84 #[vs x0] w fun e w2 => ∃ (r0 : Int) (L H : Gh), e = .returned (vi r0) ∧ Inv [] G w L H w2 ∧ Q r0 :=
 (runeCount_every laysCount ⟨x0.b.toArray⟩ w (by rw [size_str]; exact h.1)).mono fun e w2 ⟨he, pos, hw⟩ => ⟨_, _, _, he, (Inv.start hS).fr0 (hw ▸ Fr.alloc _ _), h.2⟩
end Go.Proofs.YtbjmngacjdcddaaDoor

