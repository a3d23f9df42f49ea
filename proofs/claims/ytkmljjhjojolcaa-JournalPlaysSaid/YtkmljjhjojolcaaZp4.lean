/- What is shown of the program on the way to the law. -/
import Derived.Test.YtkmljjhjojolcaaZp1
import Derived.Test.YtkmljjhjojolcaaZp2
set_option linter.unusedVariables false
set_option linter.unusedSimpArgs false
namespace Go.Lx
open Go Go.Sx
instance : Rp sealskinlaw06_Do where
 n := 4
 cs := fun G x l => ∃ A1 c1, l = [vi x.Op_, vi x.Label_, vi x.N_, .slice A1 x.B_.length c1] ∧ (x.B_.length ≤ c1 ∧ Sl G A1 x.B_)
 mono := fun hl ⟨A1, c1, e, ⟨a0, b0⟩⟩ => ⟨A1, c1, e, ⟨a0, b0.up hl⟩⟩
 len := fun ⟨A1, c1, e, _⟩ => by rw [e]; rfl
 one := fun ⟨A1, c1, e, _⟩ => by rw [e]; rfl
instance : Rp arr3_List_UInt8 where
 n := 3
 cs := fun G x l => ∃ A1 c1 A2 c2 A3 c3, l = [.slice A1 x.e0_.length c1, .slice A2 x.e1_.length c2, .slice A3 x.e2_.length c3] ∧ (x.e0_.length ≤ c1 ∧ Sl G A1 x.e0_) ∧ (x.e1_.length ≤ c2 ∧ Sl G A2 x.e1_) ∧ (x.e2_.length ≤ c3 ∧ Sl G A3 x.e2_)
 mono := fun hl ⟨A1, c1, A2, c2, A3, c3, e, ⟨a0, b0⟩, ⟨a1, b1⟩, ⟨a2, b2⟩⟩ => ⟨A1, c1, A2, c2, A3, c3, e, ⟨a0, b0.up hl⟩, ⟨a1, b1.up hl⟩, ⟨a2, b2.up hl⟩⟩
 len := fun ⟨A1, c1, A2, c2, A3, c3, e, _⟩ => by rw [e]; rfl
 one := fun ⟨A1, c1, A2, c2, A3, c3, e, _⟩ => by rw [e]; rfl
instance : Rp disk_Disk where
 n := 7
 cs := fun G x l => ∃ A1 c1 A2 c2 A3 c3, l = [.slice A1 x.files_.e0_.length c1, .slice A2 x.files_.e1_.length c2, .slice A3 x.files_.e2_.length c3, vi x.room_, .bool x.off_, .bool x.armed_, vi x.left_] ∧ (x.files_.e0_.length ≤ c1 ∧ Sl G A1 x.files_.e0_) ∧ (x.files_.e1_.length ≤ c2 ∧ Sl G A2 x.files_.e1_) ∧ (x.files_.e2_.length ≤ c3 ∧ Sl G A3 x.files_.e2_)
 mono := fun hl ⟨A1, c1, A2, c2, A3, c3, e, ⟨a0, b0⟩, ⟨a1, b1⟩, ⟨a2, b2⟩⟩ => ⟨A1, c1, A2, c2, A3, c3, e, ⟨a0, b0.up hl⟩, ⟨a1, b1.up hl⟩, ⟨a2, b2.up hl⟩⟩
 len := fun ⟨A1, c1, A2, c2, A3, c3, e, _⟩ => by rw [e]; rfl
 one := fun ⟨A1, c1, A2, c2, A3, c3, e, _⟩ => by rw [e]; rfl
instance : Rp journal_record where
 n := 2
 cs := fun G x l => ∃ A1 c1, l = [vi x.label_, .slice A1 x.data_.length c1] ∧ (x.data_.length ≤ c1 ∧ Sl G A1 x.data_)
 mono := fun hl ⟨A1, c1, e, ⟨a0, b0⟩⟩ => ⟨A1, c1, e, ⟨a0, b0.up hl⟩⟩
 len := fun ⟨A1, c1, e, _⟩ => by rw [e]; rfl
 one := fun ⟨A1, c1, e, _⟩ => by rw [e]; rfl
instance : Rp octet_source where
 n := 4
 cs := fun G x l => ∃ A1 c1, l = [.slice A1 x.b_.length c1, vi x.at_, vi x.err_, .bool x.made_] ∧ (x.b_.length ≤ c1 ∧ Sl G A1 x.b_)
 mono := fun hl ⟨A1, c1, e, ⟨a0, b0⟩⟩ => ⟨A1, c1, e, ⟨a0, b0.up hl⟩⟩
 len := fun ⟨A1, c1, e, _⟩ => by rw [e]; rfl
 one := fun ⟨A1, c1, e, _⟩ => by rw [e]; rfl
instance : Rp octet_Reader where
 n := 4
 cs := fun G x l => ∃ A1 c1, l = [.slice A1 x.source_.b_.length c1, vi x.source_.at_, vi x.source_.err_, .bool x.source_.made_] ∧ (x.source_.b_.length ≤ c1 ∧ Sl G A1 x.source_.b_)
 mono := fun hl ⟨A1, c1, e, ⟨a0, b0⟩⟩ => ⟨A1, c1, e, ⟨a0, b0.up hl⟩⟩
 len := fun ⟨A1, c1, e, _⟩ => by rw [e]; rfl
 one := fun ⟨A1, c1, e, _⟩ => by rw [e]; rfl
instance : Rp sealskinref06_Record where
 n := 2
 cs := fun G x l => l = [vi x.Label_, vs x.Data_]
 mono := fun hl e => e
 len := fun e => by rw [e]; rfl
 one := fun e => by rw [e]; rfl
instance : Rp sealskinref05_Disk where
 n := 6
 cs := fun G x l => ∃ A1 c1 A2 c2 A3 c3, l = [.slice A1 x.F_.e0_.length c1, .slice A2 x.F_.e1_.length c2, .slice A3 x.F_.e2_.length c3, vi x.Room_, .bool x.Off_, vi x.Fuse_] ∧ (x.F_.e0_.length ≤ c1 ∧ Sl G A1 x.F_.e0_) ∧ (x.F_.e1_.length ≤ c2 ∧ Sl G A2 x.F_.e1_) ∧ (x.F_.e2_.length ≤ c3 ∧ Sl G A3 x.F_.e2_)
 mono := fun hl ⟨A1, c1, A2, c2, A3, c3, e, ⟨a0, b0⟩, ⟨a1, b1⟩, ⟨a2, b2⟩⟩ => ⟨A1, c1, A2, c2, A3, c3, e, ⟨a0, b0.up hl⟩, ⟨a1, b1.up hl⟩, ⟨a2, b2.up hl⟩⟩
 len := fun ⟨A1, c1, A2, c2, A3, c3, e, _⟩ => by rw [e]; rfl
 one := fun ⟨A1, c1, A2, c2, A3, c3, e, _⟩ => by rw [e]; rfl
instance : Rp sealskinref02_Reader where
 n := 3
 cs := fun G x l => ∃ A1 c1, l = [.slice A1 x.B_.length c1, vi x.At_, vi x.E_] ∧ (x.B_.length ≤ c1 ∧ Sl G A1 x.B_)
 mono := fun hl ⟨A1, c1, e, ⟨a0, b0⟩⟩ => ⟨A1, c1, e, ⟨a0, b0.up hl⟩⟩
 len := fun ⟨A1, c1, e, _⟩ => by rw [e]; rfl
 one := fun ⟨A1, c1, e, _⟩ => by rw [e]; rfl
end Go.Lx

