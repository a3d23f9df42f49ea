/- What the walks of this seat show of Wk. -/
import Derived.Test.YtghfohhekhedaaaDoorWh
import Derived.Test.YtghfohhekhedaaaDoorProg
set_option linter.unusedVariables false
set_option linter.unusedSimpArgs false
namespace Go.Proofs.YtghfohhekhedaaaDoor
open Go Go.Sx

namespace TWk
theorem hm : Tryd.prog.follows .mixedOrders = true := by kernel_rfl
theorem ag36 : aggB Tryd.prog 36 = some true := by kernel_rfl
theorem bd13 : bodied Tryd.prog 13 = true := by kernel_rfl
theorem bd19 : bodied Tryd.prog 19 = true := by kernel_rfl
theorem bd21 : bodied Tryd.prog 21 = true := by kernel_rfl
theorem bd25 : bodied Tryd.prog 25 = true := by kernel_rfl
theorem sz36 : sz Tryd.prog 36 = some 8 := by kernel_rfl
end TWk
set_option maxHeartbeats 4000000 in
theorem law_equals (A0 : Option Addr) (c0 : Nat) (a : List UInt8) (A1 : Option Addr) (c1 : Nat) (b : List UInt8) (w : World) (hR0 : Rd w A0 (a.map vb)) (hl0 : a.length ≤ 140737488351232) (hR1 : Rd w A1 (b.map vb)) (hl1 : b.length ≤ 140737488351232) (hO : Rd w (some ⟨0, 0, none⟩) ordC) :
    Calls Tryd.prog 8 #[.slice A0 a.length c0, .slice A1 b.length c1] w fun e w2 => e = .returned (.bool true) ∧ Fr [] w w2 := by
  have hF := Fr.refl [] w
  refine calls_W 21 Tryd.func8 rfl Tryd.ntmps8 rfl [.tmp 4] rfl ?_
  refine W_seq_k fun K1_ hK1_ => ?_
  refine W_region [some 4] rfl ?_
  refine Ops_step (R_assign rfl) rfl rfl ?_
  refine Ops_nil ?_
  refine then_n (hK1_ _ _ ?_)
  clear hK1_ K1_
  refine W_seq_k fun K2_ hK2_ => ?_
  refine W_region [some 5, some 6, some 7, some 8, some 9, some 10, some 11, some 12, some 13, some 14, some 15, some 16, some 17, some 18, some 19, some 20, some 4] rfl ?_
  refine Ops_step (R_move rfl) rfl rfl ?_
  refine Ops_step (R_move rfl) rfl rfl ?_
  refine Ops_call (C_func TWk.bd25 rfl) rfl rfl ?_
  refine (equal_any _ _ _ _ _ _ _ _ _ rfl rfl (hR0.fr0 hF) (hR1.fr0 hF) (by omega)).mono ?_
  rintro _ w7_ ⟨rfl, hF7_⟩
  replace hF := hF.fr0 hF7_
  clear hF7_
  refine ⟨_, rfl, ?_⟩
  refine Ops_step (R_move rfl) rfl rfl ?_
  refine Ops_step (R_move rfl) rfl rfl ?_
  refine Ops_call (C_func TWk.bd21 rfl) rfl rfl ?_
  refine (beq_any _ _ _ _ _ _ _ _ _ rfl rfl (hR0.fr0 hF) (hR1.fr0 hF)).mono ?_
  rintro _ _ ⟨rfl, rfl⟩
  refine ⟨_, rfl, ?_⟩
  refine Ops_step (R_boolEq Tryd.underlying4 rfl rfl) rfl rfl ?_
  refine Ops_step (R_move rfl) rfl rfl ?_
  refine Ops_known (b := true) 12 rfl (by simp) ?_
  refine Ops_step (R_move rfl) rfl rfl ?_
  refine Ops_step (R_move rfl) rfl rfl ?_
  have hz15 := hF.size
  refine Ops_call (C_func TWk.bd19 rfl) rfl rfl ?_
  refine (sclone_any _ _ _ _ _ rfl (hR0.fr0 hF) (by omega)).mono ?_
  rintro _ w15_ ⟨A15, c15, rfl, hQ15, hF15_⟩
  replace hF := hF.fr0 hF15_
  clear hF15_
  replace hQ15 := hQ15.le hz15
  refine ⟨_, rfl, ?_⟩
  refine Ops_call (C_func TWk.bd25 rfl) rfl rfl ?_
  refine (equal_any _ _ _ _ _ _ _ _ _ rfl rfl (hR0.fr0 hF) hQ15.rd (by omega)).mono ?_
  rintro _ w16_ ⟨rfl, hF16_⟩
  replace hF := hF.fr0 hF16_
  replace hQ15 := hQ15.fr0 hF16_
  clear hF16_
  refine ⟨_, rfl, ?_⟩
  refine Ops_step (R_pick_true rfl rfl) rfl rfl ?_
  refine Ops_step (R_move rfl) rfl rfl ?_
  refine Ops_known (b := true) 18 rfl (by simp) ?_
  refine Ops_call (C_func TWk.bd13 rfl) rfl rfl ?_
  refine (awake_any _ (hO.fr0 hF)).mono ?_
  rintro _ w19_ ⟨rfl, hF19_⟩
  replace hF := hF.fr0 hF19_
  replace hQ15 := hQ15.fr0 hF19_
  clear hF19_
  refine ⟨_, rfl, ?_⟩
  refine Ops_step (R_pick_true rfl rfl) rfl rfl ?_
  refine Ops_step (R_assign rfl) rfl rfl ?_
  refine Ops_nil ?_
  refine then_n (hK2_ _ _ ?_)
  clear hK2_ K2_
  refine W_keepB [4] fun B3 hB3_ => ?_
  simp only [pickE, lookE, putE, zipE, args0, Nat.reduceAdd, Nat.zero_add, List.cons_append, List.nil_append, Nat.reduceBEq, cond_true, cond_false] at hB3_
  subst hB3_
  refine W_ret ?_
  refine ⟨_, ⟨_, _, rfl, rfl, rfl⟩, ?_⟩
  exact ⟨rfl, hF⟩

end Go.Proofs.YtghfohhekhedaaaDoor
