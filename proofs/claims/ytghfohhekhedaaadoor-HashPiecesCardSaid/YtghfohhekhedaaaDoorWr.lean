/- What the walks of this seat show of Wr. -/
import Derived.Test.YtghfohhekhedaaaDoorWq
import Derived.Test.YtghfohhekhedaaaDoorProg
set_option linter.unusedVariables false
set_option linter.unusedSimpArgs false
namespace Go.Proofs.YtghfohhekhedaaaDoor
open Go Go.Sx

namespace TWr
theorem hm : Tryd.prog.follows .mixedOrders = true := by kernel_rfl
theorem ag35 : aggB Tryd.prog 35 = some true := by kernel_rfl
theorem ag36 : aggB Tryd.prog 36 = some true := by kernel_rfl
theorem ag72 : aggB Tryd.prog 72 = some true := by kernel_rfl
theorem pl71 : partPl Tryd.prog 71 = some [(0, 1), (1, 1), (2, 1), (3, 1), (4, 1), (5, 1), (6, 1), (7, 1), (8, 1), (9, 1), (10, 1), (11, 1), (12, 1), (13, 1), (14, 1), (15, 1)] := by kernel_rfl
theorem pl72 : partPl Tryd.prog 72 = some [(0, 16), (16, 16), (32, 16), (48, 16), (64, 16), (80, 16), (96, 16), (112, 16), (128, 16), (144, 16)] := by kernel_rfl
theorem sz35 : sz Tryd.prog 35 = some 8 := by kernel_rfl
theorem sz36 : sz Tryd.prog 36 = some 8 := by kernel_rfl
theorem sz72 : sz Tryd.prog 72 = some 160 := by kernel_rfl
theorem zr71 : zr Tryd.prog 71 = some (List.replicate 16 (.int .i64 0)) := by kernel_rfl
theorem zr72 : zr Tryd.prog 72 = some ((List.replicate 10 (List.replicate 16 (.int .i64 0))).flatten) := by kernel_rfl
end TWr
set_option maxHeartbeats 4000000 in
set_option maxRecDepth 100000 in
theorem rorders_any (w : World) : Calls Tryd.prog 37 #[] w fun e w2 => e = .returned (.agg ordCI.toArray) ∧ Fr [] w w2 := by
  have hF := Fr.refl [] w
  refine calls_W 12 Tryd.func37 rfl Tryd.ntmps37 rfl [.cell 0 72] rfl ?_
  refine W_seq_k fun K1_ hK1_ => ?_
  refine W_region [some 0] rfl ?_
  have hz0_hF := hF.size
  refine Ops_to (R_alloc TWr.zr72) rfl rfl ?_
  rintro _ w0_ ⟨b0, rfl, hb0, hB0, hF0_⟩
  have hl0 := hB0.lt
  replace hF := hF.fr0 hF0_
  clear hF0_
  refine Ops_nil ?_
  refine then_n (hK1_ _ _ ?_)
  clear hK1_ K1_
  refine W_seq_k fun K2_ hK2_ => ?_
  refine W_region [some 1, some 2, some 3, some 4, some 5, some 6, some 7, some 8, some 9, some 10, some 11, none] rfl ?_
  refine Ops_step (R_build (pl := [(0, 1), (1, 1), (2, 1), (3, 1), (4, 1), (5, 1), (6, 1), (7, 1), (8, 1), (9, 1), (10, 1), (11, 1), (12, 1), (13, 1), (14, 1), (15, 1)]) (cs := (Bl.orders.getD 0 []).map ci) TWr.zr71 TWr.pl71 rfl rfl (by kernel_rfl)) rfl rfl ?_
  refine Ops_step (R_build (pl := [(0, 1), (1, 1), (2, 1), (3, 1), (4, 1), (5, 1), (6, 1), (7, 1), (8, 1), (9, 1), (10, 1), (11, 1), (12, 1), (13, 1), (14, 1), (15, 1)]) (cs := (Bl.orders.getD 1 []).map ci) TWr.zr71 TWr.pl71 rfl rfl (by kernel_rfl)) rfl rfl ?_
  refine Ops_step (R_build (pl := [(0, 1), (1, 1), (2, 1), (3, 1), (4, 1), (5, 1), (6, 1), (7, 1), (8, 1), (9, 1), (10, 1), (11, 1), (12, 1), (13, 1), (14, 1), (15, 1)]) (cs := (Bl.orders.getD 2 []).map ci) TWr.zr71 TWr.pl71 rfl rfl (by kernel_rfl)) rfl rfl ?_
  refine Ops_step (R_build (pl := [(0, 1), (1, 1), (2, 1), (3, 1), (4, 1), (5, 1), (6, 1), (7, 1), (8, 1), (9, 1), (10, 1), (11, 1), (12, 1), (13, 1), (14, 1), (15, 1)]) (cs := (Bl.orders.getD 3 []).map ci) TWr.zr71 TWr.pl71 rfl rfl (by kernel_rfl)) rfl rfl ?_
  refine Ops_step (R_build (pl := [(0, 1), (1, 1), (2, 1), (3, 1), (4, 1), (5, 1), (6, 1), (7, 1), (8, 1), (9, 1), (10, 1), (11, 1), (12, 1), (13, 1), (14, 1), (15, 1)]) (cs := (Bl.orders.getD 4 []).map ci) TWr.zr71 TWr.pl71 rfl rfl (by kernel_rfl)) rfl rfl ?_
  refine Ops_step (R_build (pl := [(0, 1), (1, 1), (2, 1), (3, 1), (4, 1), (5, 1), (6, 1), (7, 1), (8, 1), (9, 1), (10, 1), (11, 1), (12, 1), (13, 1), (14, 1), (15, 1)]) (cs := (Bl.orders.getD 5 []).map ci) TWr.zr71 TWr.pl71 rfl rfl (by kernel_rfl)) rfl rfl ?_
  refine Ops_step (R_build (pl := [(0, 1), (1, 1), (2, 1), (3, 1), (4, 1), (5, 1), (6, 1), (7, 1), (8, 1), (9, 1), (10, 1), (11, 1), (12, 1), (13, 1), (14, 1), (15, 1)]) (cs := (Bl.orders.getD 6 []).map ci) TWr.zr71 TWr.pl71 rfl rfl (by kernel_rfl)) rfl rfl ?_
  refine Ops_step (R_build (pl := [(0, 1), (1, 1), (2, 1), (3, 1), (4, 1), (5, 1), (6, 1), (7, 1), (8, 1), (9, 1), (10, 1), (11, 1), (12, 1), (13, 1), (14, 1), (15, 1)]) (cs := (Bl.orders.getD 7 []).map ci) TWr.zr71 TWr.pl71 rfl rfl (by kernel_rfl)) rfl rfl ?_
  refine Ops_step (R_build (pl := [(0, 1), (1, 1), (2, 1), (3, 1), (4, 1), (5, 1), (6, 1), (7, 1), (8, 1), (9, 1), (10, 1), (11, 1), (12, 1), (13, 1), (14, 1), (15, 1)]) (cs := (Bl.orders.getD 8 []).map ci) TWr.zr71 TWr.pl71 rfl rfl (by kernel_rfl)) rfl rfl ?_
  refine Ops_step (R_build (pl := [(0, 1), (1, 1), (2, 1), (3, 1), (4, 1), (5, 1), (6, 1), (7, 1), (8, 1), (9, 1), (10, 1), (11, 1), (12, 1), (13, 1), (14, 1), (15, 1)]) (cs := (Bl.orders.getD 9 []).map ci) TWr.zr71 TWr.pl71 rfl rfl (by kernel_rfl)) rfl rfl ?_
  refine Ops_step (R_build (pl := [(0, 16), (16, 16), (32, 16), (48, 16), (64, 16), (80, 16), (96, 16), (112, 16), (128, 16), (144, 16)]) (cs := ordCI) TWr.zr72 TWr.pl72 rfl rfl (by kernel_rfl)) rfl rfl ?_
  refine Ops_to0 (R_storeN TWr.sz72 (by kernel_rfl) rfl rfl hB0 (by simp) (by kernel_rfl)) rfl ?_
  clear hB0
  rintro _ w3_ ⟨hB0, hF3_⟩
  replace hF := hF.then hF3_ (by simp only [List.mem_cons, List.not_mem_nil, or_false]; intro i_ hi_ hj_; omega)
  clear hF3_
  replace hB0 := hB0.to (cs' := ordCI) (by kernel_rfl)
  refine Ops_nil ?_
  refine then_n (hK2_ _ _ ?_)
  clear hK2_ K2_
  refine W_keepB [0] fun B4 hB4_ => ?_
  simp only [pickE, lookE, putE, zipE, args0, Nat.reduceAdd, Nat.zero_add, List.cons_append, List.nil_append, Nat.reduceBEq, cond_true, cond_false] at hB4_
  subst hB4_
  refine W_ret ?_
  refine ⟨_, ⟨_, _, _, rfl, rfl, run_loadVarN TWr.ag72 TWr.sz72 hB0 (by rw [show ordCI.length = 160 by kernel_rfl]; decide), rfl⟩, ?_⟩
  exact ⟨by kernel_rfl, hF⟩

end Go.Proofs.YtghfohhekhedaaaDoor
